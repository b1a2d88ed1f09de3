/- expr: each operator over valid kids: the program and the reference answer alike, and what they answer is well-formed and small. Printed by eop.py.
expr:what the nodes' results are:well-formed,small,missing only as the zero value.
expr:the program's value of a valid expression is evS,by induction on its levels. Printed by evp.py.
Copies of values,by layer 12's function.
expr:Eval of the program. Printed by evp.py.
Buckets:which interval a value falls into,how many fall into each,and how many into none.
Buckets:the program's and the reference's loops.
Tally in plain Lean:values with their counts,in order of first appearance;the sorted list of their places.
The library's stable sort,first part:insertion,exchanges of ranges,rotation,over lists taken apart.
The library's stable sort,second part:merging in place,over lists taken apart.
The library's stable sort,third part:it gives the stable insertion sort's list.
Tally:the loop over the documents.
Tally:the counts are written,the groups sorted.
Tally,Bucket:what is counted.
The law:the counts of Tally and of Bucket add up.
What the row's condition says of the package's tables:the blocks hold the cells that the machine's table lists.
The package's tables:what the rows' condition says is what the machine's table lists;a world that holds them. -/
import Derived.Test.YtmecfjhdnbgfeaaGreatDoorPB
import Derived.Test.YtmecfjhdnbgfeaaGreatDoorPA
import Derived.Test.YtmecfjhdnbgfeaaGreatDoorSh
import Derived.Test.YtmecfjhdnbgfeaaGreatDoorEQ
import Derived.Test.YtmecfjhdnbgfeaaGreatDoorProg
import Derived.Test.YtmecfjhdnbgfeaaGreatDoorRows
import Derived.LaidLaws
import Derived.ChangeArms
import Derived.Lib.LaidTab
import Derived.PinnedBridge
import Derived.MakeChecks
import Derived.Lib.LaidIn
set_option linter.all false
namespace Go.Proofs.YtmecfjhdnbgfeaaGreatDoor
open Go.Am Dt
theorem sh1{ks:List Dt}(h:((ks.length:Int)==1)=true):∃a,ks=[a]:=by
 have h:(ks.length:Int)=1:=by simpa using h
 match ks,h with
 | [a],_=>exact⟨a,rfl⟩
 | [],h=>exact absurd h (by decide)
 |_::_::_,h=>simp only[List.length_cons]at h;omega
theorem sh2{ks:List Dt}(h:((ks.length:Int)==2)=true):∃a b,ks=[a,b]:=by
 have h:(ks.length:Int)=2:=by simpa using h
 match ks,h with
 | [a,b],_=>exact⟨a,b,rfl⟩
 | [],h=>exact absurd h (by decide)
 | [_],h=>simp only[List.length_cons,List.length_nil]at h;omega
 |_::_::_::_,h=>simp only[List.length_cons]at h;omega
theorem sh3{ks:List Dt}(h:((ks.length:Int)==3)=true):∃a b c,ks=[a,b,c]:=by
 have h:(ks.length:Int)=3:=by simpa using h
 match ks,h with
 | [a,b,c],_=>exact⟨a,b,c,rfl⟩
 | [],h=>exact absurd h (by decide)
 | [_],h=>simp only[List.length_cons,List.length_nil]at h;omega
 | [_,_],h=>simp only[List.length_cons,List.length_nil]at h;omega
 |_::_::_::_::_,h=>simp only[List.length_cons]at h;omega
theorem aox(x a:Dt)(m:Nat)(h:x.bulk<=m)(h2:x.bulk<1000000000000):jE (m+4) x a=some (cmpD x a==0):=by rw[jE,qR x a m h h2];rfl
section
variable(m:Nat)(e z:Dt)(ks:List Dt)(hk:∀k∈ks,Nd k)(hl:ks.length=(L e 6).length)(h256:ks.length<=256)(hb:e.bulk<=100000000)(hm:2000000000<=m)(hm2:m<899999999900)(hn:nodeS e=0)(h1:I e 0≠1)(h2:I e 0≠2)(h3:I e 0≠3)(h32:I e 0≠32)(h33:I e 0≠33)
include hk hl h256 hb hm hm2 hn h1 h2 h3 h32 h33
theorem opP(s3 s25:Dt->Dt->Dt->Option Dt):aJ (m+5) s3 s25 e z ks=some (opS (I e 0) e ks (mgS ks))∧Rs (opS (I e 0) e ks (mgS ks)) 1900000000:=by
 obtain⟨g1,g37,hek,hnm,_⟩:=xW hn;rw[←hl]at hek hnm;have hB:=BD ks hk;rcases Bo g1 g37 with he|he|he|he|he|he|he|he|he|he|he|he|he|he|he|he|he|he|he|he|he|he|he|he|he|he|he|he|he|he|he|he|he|he|he|he|he;all_goals rw[he]at hek
 ·exact absurd he h1
 ·exact absurd he h2
 ·exact absurd he h3
 ·rw[he];exact⟨aqf m s3 s25 e z ks (by omega) (by omega) he,(KP 4 ks).le (by omega)⟩
 ·obtain⟨a,b,rfl⟩:=sh2 hek;have ha:Nd a:=hk a (by simp);have hb':Nd b:=hk b (by simp);have hab:=ha.bulk;have hbb:=hb'.bulk;rw[he];exact⟨aqh m s3 s25 e z [a,b] (by simp) (by simp;omega) (.inr (.inr ⟨.inl rfl,a,b,rfl⟩)) he,(KP 5 [a,b]).le (by omega)⟩
 ·rw[he];exact⟨aqg m s3 s25 e z ks (by omega) (by omega) he,(KP 6 ks).le (by omega)⟩
 ·obtain⟨a,b,rfl⟩:=sh2 hek;have ha:Nd a:=hk a (by simp);have hb':Nd b:=hk b (by simp);have hab:=ha.bulk;have hbb:=hb'.bulk;rw[he];exact⟨aqi m s3 s25 e z [a,b] (by simp) (by simp;omega) (.inr (.inr ⟨.inr (.inl rfl),a,b,rfl⟩)) he,(KP 7 [a,b]).le (by omega)⟩
 ·obtain⟨a,b,rfl⟩:=sh2 hek;have ha:Nd a:=hk a (by simp);have hb':Nd b:=hk b (by simp);have hab:=ha.bulk;have hbb:=hb'.bulk;rw[he];exact⟨aqj m s3 s25 e z [a,b] (by simp) (by simp;omega) (.inr (.inr ⟨.inr (.inr rfl),a,b,rfl⟩)) he,(KP 8 [a,b]).le (by omega)⟩
 ·obtain⟨a,b,rfl⟩:=sh2 hek;have ha:Nd a:=hk a (by simp);have hb':Nd b:=hk b (by simp);have hab:=ha.bulk;have hbb:=hb'.bulk;rw[he];exact⟨aqk m s3 s25 e z a b _ (qR a b (m+2) (by omega) (by omega)) he,(C9 9 (cmpD a b)).le (by omega)⟩
 ·obtain⟨a,b,rfl⟩:=sh2 hek;have ha:Nd a:=hk a (by simp);have hb':Nd b:=hk b (by simp);have hab:=ha.bulk;have hbb:=hb'.bulk;rw[he];exact⟨anI m s3 s25 e z a b _ (qR a b (m+2) (by omega) (by omega)) he,(C9 10 (cmpD a b)).le (by omega)⟩
 ·obtain⟨a,b,rfl⟩:=sh2 hek;have ha:Nd a:=hk a (by simp);have hb':Nd b:=hk b (by simp);have hab:=ha.bulk;have hbb:=hb'.bulk;rw[he];exact⟨anJ m s3 s25 e z a b _ (qR a b (m+2) (by omega) (by omega)) he,(C9 11 (cmpD a b)).le (by omega)⟩
 ·obtain⟨a,b,rfl⟩:=sh2 hek;have ha:Nd a:=hk a (by simp);have hb':Nd b:=hk b (by simp);have hab:=ha.bulk;have hbb:=hb'.bulk;rw[he];exact⟨anK m s3 s25 e z a b _ (qR a b (m+2) (by omega) (by omega)) he,(C9 12 (cmpD a b)).le (by omega)⟩
 ·obtain⟨a,b,rfl⟩:=sh2 hek;have ha:Nd a:=hk a (by simp);have hb':Nd b:=hk b (by simp);have hab:=ha.bulk;have hbb:=hb'.bulk;rw[he];exact⟨anL m s3 s25 e z a b _ (qR a b (m+2) (by omega) (by omega)) he,(C9 13 (cmpD a b)).le (by omega)⟩
 ·obtain⟨a,b,rfl⟩:=sh2 hek;have ha:Nd a:=hk a (by simp);have hb':Nd b:=hk b (by simp);have hab:=ha.bulk;have hbb:=hb'.bulk;rw[he];exact⟨anM m s3 s25 e z a b _ (qR a b (m+2) (by omega) (by omega)) he,(C9 14 (cmpD a b)).le (by omega)⟩
 ·obtain⟨a,b,rfl⟩:=sh2 hek;have ha:Nd a:=hk a (by simp);have hb':Nd b:=hk b (by simp);have hab:=ha.bulk;have hbb:=hb'.bulk;rw[he];exact⟨anN m s3 s25 e z a b _ (qR a b (m+2) (by omega) (by omega)) he,(C9 15 (cmpD a b)).le (by omega)⟩
 ·rw[he];exact⟨anO m s3 s25 e z ks (by omega) (by omega) he,(aks 16 ks).le (by omega)⟩
 ·rw[he];exact⟨anP m s3 s25 e z ks (by omega) (by omega) he,(aks 17 ks).le (by omega)⟩
 ·obtain⟨a,rfl⟩:=sh1 hek;have ha:Nd a:=hk a (bA ..);have hab:=ha.bulk;rw[he];exact⟨anQ m s3 s25 e z a he,(Cy (!trB a)).le (by omega)⟩
 ·obtain⟨a,b,c,rfl⟩:=sh3 hek;have ha:Nd a:=hk a (by simp);have hb':Nd b:=hk b (by simp);have hc:Nd c:=hk c (by simp);have hab:=ha.bulk;rw[he];exact⟨anR m s3 s25 e z a b c he,(an9 a b c hb' hc).le (by omega)⟩
 ·obtain⟨a,b,rfl⟩:=sh2 hek;have ha:Nd a:=hk a (by simp);have hb':Nd b:=hk b (by simp);have hab:=ha.bulk;have hbb:=hb'.bulk;rw[he];exact⟨anS m s3 s25 e z a b he,(alG a b ha hb').le (by omega)⟩
 ·rw[he];exact⟨anT m s3 s25 e z ks (by have:=Gl ks;omega) he,(aiQ ks).le (by omega)⟩
 ·obtain⟨a,rfl⟩:=sh1 hek;have ha:Nd a:=hk a (bA ..);have hab:=ha.bulk;rw[he];exact⟨anU m s3 s25 e z a he,(RB 22 a).le (by omega)⟩
 ·obtain⟨a,rfl⟩:=sh1 hek;have ha:Nd a:=hk a (bA ..);have hab:=ha.bulk;rw[he];exact⟨anV m s3 s25 e z a he,(RB 23 a).le (by omega)⟩
 ·obtain⟨a,rfl⟩:=sh1 hek;have ha:Nd a:=hk a (bA ..);have hab:=ha.bulk;rw[he];exact⟨anW m s3 s25 e z a he,(RB 24 a).le (by omega)⟩
 ·obtain⟨a,b,c,rfl⟩:=sh3 hek;have ha:Nd a:=hk a (by simp);have hb':Nd b:=hk b (by simp);have hc:Nd c:=hk c (by simp);have hab:=ha.bulk;rw[he];exact⟨anX m s3 s25 e z a b c he,(an8 a b c).le (by omega)⟩
 ·obtain⟨a,rfl⟩:=sh1 hek;have ha:Nd a:=hk a (bA ..);have hab:=ha.bulk;rw[he];exact⟨anY m s3 s25 e z a (by have:=oh a 3;omega) he,(alx a).le (by omega)⟩
 ·obtain⟨a,b,rfl⟩:=sh2 hek;have ha:Nd a:=hk a (by simp);have hb':Nd b:=hk b (by simp);have hab:=ha.bulk;have hbb:=hb'.bulk;rw[he];exact⟨an2 m s3 s25 e z a b (by have:=oh a 3;omega) he,(alC a b ha).le (by omega)⟩
 ·obtain⟨a,b,rfl⟩:=sh2 hek;have ha:Nd a:=hk a (by simp);have hb':Nd b:=hk b (by simp);have hab:=ha.bulk;have hbb:=hb'.bulk;rw[he];exact⟨an3 m s3 s25 e z a b (fun x=>cmpD x a==0) (by have:=oh b 3;omega) (by have:=oh b 3;omega) (fun x hx=>aox x a m (by have:=oK hx;omega) (by have:=oK hx;omega)) he,(alA (fun x=>cmpD x a==0) b).le (by omega)⟩
 ·rw[he];exact⟨an1 m s3 s25 e z ks (by omega) (by omega) (by have:=Gj ks;have:=yJ (Gg ks);omega) he,(alD ks fun e he=>(hk e he).wv).le (by omega)⟩
 ·obtain⟨a,rfl⟩:=sh1 hek;have ha:Nd a:=hk a (bA ..);have hab:=ha.bulk;rw[he];exact⟨anZ m s3 s25 e z a (by have:=oh a 3;omega) (by have:=oh a 3;omega) he,(alz a ha.wv).le (by omega)⟩
 ·obtain⟨a,rfl⟩:=sh1 hek;have ha:Nd a:=hk a (bA ..);have hab:=ha.bulk;rw[he];exact⟨an0 m s3 s25 e z a (by have:=oh a 3;omega) (by have:=oh a 3;omega) he,(aly a).le (by omega)⟩
 ·exact absurd he h32
 ·exact absurd he h33
 ·rw[he];exact⟨an7 m s3 s25 e z ks (by omega) (by omega) (by have:=hnm he;omega) he,(alF (L e 3) ks fun e he=>(hk e he).wv).le (by have:=II e 3;have:=oh e 3;omega)⟩
 ·rw[he];exact⟨an6 m s3 s25 e z ks (by omega) (by omega) he,(Zl ks fun e he=>(hk e he).wv).le (by omega)⟩
 ·obtain⟨a,rfl⟩:=sh1 hek;have ha:Nd a:=hk a (bA ..);have hab:=ha.bulk;rw[he];exact⟨an4 m s3 s25 e z a he,(zk 3 (I a 0) (by omega)).le (by omega)⟩
 ·rw[he];exact⟨an5 m s3 s25 e z ks _ (aiR ks hk (by omega) (m+3) (by omega) (by omega)) he,(adF ks aoa hk).le (by have:(KH []).bulk=6:=rfl;omega)⟩
end
structure Vv (v:Dt):Prop where
 wv:WV v
 bk:v.bulk<=4300800
 sn:v=aC∨∃k,sndF nm k v=true
theorem Nd.vv{v:Dt}(h:Nd v):Vv v:=by
 refine⟨h.wv,h.bulk,?_⟩;rcases h with h| ⟨_,h⟩;·exact .inl h
 ·rw[okV]at h;simp only[aM]at h;exact .inr ⟨_,h.2⟩
theorem Nd.elems{a:Dt}(h:Nd a):∀x∈L a 3,Vv x:=by
 intro x hx;have hb:=h.bulk;have hm:=oK hx;rcases h.vv.sn with rfl| ⟨k,hk⟩;·exact absurd hx (by intro h;cases h)
 ·obtain⟨h1,h2⟩:=Uq h.wv hk x hx;exact⟨h1,by omega,.inr h2⟩
theorem Nd.few{a:Dt}(h:Nd a)(h6:I a 0=6):(L a 3).length<=1024:=by
 rcases h with rfl| ⟨hw,ho⟩;·exact aI _
 ·have h1:=IJ hw;have h2:=Zp nds aql (rV a);have h3:rV a=L a 3:=by rw[rV,h6];rfl
  rw[okV]at ho;simp only[aM,decide_eq_true_eq]at ho;rw[h3]at h1 h2;omega
theorem ajn(n:Nat)(p:List Dt):atN n aC p=aC:=by
 cases n with
 |zero=>rfl
 |succ n=>cases p with
  |nil=>rfl
  |cons s r=>rfl
theorem aeR{v:Dt}(h:Vv v)(n:Nat)(p:List Dt):Rs (atN n v p) 4300800:=by
 obtain⟨h1,h2⟩:=KN n v p h.wv;refine⟨h1,Nat.le_trans h2 h.bk,?_⟩;rcases h.sn with rfl| ⟨k,hk⟩;·exact .inl (ajn n p)
 ·exact akr n v p k hk
theorem X7(n:Nat)(p:List Dt)(s:ByteArray):∀(env:List (ByteArray×Dt)),(∀q∈env,Vv q.2)->Rs (N9 (fun v=>atN n v p) s env) 4300800
 | [],_=>Ry.le (by omega)
 |q::r,h=>by rw[N9];exact fM (aeR (h q (bA ..)) n p) (X7 n p s r fun x hx=>h x (bD _ hx))
theorem akE(op:Int)(g:Dt->Dt){v:Dt}(hv:Nd v)(h6:I v 0=6)(hg:∀x∈L v 3,Nd (g x)):Rs (yQ (lpS op g (L v 3))) 4500000000:=by
 have hl:=hv.few h6;have hb:=hv.bulk;unfold lpS;cases (op==32)
 ·rw[cond_false];refine RF (fun e he=>(hv.elems e (List.mem_filter.1 he).1).wv) ?_;have h1:=rQ (g:=fun e=>e) (q:=fun x=>trB (g x)) (l:=L v 3) fun e _=>aj _;rw[List.map_id']at h1;have h2:=II v 3;omega
 ·rw[cond_true,show (List.map (fun x=>orN (g x)) (L v 3))=((L v 3).map g).map orN by rw[List.map_map];rfl];have hn:∀k∈(L v 3).map g,Nd k:=fun k hk=>by obtain⟨x,hx,rfl⟩:=List.mem_map.1 hk;exact hg x hx
  have h1:=BD _ hn;rw[List.length_map]at h1;exact(Zl _ fun e he=>(hn e he).wv).le (by omega)
def cpS(r:Nat)(e doc:Dt)(env:List (ByteArray×Dt)):Dt:=
    bif I e 0==1 then fld e 4
    else bif I e 0==2 then atN 4300801 doc (L e 1)
    else bif I e 0==3 then N9 (fun v=>atN 4300801 v (L e 1)) (S e 2) env
    else bif I e 0==32||I e 0==33 then
     bif isK 6 (evS mgS r ((L e 6).getD 0 aC) doc env)then
      yQ (lpS (I e 0) (fun x=>evS mgS r ((L e 6).getD 1 aC) doc ((S e 2,x)::env)) (L (evS mgS r ((L e 6).getD 0 aC) doc env) 3))
     else kV 2 0
    else opS (I e 0) e ((L e 6).map fun k=>evS mgS r k doc env) (mgS ((L e 6).map fun k=>evS mgS r k doc env))
theorem Av(r:Nat)(e doc:Dt)(env:List (ByteArray×Dt)):evS mgS (r+1) e doc env=nm1 (cpS r e doc env):=rfl
structure EvI (r:Nat) (e doc:Dt) (env:List (ByteArray×Dt)):Prop where
 nd:Nd (evS mgS r e doc env)
 pr:∀q:Nat,14000000000+8*r<=q->q<899999990000->bU q e doc (scD env)=some (evS mgS r e doc env)
theorem KS{e:Dt}(hn:nodeS e=0)(h:I e 0=32∨I e 0=33):∃a b,L e 6=[a,b]:=by obtain⟨_,_,hek,_,_⟩:=xW hn;rcases h with h|h<;>rw[h]at hek<;>exact sh2 hek
theorem RQ(r:Nat)(e doc:Dt)(env:List (ByteArray×Dt))(hn:nodeS e=0)(hnl:env.length<=16)(hk:∀k∈L e 6,EvI r k doc env)(hkl:(I e 0=32∨I e 0=33)->∀k∈L e 6,∀x,Vv x->EvI r k doc ((S e 2,x)::env))(m:Nat)(hm:14000000000+8*r<=m)(hm2:m<899999989999)(h:I e 0=32∨I e 0=33):Rs (cpS r e doc env) 4500000000∧dF (m+1) e doc (scD env)=some (cpS r e doc env):=by
 obtain⟨a,b,hab⟩:=KS hn h;have ha:a∈L e 6:=by rw[hab];exact bA ..
 have hbm:b∈L e 6:=by rw[hab];exact bD _ (bA ..)
 have ka:=hk a ha;have kb:=hkl h b hbm;have i0:idx (L e 6) 0=some a:=by rw[hab];exact aiH a [b]
 have i1:idx (L e 6) 1=some b:=by rw[hab];exact bI (l:=[a,b]) (i:=1) (by simp)
 obtain⟨m,rfl⟩:∃q,m=q+2:=⟨m-2,by omega⟩;have e0:cpS r e doc env=bif isK 6 (evS mgS r a doc env)then yQ (lpS (I e 0) (fun x=>evS mgS r b doc ((S e 2,x)::env)) (L (evS mgS r a doc env) 3))else kV 2 0:=by rw[cpS,hab];rcases h with h|h<;>rw[h]<;>rfl
 have hvb:=ka.nd.bulk;have hlb:=oh (evS mgS r a doc env) 3;have hel:=ka.nd.elems;have p1:=ka.pr (m+2) (by omega) (by omega);rw[e0,dF,i0,ah,p1,ah,isK];cases h6:(I (evS mgS r a doc env) 0==6)
 ·rw[show (I (evS mgS r a doc env) 0 !=6)=true by rw[bne,h6];rfl];exact⟨kZ.le (by omega),rfl⟩
 ·rw[show (I (evS mgS r a doc env) 0 !=6)=false by rw[bne,h6];rfl,cond_true];have h6':I (evS mgS r a doc env) 0=6:=by simpa using h6
  have kg:=fun x hx=>kb x (hel x hx);refine⟨akE _ _ ka.nd h6' fun x hx=>(kg x hx).nd,?_⟩
  ·have key:=Rx m (bU (m+2)) (scD env) e doc aC b (L (evS mgS r a doc env) 3) (fun x=>evS mgS r b doc ((S e 2,x)::env)) (by omega) i1 (fun x hx=>(kg x hx).pr (m+2) (by omega) (by omega)) (Nat.succ (m+2)) 0 [] (aI _) (aj _) (by omega);rw[aQ,List.nil_append]at key;exact key
section
variable(r:Nat)(e doc:Dt)(env:List (ByteArray×Dt))(hn:nodeS e=0)(h256:(L e 6).length<=256)(hb:e.bulk<=100000000)(h4:WV (fld e 4))(hd:Vv doc)(hv:∀q∈env,Vv q.2)(hnl:env.length<=16)
 (hk:∀k∈L e 6,EvI r k doc env)(hkl:(I e 0=32∨I e 0=33)->∀k∈L e 6,∀x,Vv x->EvI r k doc ((S e 2,x)::env))
 (m:Nat)(hm:14000000000+8*r<=m)(hm2:m<899999989999)
include hn h256 hb h4 hd hv hnl hk hkl hm hm2
theorem RS:Rs (cpS r e doc env) 4500000000∧dA (m+2) e doc (scD env)=some (cpS r e doc env):=by
 obtain⟨_,_,_,_,hv1⟩:=xW hn;have hf4:=mF e 4;by_cases k1:I e 0=1
 ·have e0:cpS r e doc env=fld e 4:=by rw[cpS,k1];rfl
  rw[e0,dA,k1];exact⟨(show Nd (fld e 4)from .inr ⟨h4,hv1 k1⟩).rs.le (by omega),rfl⟩
 by_cases k2:I e 0=2
 ·have e0:cpS r e doc env=atN 4300801 doc (L e 1):=by rw[cpS,k2];rfl
  have hA:=Gf 4300800 m doc (L e 1) hd.bk (by omega) (by have:=hd.bk;omega);rw[e0,dA,k2];refine⟨(aeR hd _ _).le (by omega),?_⟩;show ((bY (m+1) doc (L e 1)).bind _:Option Dt)=_;rw[hA];rfl
 by_cases k3:I e 0=3
 ·have e0:cpS r e doc env=N9 (fun v=>atN 4300801 v (L e 1)) (S e 2) env:=by rw[cpS,k3];rfl
  rw[e0,dA,k3];refine⟨(X7 _ _ _ env hv).le (by omega),?_⟩;exact KI (m+1) (bU (m+1)) (dF (m+1)) e aC (fun v=>atN 4300801 v (L e 1)) env (Nat.succ (m+1)) (by omega) fun p hp=>Gf 4300800 m p.2 (L e 1) (hv p hp).bk (by omega) (by have:=(hv p hp).bk;omega)
 by_cases kl:I e 0=32∨I e 0=33
 ·obtain⟨l1,l2⟩:=RQ r e doc env hn hnl hk hkl m hm hm2 kl;refine⟨l1,?_⟩;have:dA (m+2) e doc (scD env)=((dF (m+1) e doc (scD env)).bind fun x=>some x):=by rw[dA];rcases kl with h|h<;>rw[h]<;>rfl
  rw[this,l2];rfl
 ·have k32:I e 0≠32:=fun h=>kl (.inl h);have k33:I e 0≠33:=fun h=>kl (.inr h);have f1:(I e 0==1)=false:=by rw[beq_eq_false_iff_ne];exact k1
  have f2:(I e 0==2)=false:=by rw[beq_eq_false_iff_ne];exact k2
  have f3:(I e 0==3)=false:=by rw[beq_eq_false_iff_ne];exact k3
  have f32:(I e 0==32)=false:=by rw[beq_eq_false_iff_ne];exact k32
  have f33:(I e 0==33)=false:=by rw[beq_eq_false_iff_ne];exact k33
  have e0:cpS r e doc env=opS (I e 0) e ((L e 6).map fun k=>evS mgS r k doc env) (mgS ((L e 6).map fun k=>evS mgS r k doc env)):=by rw[cpS,f1,f2,f3,f32,f33];rfl
  obtain⟨q,rfl⟩:∃q,m=q+4:=⟨m-4,by omega⟩;have hks:∀k∈(L e 6).map fun k=>evS mgS r k doc env,Nd k:=fun k h=>by obtain⟨x,hx,rfl⟩:=List.mem_map.1 h;exact(hk x hx).nd
  obtain⟨o1,o2⟩:=opP q e aC ((L e 6).map fun k=>evS mgS r k doc env) hks (by rw[List.length_map]) (by rw[List.length_map];exact h256) hb (by omega) (by omega) hn k1 k2 k3 k32 k33 (bU (q+5)) (dF (q+5));have key:=KJ (q+5) (bU (q+5)) (dF (q+5)) (scD env) e doc aC (L e 6) (fun k=>evS mgS r k doc env) (by omega) (fun k hk'=>(hk k hk').pr (q+5) (by omega) (by omega)) (Nat.succ (q+5)) 0 (aI _) (by omega);rw[List.take_zero,List.map_nil,List.nil_append,Nat.sub_zero,o1]at key;rw[e0];refine⟨o2.le (by omega),?_⟩;rw[dA,f1,f2,f3,f32,f33];show ((mkL ((L e 6).length:Int) ((L e 6).length:Int) aC).bind _:Option Dt)=_;rw[uG (by omega),ah];exact key
end
theorem EJ:∀(r:Nat),r<=16->∀(e doc:Dt)(env:List (ByteArray×Dt)),VE r e->WE e->e.bulk<=100000000->Vv doc->(∀q∈env,Vv q.2)->env.length+r<=16->EvI r e doc env
 |0,_,_,_,_,h,_,_,_,_,_=>h.elim
 |r+    1,hr,e,doc,env,hve,hwe,hb,hd,hv,hl=>by
  obtain⟨hn,h256,hks⟩:=hve;cases hwe with
  |mk h4 h6=>
   have hk:∀k∈L e 6,∀env':List (ByteArray×Dt),(∀q∈env',Vv q.2)->env'.length+r<=16->EvI r k doc env':=fun k hk env' hv' hl'=>EJ r (by omega) k doc env' (hks k hk) (h6 k hk) (by have:=oK hk;omega) hd hv' hl';have hk1:=fun k hm=>hk k hm env hv (by omega);have hkl:(I e 0=32∨I e 0=33)->∀k∈L e 6,∀x,Vv x->EvI r k doc ((S e 2,x)::env):=fun _ k hm x hx=>hk k hm _ (fun q hq=>by
        rcases List.mem_cons.1 hq with rfl|hq;·exact hx
        ·exact hv q hq) (by rw[List.length_cons];omega)
   have cP:=RS r e doc env hn h256 hb h4 hd hv (by omega) hk1 hkl;have hR:=(cP (14000000000+8*r) (aj _) (by omega)).1;refine⟨?_,fun q h1 h2=>?_⟩
   ·    rw[Av];exact adC hR.wv
   ·    obtain⟨m,rfl⟩:∃m,q=m+4:=⟨q-4,by omega⟩;have hc:=(cP (m+1) (by omega) (by omega)).2;rw[Av];exact Zg m e doc (scD env) _ hc hR.wv (by have:=hR.bk;omega) (by have:=hR.bk;omega)
theorem PN(m:Nat)(self:Dt->Option Dt)(l:List Dt)(hl:l.length<9223372036854775807)(hs:∀e∈l,self e=some e)(z x3 x4:Dt)(x5 x6:Int)(x7:ByteArray):∀(M i:Nat),i<=l.length->l.length-i<M->
  kU m self M l (l.length:Int) (i:Int) x3 x4 x5 x6 x7 (l.take i++List.replicate (l.length-i) z)=xk m self x3 x4 x5 x6 x7 l
 |0,i,_,h=>by omega
 |M+1,i,hi,h=>by
  simp only[kU,dlt];by_cases hlt:i<l.length
  ·have hx:i<(l.take i++List.replicate (l.length-i) z).length:=by rw[FU l z i hi];exact hlt
   simp only[hlt,decide_true,cond_true,wY,wX,bI hlt,ah,hs _ (aF hlt),tZ hx,Int.toNat_natCast,aA hx,Bl l z i hlt,bX (show i<9223372036854775807 by omega)];exact PN m self l hl hs z x3 x4 x5 x6 x7 M (i+1) (by omega) (by omega)
  ·have e:i=l.length:=by omega
   subst e;simp
theorem PO(m:Nat)(self:Dt->Option Dt)(l:List Dt)(hl:l.length<9223372036854775807)(hf:∀f∈l,∃s v,f= .agg [.str s,v]∧self v=some v)(z x3:Dt)(x4 x5:Int)(x6:ByteArray)(x7:List Dt):∀(M i:Nat),i<=l.length->l.length-i<M->
  nL m self M l (l.length:Int) (i:Int) x3 x4 x5 x6 x7 (l.take i++List.replicate (l.length-i) z)=some (.agg [.int x4,.int x5,.str x6,.lst x7,.lst l])
 |0,i,_,h=>by omega
 |M+1,i,hi,h=>by
  simp only[nL,dlt];by_cases hlt:i<l.length
  ·have hx:i<(l.take i++List.replicate (l.length-i) z).length:=by rw[FU l z i hi];exact hlt
   obtain⟨s,v,e1,e2⟩:=hf _ (aF hlt);have e3:agg [.str (S l[i] 0),v]=l[i]:=by rw[e1];rfl
   have e4:fld l[i] 1=v:=by rw[e1];rfl
   simp only[hlt,decide_true,cond_true,w9,wZ,bI hlt,ah,e4,e2,e3,tZ hx,Int.toNat_natCast,aA hx,Bl l z i hlt,bX (show i<9223372036854775807 by omega)];exact PO m self l hl hf z x3 x4 x5 x6 x7 M (i+1) (by omega) (by omega)
  ·have e:i=l.length:=by omega
   subst e;simp[xg]
theorem LD(m:Nat)(self:Dt->Option Dt)(l:List Dt)(hl:l.length<9223372036854775807)(hf:∀f∈l,∃s v,f= .agg [.str s,v]∧self v=some v)(z x3:Dt)(x4 x5:Int)(x6:ByteArray)(x7:List Dt):∀(M i:Nat),i<=l.length->l.length-i<M->
  lG m self M l (l.length:Int) (i:Int) x3 x4 x5 x6 x7 (l.take i++List.replicate (l.length-i) z)=some (.agg [.int x4,.int x5,.str x6,.lst x7,.lst l])
 |0,i,_,h=>by omega
 |M+1,i,hi,h=>by
  simp only[lG,dlt];by_cases hlt:i<l.length
  ·have hx:i<(l.take i++List.replicate (l.length-i) z).length:=by rw[FU l z i hi];exact hlt
   obtain⟨s,v,e1,e2⟩:=hf _ (aF hlt);have e3:agg [.str (S l[i] 0),v]=l[i]:=by rw[e1];rfl
   have e4:fld l[i] 1=v:=by rw[e1];rfl
   simp only[hlt,decide_true,cond_true,uM,uL,bI hlt,ah,e4,e2,e3,tZ hx,Int.toNat_natCast,aA hx,Bl l z i hlt,bX (show i<9223372036854775807 by omega)];exact LD m self l hl hf z x3 x4 x5 x6 x7 M (i+1) (by omega) (by omega)
  ·have e:i=l.length:=by omega
   subst e;simp[uN]
theorem BK:∀(N:Nat)(d:Dt),d.bulk<=N->N<=137438953472->WV d->∀m,N<=m->bO (m+1) d=some d
 |0,d,h,_,_,_,_=>by have:=iR d;omega
 |N +   1,d,h,hN,hw,m,hm=>by
  cases hw with
  | @mk   k i t l ds hl hd=>
    rw[nK]at h;obtain⟨m,rfl⟩:∃q,m=q+1:=⟨m-1,by omega⟩;have hself:∀e∈l,bO (m+1) e=some e:=fun e he=>BK N e (by have:=kR he;omega) (by omega) (hl e he) m (by omega);have hfld:∀f∈ds,∃s v,f= .agg [.str s,v]∧bO (m+1) v=some v:=fun f hf=>by
        have hb:=kR hf;cases hd f hf with
        | @mk s v hv=>
          rw[vL]at hb;exact⟨s,v,rfl,BK N v (by omega) (by omega) hv m (by omega)⟩
    have hl1:=jr l;have hd1:=jr ds;show (bif (decide ((0:Int)<((l.length:Nat):Int)))then _ else _)=_;have key6:=fun(x3:Dt)(x7:List Dt)(z:Dt)=>PO (m+1) (bO (m+1)) ds (by omega) hfld z x3 k i t x7 (m+2) 0 (by omega) (by omega);have key13:=fun(x3:Dt)(x7:List Dt)(z:Dt)=>LD (m+1) (bO (m+1)) ds (by omega) hfld z x3 k i t x7 (m+2) 0 (by omega) (by omega);simp only[List.take_zero,List.nil_append,Nat.sub_zero]at key6 key13;by_cases h0:0<l.length
    ·   have e0:decide ((0:Int)<((l.length:Nat):Int))=true:=by simp;omega
        have key:=fun(x3 x4:Dt)(z:Dt)=>PN (m+1) (bO (m+1)) l (by omega) hself z x3 x4 k i t (m+2) 0 (by omega) (by omega);simp only[List.take_zero,List.nil_append,Nat.sub_zero]at key;rw[e0];simp only[cond_true];show Option.bind (mkL ((l.length:Nat):Int) ((l.length:Nat):Int) _) _=_;rw[uG (by omega),ah];show kU (m+1) (bO (m+1)) (m+2) l ((l.length:Nat):Int) ((0:Nat):Int) _ _ k i t _=_;rw[key];show (bif (decide ((0:Int)<((ds.length:Nat):Int)))then _ else _)=_;by_cases h1:0<ds.length
        · have e1:decide ((0:Int)<((ds.length:Nat):Int))=true:=by simp;omega
          rw[e1];simp only[cond_true];show Option.bind (mkL ((ds.length:Nat):Int) ((ds.length:Nat):Int) _) _=_;rw[uG (by omega),ah];exact key6 _ _ _
        · have e1:decide ((0:Int)<((ds.length:Nat):Int))=false:=by rw[decide_eq_false_iff_not];omega
          have e2:ds=[]:=List.length_eq_zero_iff.1 (by omega);subst e2;rfl
    ·   have e0:decide ((0:Int)<((l.length:Nat):Int))=false:=by rw[decide_eq_false_iff_not];omega
        have e3:l=[]:=List.length_eq_zero_iff.1 (by omega);subst e3;show (bif (decide ((0:Int)<((ds.length:Nat):Int)))then _ else _)=_;by_cases h1:0<ds.length
        · have e1:decide ((0:Int)<((ds.length:Nat):Int))=true:=by simp;omega
          rw[e1];simp only[cond_true];show Option.bind (mkL ((ds.length:Nat):Int) ((ds.length:Nat):Int) _) _=_;rw[uG (by omega),ah];exact key13 _ _ _
        · have e2:ds=[]:=List.length_eq_zero_iff.1 (by omega);subst e2;rfl
end Go.Proofs.YtmecfjhdnbgfeaaGreatDoor
namespace Go.Proofs.YtmecfjhdnbgfeaaGreatDoor
open Go.Am
def evE(e doc:Dt):Dt:=evS mgS 16 e doc []
structure EvT (e doc:Dt):Prop where
 nd:Nd (evE e doc)
 pr:∀q:Nat,14000001000<=q->q<899999980000->gT q e doc=some (evE e doc)
theorem Xp(e doc:Dt)(hw:WE e)(hb:e.bulk<=100000000)(hc:(ckE 16 e 0).2=0)(hd:Nd doc):EvT e doc:=by
 have hI:=EJ 16 (aj _) e doc [] (J7 16 e 0 (by omega) hc).2 hw hb hd.vv (fun q h=>by cases h) (by simp);refine⟨hI.nd,fun q h1 h2=>?_⟩
 ·obtain⟨m,rfl⟩:∃m,q=m+24:=⟨q-24,by omega⟩;have hv:=QX 100000000 (aj _) m (by omega) (by omega) e hw hb;have hE:=hI.pr (m+23) (by omega) (by omega);have hbk:=hI.nd.bulk;have hcl:=BK 4300800 (evS mgS 16 e doc []) hbk (by omega) hI.nd.wv (m+22) (by omega);rw[gT,hv,ah,hc];show ((bU (m+23) e doc (scD [])).bind _:Option Dt)=_;rw[hE,ah,hcl];rfl
end Go.Proofs.YtmecfjhdnbgfeaaGreatDoor
namespace Go.Proofs.YtmecfjhdnbgfeaaGreatDoor
open Go.Am Dt
section
variable(bs:List Dt)
def bAt(i:Nat):Dt:=bs.getD i aC
def inB(i:Nat)(v:Dt):Bool:=decide (i+1<bs.length)&&(decide (0<=cmpD v (bAt bs i))&&decide (cmpD v (bAt bs (i+1))<0))
def cnB(vs:List Dt)(i:Nat):Nat:=vs.countP (inB bs i)
def ouB(v:Dt):Bool:=(List.range bs.length).all fun i=>!(inB bs i v)
def LG:Nat->Nat->Bool
 |0,_=>true
 |k+1,i=>decide (cmpD (bAt bs i) (bAt bs (i+1))<0)&&LG k (i+1)
def vN(b:Dt)(n:Int):Dt:=agg [(int 5),(int 0),(str (ByteArray.mk (List.toArray []))),(lst []),(lst [(agg [(str (ByteArray.mk (List.toArray [95,105,100]))),b]),(agg [(str (ByteArray.mk (List.toArray [99,111,117,110,116]))),agg [(int 3),(int n),(str (ByteArray.mk (List.toArray []))),(lst []),(lst [])]])])]
def ouT(vs:List Dt)(i:Nat):List Dt:=bif decide ((0:Int)<(cnB bs vs i:Int))then[vN (bAt bs i) (cnB bs vs i:Int)]else[]
def ouL(vs:List Dt):Nat->Nat->List Dt
 |0,_=>[]
 |k+1,i=>ouT bs vs i++ouL vs k (i+1)
def suB(vs:List Dt):Nat->Nat->Nat
 |0,_=>0
 |k+1,i=>cnB bs vs i+suB vs k (i+1)
theorem xK{i:Nat}(h:i<bs.length):bAt bs i=bs[i]:=by unfold bAt;rw[List.getD,aA h];rfl
def yt:Prop:=∀i,i+1<bs.length->cmpD (bAt bs i) (bAt bs (i+1))<0
theorem Vg:∀(k i:Nat),LG bs k i=true->∀j,i<=j->j<i+k->cmpD (bAt bs j) (bAt bs (j+1))<0
 |0,i,_,j,h1,h2=>by omega
 |k+1,i,h,j,h1,h2=>by
  rw[LG,aM,decide_eq_true_eq]at h;by_cases hj:j=i;·subst hj;exact h.1
  ·exact Vg k (i+1) h.2 j (by omega) (by omega)
variable{bs}
theorem yt.lt(h:yt bs){i:Nat}:∀(d:Nat),i+d+1<bs.length->cmpD (bAt bs i) (bAt bs (i+d+1))<0
 |0,hj=>h i hj
 |d+1,hj=>vQ.ltl (h.lt d (by omega)) (Int.le_of_lt (h (i+d+1) (by omega)))
theorem yt.lt'(h:yt bs){i j:Nat}(hij:i<j)(hj:j<bs.length):cmpD (bAt bs i) (bAt bs j)<0:=by have:=h.lt (i:=i) (j-i-1) (by omega);rw[show i+(j-i-1)+1=j by omega]at this;exact this
structure Cut (bs:List Dt) (v:Dt) (p:Nat):Prop where
 le:p<=bs.length
 lo:∀k,k<p->cmpD (bAt bs k) v<0
 hi:∀k,p<=k->k<bs.length->0<=cmpD (bAt bs k) v
def fnB(bs:List Dt)(v:Dt)(p:Nat):Bool:=decide (p<bs.length)&&(cmpD (bAt bs p) v==0)
def aB(bs:List Dt)(v:Dt)(p:Nat):Int:=bif fnB bs v p then(p:Int)else(p:Int)-1
theorem Cut.gt{v:Dt}{p:Nat}(h:Cut bs v p)(ha:yt bs){k:Nat}(h1:p<k)(h2:k<bs.length):0<cmpD (bAt bs k) v:=by have a1:=h.hi p (aj _) (by omega);have a2:=ha.lt' h1 h2;have a3:=vQ.anti (bAt bs p) v;have a4:=vQ.anti (bAt bs k) v;have:=vQ.ltr (a:=v) (b:=bAt bs p) (d:=bAt bs k) (by omega) a2;omega
theorem Kh{v:Dt}{p:Nat}(h:Cut bs v p)(ha:yt bs)(k:Nat):inB bs k v=true↔k+1<bs.length∧(k:Int)=aB bs v p:=by
 unfold inB;simp only[aM,decide_eq_true_eq];refine and_congr_right fun hk=>?_;have a1:=vQ.anti (bAt bs k) v;have a2:=vQ.anti (bAt bs (k+1)) v;rcases Nat.lt_trichotomy k p with hp|hp|hp
 ·have b1:=h.lo k hp;by_cases hq:k+1=p
  ·have b2:=h.hi (k+1) (by omega) hk;cases hf:fnB bs v p
   ·    have e:cmpD (bAt bs (k+1)) v≠0:=by intro e;rw[hq]at e;rw[fnB,decide_eq_true (by omega),e]at hf;cases hf
        have:aB bs v p=(p:Int)-1:=by rw[aB,hf];rfl
        rw[this];omega
   ·    have:aB bs v p=(p:Int):=by rw[aB,hf];rfl
        rw[fnB,aM]at hf;have e:cmpD (bAt bs p) v=0:=by simpa using hf.2
        rw[←hq]at e;rw[this];omega
  ·have b2:=h.lo (k+1) (by omega);have:aB bs v p=(p:Int)∨aB bs v p=(p:Int)-1:=by
        unfold aB;cases fnB bs v p;·exact .inr rfl
        ·exact .inl rfl
   omega
 ·have b2:=h.gt ha (k:=k+1) (by omega) hk;have b1:=h.hi k (by omega) (by omega);subst hp;cases hf:fnB bs v k
  ·have e:cmpD (bAt bs k) v≠0:=by intro e;rw[fnB,decide_eq_true (by omega),e]at hf;cases hf
   have:aB bs v k=(k:Int)-1:=by rw[aB,hf];rfl
   omega
  ·have:aB bs v k=(k:Int):=by rw[aB,hf];rfl
   rw[fnB,aM]at hf;have e:cmpD (bAt bs k) v=0:=by simpa using hf.2
   omega
 ·have b1:=h.gt ha hp (by omega);have:aB bs v p=(p:Int)∨aB bs v p=(p:Int)-1:=by
   unfold aB;cases fnB bs v p;·exact .inr rfl
   ·exact .inl rfl
  omega
theorem ZO{v:Dt}{p:Nat}(h:Cut bs v p)(ha:yt bs)(ho:aB bs v p<0∨(bs.length:Int)-1<=aB bs v p)(k:Nat):inB bs k v=false:=by
 cases hk:inB bs k v;·rfl
 ·have:=(Kh h ha k).1 hk;omega
theorem aeS{v:Dt}{p:Nat}(h:Cut bs v p)(ha:yt bs)(ho:¬(aB bs v p<0∨(bs.length:Int)-1<=aB bs v p))(k:Nat):inB bs k v=decide (k=(aB bs v p).toNat):=by rw[Bool.eq_iff_iff,Kh h ha k,decide_eq_true_eq];omega
theorem ZP{v:Dt}{p:Nat}(h:Cut bs v p)(ha:yt bs):ouB bs v=decide (aB bs v p<0∨(bs.length:Int)-1<=aB bs v p):=by
 by_cases ho:aB bs v p<0∨(bs.length:Int)-1<=aB bs v p
 ·rw[decide_eq_true ho,ouB,List.all_eq_true];intro i _;rw[ZO h ha ho];rfl
 ·rw[decide_eq_false ho];cases hc:ouB bs v;·rfl
  ·rw[ouB,List.all_eq_true]at hc;have:=hc (aB bs v p).toNat (List.mem_range.2 (by omega));rw[aeS h ha ho,decide_eq_true rfl]at this;cases this
theorem Vh(vs:List Dt)(v:Dt)(i:Nat):cnB bs (vs++[v]) i=cnB bs vs i+(bif inB bs i v then 1 else 0):=by unfold cnB;rw[List.countP_append,List.countP_cons,List.countP_nil];cases inB bs i v<;>simp
theorem aeT(vs:List Dt)(v:Dt)(i:Nat):cnB bs (v::vs) i=cnB bs vs i+(bif inB bs i v then 1 else 0):=by unfold cnB;rw[List.countP_cons];cases inB bs i v<;>simp
theorem ama(vs:List Dt)(i:Nat):cnB bs vs i<=vs.length:=List.countP_le_length
theorem ZQ{v:Dt}{p:Nat}(h:Cut bs v p)(ha:yt bs)(vs:List Dt):∀(k i:Nat),i+k+1<=bs.length->suB bs (v::vs) k i=suB bs vs k i+(if(i:Int)<=aB bs v p∧aB bs v p<((i+k:Nat):Int)then 1 else 0)
 |0,i,_=>by rw[suB,suB,if_neg (by omega)]
 |k+    1,i,hk=>by
  rw[suB,suB,ZQ h ha vs k (i+1) (by omega),aeT];cases hc:inB bs i v
  ·have hn:¬((i:Int)=aB bs v p):=fun e=>by have:=(Kh h ha i).2 ⟨by omega,e⟩;rw[hc]at this;cases this
   rw[cond_false];by_cases hq:((i+1:Nat):Int)<=aB bs v p∧aB bs v p<((i+1+k:Nat):Int);·rw[if_pos hq,if_pos (by omega)];omega
   ·rw[if_neg hq,if_neg (by omega)];omega
  ·have:=(Kh h ha i).1 hc;rw[cond_true,if_neg (by omega),if_pos (by omega)];omega
theorem ZR(ha:yt bs):∀(vs:List Dt),(∀v∈vs,∃p,Cut bs v p)->suB bs vs (bs.length-1) 0+vs.countP (ouB bs)=vs.length
 | [],_=>by
   have:∀k i,suB bs [] k i=0:=by
    intro k;induction k with
    |zero=>intro i;rfl
    |succ k ih=>intro i;rw[suB,ih];rfl
   rw[this];rfl
 | v::vs,h=>by
   obtain⟨p,hp⟩:=h v (bA ..);have ih:=ZR ha vs fun x hx=>h x (bD _ hx);have hl:=hp.le;rw[List.countP_cons,ZP hp ha,List.length_cons];by_cases h0:bs.length=0
   ·have e:bs.length-1=0:=by omega
    rw[e,suB]at ih ⊢
    rw[  if_pos (by
        rw[decide_eq_true_eq];have:aB bs v p=(p:Int)∨aB bs v p=(p:Int)-1:=by
         unfold aB;cases fnB bs v p;·exact .inr rfl
         ·exact .inl rfl
        omega)]
    omega
   ·rw[ZQ hp ha vs (bs.length-1) 0 (by omega)];by_cases ho:aB bs v p<0∨(bs.length:Int)-1<=aB bs v p
    ·   rw[if_neg (by omega),if_pos (by rw[decide_eq_true ho])];omega
    ·   rw[if_pos (by omega),if_neg (by rw[decide_eq_false ho];intro h;cases h)];omega
theorem Vi(vs:List Dt):∀(k i:Nat),ouL bs vs (k+1) i=ouL bs vs k i++ouT bs vs (i+k)
 |0,i=>by rw[ouL,ouL,ouL,List.append_nil,List.nil_append,Nat.add_zero]
 |k+1,i=>by rw[ouL,Vi vs k (i+1),ouL,List.append_assoc,show i+1+k=i+(k+1) by omega]
theorem aeU(vs:List Dt):ouL bs vs bs.length 0=ouL bs vs (bs.length-1) 0:=by
 by_cases h0:bs.length=0;·rw[h0]
 ·obtain⟨n,hn⟩:∃n,bs.length=n+1:=⟨bs.length-1,by omega⟩;rw[hn,Vi,Nat.add_sub_cancel];have:cnB bs vs (0+n)=0:=by unfold cnB;rw[List.countP_eq_zero];intro v _ h;unfold inB at h;rw[decide_eq_false (by omega),Bool.false_and]at h;cases h
  rw[ouT,this];simp
end
end Go.Proofs.YtmecfjhdnbgfeaaGreatDoor
namespace Go.Proofs.YtmecfjhdnbgfeaaGreatDoor
open IntKind (wrap)
open Go.Am Dt
theorem acG{z:Int}{n:Nat}(h:z=(n:Int))(hn:n<9223372036854775807):wrap IntKind.i64 z=(n:Int):=by rw[h,wrap64 (by omega) (by omega)]
theorem aoy{i j:Nat}(h:i+j<4611686018427387904):wrap IntKind.i64 (shrI IntKind.u64 (wrap IntKind.u64 (wrap IntKind.i64 ((i:Int)+(j:Int)))) 1)=(((i+j)/2:Nat):Int):=by
 have e1:wrap IntKind.i64 ((i:Int)+(j:Int))=((i+j:Nat):Int):=acG (by omega) (by omega);have e2:wrap IntKind.u64 ((i+j:Nat):Int)=((i+j:Nat):Int):=by unfold wrap;simp only[IntKind.bits,IntKind.signed,Bool.false_and,Bool.false_eq_true,if_false];omega
 have e3:shrI IntKind.u64 ((i+j:Nat):Int) 1=(((i+j)/2:Nat):Int):=by show Int.fdiv ((i+j:Nat):Int) 2=_;rw[Int.fdiv_eq_ediv_of_nonneg _ (by omega)];omega
 rw[e1,e2,e3];exact acG rfl (by omega)
theorem SB(m:Nat)(bs:List Dt)(v:Dt)(ha:yt bs)(hl:bs.length<1000000000)(hc:∀b∈bs,aW m b v=some (cmpD b v)):∀(M i j:Nat),i<=j->j<=bs.length->j-i<M->(∀k,k<i->cmpD (bAt bs k) v<0)->(∀k,j<=k->k<bs.length->0<=cmpD (bAt bs k) v)->
  ∃p,Cut bs v p∧Kw m M bs (bs.length:Int) (i:Int) (j:Int) v=some ((p:Int),fnB bs v p)
 |0,i,j,_,_,h,_,_=>by omega
 |M+    1,i,j,hij,hj,h,h1,h2=>by
  simp only[Kw,dlt];by_cases hlt:i<j
  ·have hm:(i+j)/2<bs.length:=by omega
   have e1:cmpD bs[(i+j)/2] v=cmpD (bAt bs ((i+j)/2)) v:=by rw[xK bs hm]
   simp only[hlt,decide_true,cond_true,ac7,aoy (show i+j<4611686018427387904 by omega),bI hm,hc _ (aF hm),ah,e1];by_cases hs:cmpD (bAt bs ((i+j)/2)) v<0
   ·    rw[decide_eq_true hs,cond_true,acG (n:=(i+j)/2+1) (by omega) (by omega)];refine SB m bs v ha hl hc M _ j (by omega) hj (by omega) (fun k hk=>?_) h2;by_cases hk2:k=(i+j)/2;·rw[hk2];exact hs
        ·exact vQ.ltl (ha.lt' (show k<(i+j)/2 by omega) hm) (Int.le_of_lt hs)
   ·    rw[decide_eq_false hs,cond_false];refine SB m bs v ha hl hc M i _ (by omega) (by omega) (by omega) h1 (fun k hk hk3=>?_);by_cases hk2:k=(i+j)/2;·rw[hk2];omega
        ·refine Int.not_lt.1 fun hn=>hs ?_;exact vQ.ltl (ha.lt' (show (i+j)/2<k by omega) hk3) (Int.le_of_lt hn)
  ·have hij2:i=j:=by omega
   subst hij2;refine⟨i,⟨hj,h1,h2⟩,?_⟩;simp only[hlt,decide_false,cond_false,ac8,fnB];by_cases hn:i<bs.length;·rw[decide_eq_true (show ((i:Nat):Int)<((bs.length:Nat):Int) by omega),cond_true,bI hn,ah,hc _ (aF hn),ah,decide_eq_true hn,Bool.true_and,xK bs hn]
   ·rw[decide_eq_false (show ¬((i:Nat):Int)<((bs.length:Nat):Int) by omega),cond_false,decide_eq_false hn,Bool.false_and]
theorem akF(m:Nat)(bs:List Dt)(v:Dt)(ha:yt bs)(hl:bs.length<1000000000)(hm:bs.length<=m)(hc:∀b∈bs,aW m b v=some (cmpD b v)):∃p,Cut bs v p∧i32 (m+1) bs v=some ((p:Int),fnB bs v p):=
 SB m bs v ha hl hc (Nat.succ m) 0 bs.length (aI _) (aj _) (by omega) (fun k h=>by omega) (fun k h1 h2=>by omega)
theorem ZT(m:Nat)(b:Dt)(n:Int)(out:List Dt)(K:List Dt->Option (List Dt)):((eD (m+2) b n).bind fun r=>((app out [(agg [(int r.1),(int r.2.1),(str r.2.2.1),(lst r.2.2.2.1),(lst r.2.2.2.2)])]).bind fun v=>K v))=(app out [vN b n]).bind fun v=>K v:=rfl
section
variable(bs:List Dt)
theorem Vj(m:Nat)(docs:List Dt)(e:Dt)(hl:bs.length<1000000000)(hc:∀a∈bs,∀b∈bs,aW m a b=some (cmpD a b)):∀(M i:Nat),i+1<=bs.length->bs.length-i<=M->
  kM m M bs docs ((i+1:Nat):Int) e=bif LG bs (bs.length-1-i) i then nV m bs docs e else some []
 |0,i,_,h=>by omega
 |M+    1,i,hi,h=>by
  simp only[kM,dlt];by_cases hlt:i+1<bs.length
  ·have hi':i<bs.length:=by omega
   simp only[hlt,decide_true,cond_true,vW,vV,acG (show ((i+1:Nat):Int)-1=(i:Int) by omega) (by omega),bI hi',bI hlt,hc _ (aF hi') _ (aF hlt),ah,bX (show i+1<9223372036854775807 by omega)];rw[show bs.length-1-i=(bs.length-1-(i+1))+1 by omega,LG,xK bs hi',xK bs hlt];by_cases hs:cmpD bs[i] bs[i+1]<0
   ·    rw[decide_eq_false (by omega),decide_eq_true hs,cond_false,Bool.true_and];exact Vj m docs e hl hc M (i+1) (by omega) (by omega)
   ·rw[decide_eq_true (by omega),decide_eq_false hs,cond_true,Bool.false_and,cond_false]
  ·have e1:bs.length-1-i=0:=by omega
   simp only[hlt,decide_false,cond_false,e1,LG,cond_true]
def roB(vs:List Dt):List Dt:=(List.range bs.length).map fun i=>int (cnB bs vs i:Int)
theorem y5(vs:List Dt):(roB bs vs).length=bs.length:=by rw[roB,List.length_map,List.length_range]
theorem SC(vs:List Dt){i:Nat}(h:i<bs.length):(roB bs vs)[i]? =some (int (cnB bs vs i:Int)):=by rw[roB,List.getElem?_map,List.getElem?_range h];rfl
theorem ajo{vs:List Dt}{v:Dt}(h:∀i,inB bs i v=false):roB bs (vs++[v])=roB bs vs:=by unfold roB;refine List.map_congr_left fun i _=>?_;rw[Vh,h];rfl
theorem ajp{vs:List Dt}{v:Dt}{a:Nat}(h:∀i,inB bs i v=decide (i=a)):(roB bs vs).set a (int ((cnB bs vs a+1:Nat):Int))=roB bs (vs++[v]):=by
 refine List.ext_getElem? fun i=>?_;rw[List.getElem?_set];by_cases hi:i<bs.length
 ·rw[SC bs (vs++[v]) hi,Vh,h];by_cases hia:a=i
  ·subst hia;rw[if_pos rfl,if_pos (by rw[y5];exact hi),decide_eq_true rfl];rfl
  ·rw[if_neg hia,SC bs vs hi,decide_eq_false (fun e=>hia e.symm)];rfl
 ·have n1:(roB bs vs)[i]? =none:=List.getElem?_eq_none (by rw[y5];omega);have n2:(roB bs (vs++[v]))[i]? =none:=List.getElem?_eq_none (by rw[y5];omega);rw[n1,n2,y5];by_cases hia:a=i;·rw[if_pos hia,if_neg (by omega)]
  ·rw[if_neg hia]
theorem Vk(m:Nat)(docs:List Dt)(e:Dt)(g:Dt->Dt)(ha:yt bs)(hl:bs.length<1000000000)(hd:docs.length<1000000000)(hE:∀d∈docs,gT m e d=some (g d))(hS:∀d∈docs,∃p,Cut bs (g d) p∧i32 m bs (g d)=some ((p:Int),fnB bs (g d) p)):∀(M j:Nat),j<=docs.length->docs.length-j<M->
  dI m M bs ((((docs.map g).take j).countP (ouB bs):Nat):Int) docs (docs.length:Int) (j:Int) e (roB bs ((docs.map g).take j))=qo m bs (((docs.map g).countP (ouB bs):Nat):Int) (roB bs (docs.map g))
 |0,j,_,h=>by omega
 |M+    1,j,hj,h=>by
  simp only[dI,dlt];by_cases hlt:j<docs.length
  ·obtain⟨p,hp,hs⟩:=hS _ (aF hlt);have ih:=Vk m docs e g ha hl hd hE hS M (j+1) (by omega) (by omega);have hlm:j<(docs.map g).length:=by rw[List.length_map];exact hlt
   have et:(docs.map g).take (j+1)=(docs.map g).take j++[g docs[j]]:=by rw[List.take_succ_eq_append_getElem hlm,List.getElem_map]
   have hle:=hp.le;have ho:((docs.map g).take j).countP (ouB bs)<=j:=Nat.le_trans List.countP_le_length (by rw[List.length_take];omega);have hcn:=ama (bs:=bs) ((docs.map g).take j);have hlt2:((docs.map g).take j).length<=j:=by rw[List.length_take];omega
   rw[et,List.countP_append,List.countP_cons,List.countP_nil,ZP hp ha]at ih;simp only[hlt,decide_true,cond_true,vX,bI hlt,hE _ (aF hlt),hs,ah];have hj9:∀rw1:List Dt,(bif (Bool.not (fnB bs (g docs[j]) p))then gP m (dI m M) bs ((((docs.map g).take j).countP (ouB bs):Nat):Int) (wrap .i64 ((p:Int)-1)) docs (docs.length:Int) (j:Int) e rw1 else gP m (dI m M) bs ((((docs.map g).take j).countP (ouB bs):Nat):Int) (p:Int) docs (docs.length:Int) (j:Int) e rw1)=gP m (dI m M) bs ((((docs.map g).take j).countP (ouB bs):Nat):Int) (aB bs (g docs[j]) p) docs (docs.length:Int) (j:Int) e rw1:=fun rw1=>by
        rw[aB];cases fnB bs (g docs[j]) p;·rw[wrap64 (by omega) (by omega)];rfl
        ·rfl
   rw[hj9];have e10:∀(b:Bool)(rw1:List Dt),jS m (dI m M) bs ((((docs.map g).take j).countP (ouB bs):Nat):Int) (aB bs (g docs[j]) p) docs (docs.length:Int) (j:Int) b e rw1=bif b then dI m M bs ((((docs.map g).take j).countP (ouB bs)+1:Nat):Int) docs (docs.length:Int) ((j+1:Nat):Int) e rw1 else qj m (dI m M) bs ((((docs.map g).take j).countP (ouB bs):Nat):Int) (aB bs (g docs[j]) p) docs (docs.length:Int) (j:Int) e rw1:=fun b rw1=>by rw[jS,mY,acG (n:=((docs.map g).take j).countP (ouB bs)+1) (by omega) (by omega),bX (by omega)]
   rw[gP,e10,e10,wrap64 (n:=(bs.length:Int)-1) (by omega) (by omega)];by_cases hout:aB bs (g docs[j]) p<0∨(bs.length:Int)-1<=aB bs (g docs[j]) p
   ·    have hro:=ajo bs (vs:=(docs.map g).take j) (ZO hp ha hout);rw[decide_eq_true hout,hro]at ih;have:(bif decide (aB bs (g docs[j]) p<0)then true else decide ((bs.length:Int)-1<=aB bs (g docs[j]) p))=true:=by
         rcases hout with h|h;·rw[decide_eq_true h];rfl
         ·rw[decide_eq_true h];cases decide (aB bs (g docs[j]) p<0)<;>rfl
        have ih':=ih;simp only[if_true,Nat.zero_add]at ih';by_cases h0:aB bs (g docs[j]) p<0
        ·rw[decide_eq_true h0,cond_true,cond_true];exact ih'
        ·rw[decide_eq_false h0,cond_false,decide_eq_true (show (bs.length:Int)-1<=aB bs (g docs[j]) p by omega),cond_true];exact ih'
   ·    have hat:=aeS hp ha hout;have hro:=ajp bs (vs:=(docs.map g).take j) hat;have ha1:(aB bs (g docs[j]) p).toNat<bs.length:=by omega
        have ei:aB bs (g docs[j]) p=(((aB bs (g docs[j]) p).toNat:Nat):Int):=by omega
        rw[decide_eq_false hout,←hro]at ih;have ih':=ih;simp only[Bool.false_eq_true,if_false,Nat.add_zero]at ih';rw[decide_eq_false (by omega),cond_false,decide_eq_false (by omega),cond_false,qj];generalize (aB bs (g docs[j]) p).toNat=a at*
        rw[ei,tZ (show a<(roB bs ((docs.map g).take j)).length by rw[y5];exact ha1),ah,SC bs _ ha1,ah,ah,ah,show toInt (int (cnB bs ((docs.map g).take j) a:Int))=(cnB bs ((docs.map g).take j) a:Int)from rfl,acG (n:=cnB bs ((docs.map g).take j) a+1) (by omega) (by have:=hcn a;omega),mY,bX (by omega)];exact ih'
  ·have e1:j=docs.length:=by omega
   have et:(docs.map g).take j=docs.map g:=List.take_of_length_le (by rw[List.length_map];omega);simp only[hlt,decide_false,cond_false,et]
def fiB(n:Nat)(out:List Dt):List Dt:=out++bif decide ((0:Int)<(n:Int))then[vN mP (n:Int)]else[]
theorem Vl(m:Nat)(vs:List Dt)(n:Nat)(hl:bs.length<1000000000)(hc:∀b∈bs,bR (m+2) b=some b):∀(M i:Nat)(out:List Dt),i<=bs.length->bs.length-i<M->out.length<=i->
  jU (m+2) M bs (n:Int) (roB bs vs) (bs.length:Int) (i:Int) out=some (fiB n (out++ouL bs vs (bs.length-i) i))
 |0,i,_,_,h,_=>by omega
 |M+    1,i,out,hi,h,ho=>by
  simp only[jU,dlt];by_cases hlt:i<bs.length
  ·have hr:i<(roB bs vs).length:=by rw[y5];exact hlt
   have er:(roB bs vs)[i]=int (cnB bs vs i:Int):=by have:=SC bs vs hlt;rw[aA hr]at this;exact Option.some.inj this
   have ih:=fun out ho=>Vl m vs n hl hc M (i+1) out (by omega) (by omega) ho;have ap:∀y:Dt,app out [y]=some (out++[y]):=fun y=>rU (by simp;omega);rw[show bs.length-i=(bs.length-(i+1))+1 by omega,ouL,ouT,xK bs hlt];simp only[hlt,decide_true,cond_true,uQ,ql,bI hr,er,ah,bI hlt,hc _ (aF hlt),ZT,ap,bX (show i<9223372036854775807 by omega)];show (bif decide ((0:Int)<(cnB bs vs i:Int))then _ else _)=_;cases decide ((0:Int)<(cnB bs vs i:Int))
   ·    rw[cond_false,cond_false,List.nil_append];exact ih out (by omega)
   ·    rw[cond_true,cond_true,←List.append_assoc];exact ih _ (by simp;omega)
  ·have e1:bs.length-i=0:=by omega
   rw[e1,ouL,List.append_nil];have ap:∀y:Dt,app out [y]=some (out++[y]):=fun y=>rU (by simp;omega);simp only[hlt,decide_false,cond_false,uR,qm,ZT,ap,ah,fiB];cases decide ((0:Int)<(n:Int));·rw[cond_false,cond_false,List.append_nil]
   ·rfl
def buS(vs:List Dt):List Dt:=bif decide ((bs.length:Int)<2)then[]else bif LG bs (bs.length-1) 0 then fiB (vs.countP (ouB bs)) (ouL bs vs (bs.length-1) 0)else[]
theorem buP(m:Nat)(docs:List Dt)(e:Dt)(g:Dt->Dt)(hl:bs.length<1000000000)(hd:docs.length<1000000000)(hm:1000000000<=m)(hE:∀d∈docs,gT (m+2) e d=some (g d))(hcd:∀d∈docs,∀b∈bs,aW (m+1) b (g d)=some (cmpD b (g d)))(hcb:∀a∈bs,∀b∈bs,aW (m+2) a b=some (cmpD a b))(hcp:∀b∈bs,bR (m+2) b=some b):
  iP (m+3) e bs docs=some (buS bs (docs.map g)):=by
 rw[iP,buS];by_cases h2:(bs.length:Int)<2;·rw[decide_eq_true h2];rfl
 ·rw[   decide_eq_false h2,cond_false,cond_false];have h1:=Vj bs (m+2) docs e hl hcb (Nat.succ (m+2)) 0 (by omega) (by omega);refine Eq.trans (b:=bif LG bs (bs.length-1-0) 0 then nV (m+2) bs docs e else some []) h1 ?_;rw[Nat.sub_zero];cases hasc:LG bs (bs.length-1) 0;·rfl
  ·rw[cond_true,cond_true];have ha:yt bs:=fun i hi=>Vg bs _ _ hasc i (aI _) (by omega);have hS:∀d∈docs,∃p,Cut bs (g d) p∧i32 (m+2) bs (g d)=some ((p:Int),fnB bs (g d) p):=fun d hd'=>akF (m+1) bs (g d) ha hl (by omega) (hcd d hd');have k1:=Vk bs (m+2) docs e g ha hl hd hE hS (Nat.succ (m+2)) 0 (aI _) (by omega);have k2:=Vl bs m (docs.map g) ((docs.map g).countP (ouB bs)) hl hcp (Nat.succ (m+2)) 0 [] (aI _) (by omega) (aj _);have er:roB bs []=List.replicate bs.length (int 0):=by rw[roB,List.eq_replicate_iff];refine⟨by simp,fun b hb=>?_⟩;obtain⟨i,_,rfl⟩:=List.mem_map.1 hb;rfl
   rw[List.take_zero,List.countP_nil,er]at k1;rw[nV,uG (by omega),ah];refine Eq.trans k1 ?_;rw[Nat.sub_zero,List.nil_append,aeU]at k2;have k3:(((roB bs (docs.map g)).length:Nat):Int)=(bs.length:Int):=by rw[y5]
   rw[qo,k3];exact k2
end
end Go.Proofs.YtmecfjhdnbgfeaaGreatDoor
namespace Go.Proofs.YtmecfjhdnbgfeaaGreatDoor
open Go.Am
abbrev GL:=List (Dt×Nat)
def pR:GL->Dt->GL
 | [],v=>[(v,1)]
 |(a,n)::r,v=>bif cmpD a v==0 then(a,n+1)::r else(a,n)::pR r v
def gAt(G:GL)(i:Nat):Dt:=(G.getD i (aC,0)).1
def gN(G:GL)(i:Nat):Nat:=(G.getD i (aC,0)).2
def oB(G:GL)(O:List Nat):List Dt:=O.map (gAt G)
structure OI (G:GL) (O:List Nat):Prop where
 rng:∀i∈O,i<G.length
 all:∀i,i<G.length->i∈O
 asc:(oB G O).Pairwise fun a b=>cmpD a b<0
theorem OI.nil:OI [] []:=⟨fun i h=>(by cases h),fun i h=>(by simp at h),.nil⟩
theorem pF(G:GL)(O:List Nat):(oB G O).length=O.length:=by rw[oB,List.length_map]
theorem PS{G:GL}{O:List Nat}{p:Nat}(h:p<O.length):bAt (oB G O) p=gAt G O[p]:=by rw[xK _ (by rw[pF];exact h)];simp only[oB,List.getElem_map]
theorem amb{bs:List Dt}(h:bs.Pairwise fun a b=>cmpD a b<0):yt bs:=fun i hi=>by rw[xK bs (by omega),xK bs hi];exact List.pairwise_iff_getElem.1 h i (i+1) (by omega) hi (by omega)
theorem OI.ascB{G:GL}{O:List Nat}(h:OI G O):yt (oB G O):=amb h.asc
theorem qN{a b c:Dt}(h1:cmpD a c=0)(h2:cmpD b c=0):cmpD a b=0:=by have a1:=vQ.anti b c;have a2:=vQ.anti a c;have a3:=vQ.anti a b;have t1:=vQ.tr a c b (by omega) (by omega);have t2:=vQ.tr b c a (by omega) (by omega);omega
theorem OI.ne{G:GL}{O:List Nat}(h:OI G O){i j:Nat}(hi:i<G.length)(hj:j<G.length)(hij:i≠j):cmpD (gAt G i) (gAt G j)≠0:=by
 obtain⟨p,hp,rfl⟩:=List.getElem_of_mem (h.all i hi);obtain⟨q,hq,rfl⟩:=List.getElem_of_mem (h.all j hj);have hpq:p≠q:=fun e=>hij (by subst e;rfl);have hb:=List.pairwise_iff_getElem.1 h.asc;have e:∀(k:Nat)(hk:k<O.length),(oB G O)[k]'(by rw[pF];exact hk)=gAt G O[k]:=fun k hk=>by simp only[oB,List.getElem_map]
 rcases Nat.lt_or_gt_of_ne hpq with hl|hl
 ·have:=hb p q (by rw[pF];exact hp) (by rw[pF];exact hq) hl;rw[e p hp,e q hq]at this;omega
 ·have:=hb q p (by rw[pF];exact hq) (by rw[pF];exact hp) hl;rw[e p hp,e q hq]at this;have:=vQ.anti (gAt G O[p]) (gAt G O[q]);omega
theorem LH(x:Dt×Nat)(r:GL):gAt (x::r) 0=x.1:=rfl
theorem LJ:∀(G:GL)(v:Dt)(i:Nat),i<G.length->cmpD (gAt G i) v=0->(∀j,j<i->cmpD (gAt G j) v≠0)->pR G v=G.set i (gAt G i,gN G i+1)
 | [],_,_,h,_,_=>by simp at h
 |(a,n)::r,v,0,_,h,_=>by rw[LH]at h;rw[pR,show (cmpD a v==0)=true by simpa using h];rfl
 |(a,n)::r,v,i+1,hl,h,hn=>by have h0:=hn 0 (by omega);rw[LH]at h0;rw[pR,show (cmpD a v==0)=false by simpa using h0,cond_false,LJ r v i (by simpa using hl) h fun j hj=>hn (j+1) (by omega)];rfl
theorem EW:∀(G:GL)(v:Dt),(∀j,j<G.length->cmpD (gAt G j) v≠0)->pR G v=G++[(v,1)]
 | [],_,_=>rfl
 |(a,n)::r,v,hn=>by have h0:=hn 0 (by simp);rw[LH]at h0;rw[pR,show (cmpD a v==0)=false by simpa using h0,cond_false,EW r v fun j hj=>hn (j+1) (by simpa using hj)];rfl
theorem y7{G:GL}{i:Nat}{n:Nat}(j:Nat):gAt (G.set i (gAt G i,n)) j=gAt G j:=by
 unfold gAt;simp only[List.getD_eq_getElem?_getD,List.getElem?_set];by_cases hij:i=j
 ·subst hij;by_cases hl:i<G.length;·rw[if_pos rfl,if_pos hl];rfl
  ·rw[if_pos rfl,if_neg hl,List.getElem?_eq_none (by omega)]
 ·rw[if_neg hij]
theorem OI.found{G:GL}{O:List Nat}(h:OI G O){v:Dt}{p:Nat}(hp:Cut (oB G O) v p)(hf:fnB (oB G O) v p=true):∃hp':p<O.length,pR G v=G.set O[p] (gAt G O[p],gN G O[p]+1)∧OI (pR G v) O:=by
 rw[fnB,aM,decide_eq_true_eq,pF]at hf;obtain⟨h1,h2⟩:=hf;refine⟨h1,?_⟩;rw[PS h1]at h2;have h2:cmpD (gAt G O[p]) v=0:=by simpa using h2
 have hi:=h.rng _ (aF h1);have e:=LJ G v O[p] hi h2 fun j hj he=>h.ne (show j<G.length by omega) hi (by omega) (qN he h2);refine⟨e,?_⟩;rw[e];refine⟨fun i hi=>by rw[List.length_set];exact h.rng i hi,fun i hi=>h.all i (by rw[List.length_set]at hi;exact hi),?_⟩;have:oB (G.set O[p] (gAt G O[p],gN G O[p]+1)) O=oB G O:=List.map_congr_left fun j _=>y7 j;rw[this];exact h.asc
theorem kQ{G:GL}{x:Dt×Nat}{i:Nat}(h:i<G.length):gAt (G++[x]) i=gAt G i:=by unfold gAt;rw[List.getD_eq_getElem?_getD,List.getD_eq_getElem?_getD,List.getElem?_append_left h]
theorem oJ{G:GL}{x:Dt×Nat}:gAt (G++[x]) G.length=x.1:=by unfold gAt;rw[List.getD_eq_getElem?_getD,List.getElem?_append_right (aj _)];simp
theorem OI.fresh{G:GL}{O:List Nat}(h:OI G O){v:Dt}{p:Nat}(hp:Cut (oB G O) v p)(hf:fnB (oB G O) v p=false):pR G v=G++[(v,1)]∧p<=O.length∧OI (pR G v) (O.take p++G.length::O.drop p):=by
 have hpl:=hp.le;rw[pF]at hpl;have hgt:∀k(hk:k<O.length),p<=k->0<cmpD (gAt G O[k]) v:=fun k hk hpk=>by
  rcases Nat.lt_or_ge p k with hl|hl
  ·have:=hp.gt h.ascB hl (by rw[pF];exact hk);rw[PS hk]at this;exact this
  ·have e:k=p:=by omega
   subst e;have h1:=hp.hi k (aj _) (by rw[pF];exact hk);rw[fnB,decide_eq_true (by rw[pF];exact hk),Bool.true_and,PS hk]at hf;rw[PS hk]at h1;have:cmpD (gAt G O[k]) v≠0:=by simpa using hf
   omega
 have hlo:∀k(hk:k<O.length),k<p->cmpD (gAt G O[k]) v<0:=fun k hk hkp=>by have:=hp.lo k hkp;rw[PS hk]at this;exact this
 have hne:∀j,j<G.length->cmpD (gAt G j) v≠0:=fun j hj=>by
  obtain⟨q,hq,rfl⟩:=List.getElem_of_mem (h.all j hj);rcases Nat.lt_or_ge q p with hl|hl;·have:=hlo q hq hl;omega
  ·have:=hgt q hq hl;omega
 have e:=EW G v hne;refine⟨e,hpl,?_⟩;rw[e];have htd:O.take p++O.drop p=O:=List.take_append_drop p O;refine⟨fun i hi=>?_,fun i hi=>?_,?_⟩
 ·rw[aD,List.length_singleton];rcases List.mem_append.1 hi with hi|hi;·have:=h.rng i (List.mem_of_mem_take hi);omega
  ·rcases List.mem_cons.1 hi with rfl|hi;·omega
   ·have:=h.rng i (List.mem_of_mem_drop hi);omega
 ·rw[aD,List.length_singleton]at hi;by_cases hl:i<G.length
  ·have:=h.all i hl;rw[←htd]at this;rcases List.mem_append.1 this with h1|h1;·exact bB _ h1
   ·exact List.mem_append_right _ (bD _ h1)
  ·have:i=G.length:=by omega
   subst this;exact List.mem_append_right _ bA
 ·have e1:∀l:List Nat,(∀i∈l,i<G.length)->oB (G++[(v,1)]) l=oB G l:=fun l hl=>List.map_congr_left fun i hi=>kQ (hl i hi);have eo:oB (G++[(v,1)]) (O.take p++G.length::O.drop p)=oB G (O.take p)++v::oB G (O.drop p):=by
   have k1:=e1 (O.take p) fun i hi=>h.rng i (List.mem_of_mem_take hi);have k2:=e1 (O.drop p) fun i hi=>h.rng i (List.mem_of_mem_drop hi);unfold oB at k1 k2 ⊢
   rw[List.map_append,List.map_cons,k1,k2,oJ]
  have ho:oB G (O.take p)++oB G (O.drop p)=oB G O:=by rw[oB,oB,oB,←List.map_append,htd]
  have hasc:=h.asc;rw[←ho,List.pairwise_append]at hasc;obtain⟨a1,a2,a3⟩:=hasc;have m1:∀a∈oB G (O.take p),cmpD a v<0:=fun a ha=>by obtain⟨i,hi,rfl⟩:=List.mem_map.1 ha;obtain⟨k,hk,rfl⟩:=List.getElem_of_mem hi;rw[List.length_take]at hk;rw[List.getElem_take];exact hlo k (by omega) (by omega)
  have m2:∀b∈oB G (O.drop p),cmpD v b<0:=fun b hb=>by obtain⟨i,hi,rfl⟩:=List.mem_map.1 hb;obtain⟨k,hk,rfl⟩:=List.getElem_of_mem hi;rw[List.length_drop]at hk;rw[List.getElem_drop];have:=hgt (p+k) (by omega) (by omega);have:=vQ.anti (gAt G O[p+k]) v;omega
  rw[eo,List.pairwise_append];refine⟨a1,List.pairwise_cons.2 ⟨m2,a2⟩,fun a ha b hb=>?_⟩;rcases List.mem_cons.1 hb with rfl|hb;·exact m1 a ha
  ·exact a3 a ha b hb
def grp(vs:List Dt):GL:=vs.foldl pR []
theorem LK(vs:List Dt)(v:Dt):grp (vs++[v])=pR (grp vs) v:=by rw[grp,List.foldl_append];rfl
def oW(G:GL):Nat:=(G.map (·.2)).sum
theorem Vm:∀(G:GL)(v:Dt),oW (pR G v)=oW G+1
 | [],_=>rfl
 |(a,n)::r,v=>by
  rw[pR];cases cmpD a v==0
  ·have:=Vm r v;simp only[cond_false,oW,List.map_cons,List.sum_cons]at this ⊢
   omega
  ·simp only[cond_true,oW,List.map_cons,List.sum_cons];omega
theorem Vn:∀(G:GL)(v:Dt),(∀x∈G,1<=x.2)->∀x∈pR G v,1<=x.2
 | [],_,_,x,hx=>by rw[List.mem_singleton.1 hx];exact aj _
 |(a,n)::r,v,h,x,hx=>by
  rw[pR]at hx;cases hc:cmpD a v==0 with
  |false=>
   rw[hc,cond_false]at hx;rcases List.mem_cons.1 hx with rfl|hx;·exact h _ bA
   ·exact Vn r v (fun y hy=>h y (bD _ hy)) x hx
  |true=>
   rw[hc,cond_true]at hx;rcases List.mem_cons.1 hx with rfl|hx;·exact Nat.succ_le_succ (aI _)
   ·exact h x (bD _ hx)
theorem Vo(G:GL)(v:Dt):(pR G v).length<=G.length+1:=by
 induction G with
 |nil=>exact aj _
 |cons x r ih=>
  obtain⟨a,n⟩:=x;rw[pR];cases cmpD a v==0;·simpa using ih
  ·simp
end Go.Proofs.YtmecfjhdnbgfeaaGreatDoor
namespace Go.Proofs.YtmecfjhdnbgfeaaGreatDoor
open IntKind (wrap)
open Go.Am Go.Am.Srt
theorem g1(A B:List Dt)(x:Dt):(A++x::B)[A.length]? =some x:=by simp
theorem s1(A B:List Dt)(x z:Dt):(A++x::B).set A.length z=A++z::B:=by simp
theorem i1(A B:List Dt)(x:Dt):inL (A++x::B) ((A.length:Nat):Int)=some ():=by unfold inL;rw[if_pos ⟨by omega,by rw[aD,List.length_cons];omega⟩]
theorem wrN{z:Int}{n:Nat}(h:z=(n:Int))(hn:n<9223372036854775807):wrap IntKind.i64 z=(n:Int):=by rw[h,wrap64 (by omega) (by omega)]
def ltc(c:Dt->Dt->Int)(x y:Dt):Bool:=decide (c x y<0)
theorem swo{c:Dt->Dt->Int}(h:TPO c):SWO (ltc c):=⟨fun x=>by simp[ltc,h.refl],fun x y z h1 h2=>by
 simp only[ltc,decide_eq_true_eq]at h1 h2 ⊢
 exact h.ltl h1 (by omega),fun x y z h1 h2=>by
 simp only[ltc,decide_eq_false_iff_not]at h1 h2 ⊢
 have a1:=h.anti x y;have a2:=h.anti y z;have a3:=h.anti x z;have:=h.tr z y x (by omega) (by omega);omega⟩
section
theorem Vp(m:Nat):∀(M:Nat)(X P Y Q Z:List Dt)(a b i n:Nat),X.length=a+i->P.length+i=n->Q.length=P.length->X.length+P.length+Y.length=b+i->P.length<M->b+n<4611686018427387904->
  FV m M (a:Int) (b:Int) (n:Int) (i:Int) (X++(P++(Y++(Q++Z))))=some (X++(Q++(Y++(P++Z))))
 |0,_,_,_,_,_,_,_,_,_,_,_,_,_,h,_=>by omega
 |M+1,X,[],Y,Q,Z,a,b,i,n,hX,hP,hQ,hb,hM,hl=>by
  have hin:¬i<n:=by simp at hP;omega
  obtain rfl:Q=[]:=List.length_eq_zero_iff.1 (by simpa using hQ);simp only[FV,dlt,hin,decide_false,cond_false,List.nil_append]
 |M+1,X,p::P,Y,[],Z,a,b,i,n,hX,hP,hQ,hb,hM,hl=>by simp at hQ
 |M+1,X,p::P,Y,q::Q,Z,a,b,i,n,hX,hP,hQ,hb,hM,hl=>by
  simp only[List.length_cons]at hP hQ hb hM;have hin:i<n:=by omega
  have ea:wrap IntKind.i64 ((a:Int)+(i:Int))=((X.length:Nat):Int):=wrN (by omega) (by omega);have eb:wrap IntKind.i64 ((b:Int)+(i:Int))=(((X++p::(P++Y)).length:Nat):Int):=wrN (by simp;omega) (by simp;omega);have eb':(X++q::(P++Y)).length=(X++p::(P++Y)).length:=by simp
  have d1:X++(p::P++(Y++(q::Q++Z)))=X++p::(P++(Y++(q::(Q++Z)))):=by simp
  have d2:X++p::(P++(Y++(q::(Q++Z))))=(X++p::(P++Y))++q::(Q++Z):=by simp
  have d3:X++q::(P++(Y++(q::(Q++Z))))=(X++q::(P++Y))++q::(Q++Z):=by simp
  have hgq:(X++p::(P++(Y++(q::(Q++Z)))))[(X++p::(P++Y)).length]? =some q:=by rw[d2];exact g1 _ _ _
  have hiq:inL (X++p::(P++(Y++(q::(Q++Z))))) (((X++p::(P++Y)).length:Nat):Int)=some ():=by rw[d2];exact i1 _ _ _
  have hgq2:(X++q::(P++(Y++(q::(Q++Z)))))[(X++p::(P++Y)).length]? =some q:=by rw[d3,←eb'];exact g1 _ _ _
  have hiq2:inL (X++q::(P++(Y++(q::(Q++Z))))) (((X++p::(P++Y)).length:Nat):Int)=some ():=by rw[d3,←eb'];exact i1 _ _ _
  have hs2:(X++q::(P++(Y++(q::(Q++Z))))).set (X++p::(P++Y)).length p=(X++q::(P++Y))++p::(Q++Z):=by rw[d3,←eb'];exact s1 _ _ _ _
  rw[d1];simp only[FV,dlt,hin,decide_true,cond_true,ea,eb,hiq,hgq,hiq2,hgq2,hs2,i1,g1,s1,ah,Int.toNat_natCast,bX (show i<9223372036854775807 by omega)];have ih:=Vp m M (X++[q]) P (Y++[p]) Q Z a b (i+1) n (by simp;omega) (by omega) (by omega) (by simp;omega) (by omega) hl;simp only[List.append_assoc,List.cons_append,List.nil_append]at ih ⊢
  exact ih
theorem X8(m:Nat)(X P Y Q Z:List Dt)(b n:Nat)(hP:P.length=n)(hQ:Q.length=n)(hb:X.length+P.length+Y.length=b)(hm:n<=m)(hl:b+n<4611686018427387904):
  i30 (m+1) (X.length:Int) (b:Int) (n:Int) (X++(P++(Y++(Q++Z))))=some (X++(Q++(Y++(P++Z)))):=
 Vp m (m+1) X P Y Q Z X.length b 0 n rfl (by omega) (by omega) (by omega) (by omega) hl
theorem tC{A:Type}(l:List A)(k:Nat)(h:k<=l.length):∃p q,l=p++q∧p.length=k:=⟨l.take k,l.drop k,(List.take_append_drop k l).symm,by simp;omega⟩
theorem LM(m:Nat):∀(M:Nat)(X U V Z:List Dt)(k i j:Nat),X.length+U.length=k->U.length=i->V.length=j->0<i->0<j->i+j<=M->i+j<=m->k+j<2305843009213693952->
  zM (m+1) M (k:Int) (i:Int) (j:Int) (X++(U++(V++Z)))=some (X++(V++(U++Z)))
 |0,_,_,_,_,_,_,_,_,_,_,_,_,h,_,_=>by omega
 |M+    1,X,U,V,Z,k,i,j,hk,hU,hV,hi,hj,hM,hm,hl=>by
  have ewi:wrap IntKind.i64 ((k:Int)-(i:Int))=((X.length:Nat):Int):=wrN (by omega) (by omega);by_cases hij:i=j
  ·subst hij;have e:(((i:Int) !=(i:Int)):Bool)=false:=by simp
   have hs:=X8 m X U [] V Z k i hU hV (by simp;omega) (by omega) (by omega);simp only[List.nil_append]at hs;simp only[zM,e,cond_false,ewi,hs,ah]
  ·have e:(((i:Int) !=(j:Int)):Bool)=true:=by simp only[bne_iff_ne];omega
   by_cases hlt:j<i
   ·    obtain⟨U1,U2,rfl,h1⟩:=tC U j (by omega);rw[aD]at hU hk;have hs:=X8 m X U1 U2 V Z k j h1 hV (by omega) (by omega) (by omega);have ewj:wrap IntKind.i64 ((i:Int)-(j:Int))=(((i-j:Nat):Nat):Int):=wrN (by omega) (by omega);have ih:=LM m M (X++V) U2 U1 Z k (i-j) j (by simp;omega) (by omega) (by omega) (by omega) hj (by omega) (by omega) hl;simp only[List.append_assoc]at ih hs ⊢
        simp only[zM,e,cond_true,dlt,hlt,decide_true,ewi,hs,ah,ewj,ih]
   ·    obtain⟨V1,V2,rfl,h1⟩:=tC V (j-i) (by omega);rw[aD]at hV;have hs:=X8 m X U V1 V2 Z (k+(j-i)) i hU (by omega) (by omega) (by omega) (by omega);have ewb:wrap IntKind.i64 (wrap IntKind.i64 ((k:Int)+(j:Int))-(i:Int))=(((k+(j-i):Nat):Nat):Int):=by have e0:wrap IntKind.i64 ((k:Int)+(j:Int))=((k+j:Nat):Int):=wrN (by omega) (by omega);rw[e0];exact wrN (by omega) (by omega)
        have ewj:wrap IntKind.i64 ((j:Int)-(i:Int))=(((j-i:Nat):Nat):Int):=wrN (by omega) (by omega);have ih:=LM m M X V2 V1 (U++Z) k i (j-i) (by omega) (by omega) (by omega) hi (by omega) (by omega) (by omega) (by omega);simp only[List.append_assoc]at ih hs ⊢
        simp only[zM,e,cond_true,dlt,hlt,decide_false,cond_false,ewi,ewb,hs,ah,ewj,ih]
theorem amc(m:Nat)(X U V Z:List Dt)(a k b:Nat)(ha:X.length=a)(hk:a+U.length=k)(hb:k+V.length=b)(hU:0<U.length)(hV:0<V.length)(hm:b<=m)(hl:b<1152921504606846976):
  i29 (m+2) (a:Int) (k:Int) (b:Int) (X++(U++(V++Z)))=some (X++(V++(U++Z))):=by
 have e1:wrap IntKind.i64 ((k:Int)-(a:Int))=((U.length:Nat):Int):=wrN (by omega) (by omega);have e2:wrap IntKind.i64 ((b:Int)-(k:Int))=((V.length:Nat):Int):=wrN (by omega) (by omega);simp only[i29,e1,e2];exact LM m (m+2) X U V Z k U.length V.length (by omega) rfl rfl hU hV (by omega) (by omega) (by omega)
end
section
variable{c:Dt->Dt->Int}(hc:TPO c){P:Dt->Prop}{m0:Nat}(hC:∀m,m0<=m->∀x y,P x->P y->dB m x y=some (c x y))
include hc hC
theorem aeV(m:Nat)(hm:m0<=m)(rec1:Int->Int->Int->List Dt->Option (List Dt))(a:Nat)(x1 x2:Int):∀(n M:Nat)(X S:List Dt)(x:Dt)(Z:List Dt)(j:Nat),S.length=n->X.length=a->a+S.length=j->n<M->(∀y∈S,P y)->P x->Asc (ltc c) S->j<4611686018427387904->
  FW m rec1 M (a:Int) x1 x2 (j:Int) (X++(S++x::Z))=rec1 (a:Int) x1 (wrap IntKind.i64 (x2+1)) (X++(bL (ltc c) (S++[x])++Z))
 |_,0,_,_,_,_,_,_,_,_,h,_,_,_,_=>by omega
 |0,M+1,X,S,x,Z,j,hn,hX,hj,hM,hS,hx,hA,hl=>by
  obtain rfl:S=[]:=List.length_eq_zero_iff.1 hn;have:¬a<j:=by simp at hj;omega
  simp only[FW,dlt,this,decide_false,cond_false,List.nil_append,bL,ins,List.singleton_append]
 |n+    1,M+1,X,S,x,Z,j,hn,hX,hj,hM,hS,hx,hA,hl=>by
  have h:=swo hc;have hne:S≠[]:=by rintro rfl;simp at hn
  obtain⟨S',y,rfl⟩:∃S' y,S=S'++[y]:=⟨S.dropLast,S.getLast hne,(List.dropLast_concat_getLast hne).symm⟩;simp only[aD,List.length_cons,List.length_nil]at hn hj;have haj:a<j:=by omega
  obtain⟨hA1,_,hA2⟩:=gG hA;have hy:P y:=hS y (by simp);have d0:X++(S'++[y]++x::Z)=(X++S')++y::x::Z:=by simp
  have d1:(X++S')++y::x::Z=(X++(S'++[y]))++x::Z:=by simp
  have d2:(X++S')++y::x::Z=(X++S')++y::(x::Z):=rfl;have lj:(X++(S'++[y])).length=j:=by simp;omega
  have lj1:(X++S').length=j-1:=by simp;omega
  have ej:wrap IntKind.i64 ((j:Int)-1)=((j-1:Nat):Int):=wrN (by omega) (by omega);have gx:((X++S')++y::x::Z)[j]? =some x:=by rw[d1,←lj];exact g1 _ _ _
  have ix:inL ((X++S')++y::x::Z) (j:Int)=some ():=by rw[d1,←lj];exact i1 _ _ _
  have gy:((X++S')++y::x::Z)[j-1]? =some y:=by rw[←lj1];exact g1 _ _ _
  have iy:inL ((X++S')++y::x::Z) ((j-1:Nat):Int)=some ():=by rw[←lj1];exact i1 _ _ _
  have sx:((X++S')++y::x::Z).set j y=(X++S')++y::y::Z:=by rw[d1,←lj,s1];simp
  have gy2:((X++S')++y::y::Z)[j-1]? =some y:=by rw[←lj1];exact g1 _ _ _
  have iy2:inL ((X++S')++y::y::Z) ((j-1:Nat):Int)=some ():=by rw[←lj1];exact i1 _ _ _
  have sy:((X++S')++y::y::Z).set (j-1) x=X++(S'++x::(y::Z)):=by rw[←lj1,s1];simp
  rw[d0];simp only[FW,dlt,haj,decide_true,cond_true,ix,gx,ej,iy,gy,ah,Int.toNat_natCast,hC m hm x y hx hy];cases hlt:decide (c x y<0)
  ·have hxy:ltc c x y=false:=hlt;have hasc:Asc (ltc c) (S'++[y]++[x]):=rW hA ⟨by simp,trivial⟩ (fun s hs z hz=>by
        rw[List.mem_singleton]at hz;subst hz;rcases List.mem_append.1 hs with hs|hs;·exact h.ntr _ _ _ hxy (hA2 s hs y (by simp))
        ·rw[List.mem_singleton]at hs;subst hs;exact hxy)
   simp only[cond_false];rw[mG hasc];simp
  ·have hxy:ltc c x y=true:=hlt;simp only[cond_true,ix,gx,ej,iy,gy,sx,iy2,gy2,sy,ah,Int.toNat_natCast];have ih:=aeV m hm rec1 a x1 x2 n M X S' x (y::Z) (j-1) (by omega) hX (by omega) (by omega) (fun z hz=>hS z (by simp[hz])) hx hA1 (by omega);rw[ih];have e1:bL (ltc c) (S'++[y]++[x])=bL (ltc c) (S'++[x])++[y]:=by
        have hsw:=Ei h hxy S' [];have hsp:=Jl h (X:=S'++[x]) (Y:=[y]) (fun s hs z hz=>by
         rw[List.mem_singleton]at hz;subst hz;rcases List.mem_append.1 hs with hs|hs;·exact hA2 s hs z (by simp)
         ·rw[List.mem_singleton]at hs;subst hs;exact h.asy hxy)
        simp only[List.append_assoc,List.singleton_append]at hsp hsw ⊢
        rw[hsw,hsp];rfl
   rw[e1];simp
theorem ZU(m:Nat)(hm:m0<=m)(a b:Nat)(hl:b<4611686018427387904)(X Z:List Dt)(hX:X.length=a):∀(n M:Nat)(S Y:List Dt)(i:Nat),Y.length=n->n<M->b<=m->a+S.length=i->i+Y.length=b->(∀y∈S,P y)->(∀y∈Y,P y)->
  yL m M (a:Int) (b:Int) (i:Int) (X++(bL (ltc c) S++(Y++Z)))=some (X++(bL (ltc c) (S++Y)++Z))
 |_,0,_,_,_,_,h,_,_,_,_,_=>by omega
 |0,M+1,S,Y,i,hn,hM,hm2,hi,hb,hS,hY=>by
  obtain rfl:Y=[]:=List.length_eq_zero_iff.1 hn;have:¬i<b:=by simp at hb;omega
  simp only[yL,dlt,this,decide_false,cond_false,List.nil_append,List.append_nil]
 |n+1,M+1,S,[],i,hn,hM,hm2,hi,hb,hS,hY=>by simp at hn
 |n+1,M+1,S,y::Y,i,hn,hM,hm2,hi,hb,hS,hY=>by
  have h:=swo hc;simp only[List.length_cons]at hn hb;have hib:i<b:=by omega
  have hin:=aeV hc hC m hm (yL m M) a (b:Int) (i:Int) S.length (m+1) X (bL (ltc c) S) y (Y++Z) i (isort_len S) hX (by rw[isort_len];omega) (by omega) (fun z hz=>hS z (mem_isort.1 hz)) (hY y (by simp)) (nR h S) (by omega);have ih:=ZU m hm a b hl X Z hX n M (S++[y]) Y (i+1) (by omega) (by omega) hm2 (by simp;omega) (by omega) (fun z hz=>by
   rcases List.mem_append.1 hz with hz|hz;·exact hS z hz
   ·rw[List.mem_singleton]at hz;subst hz;exact hY z (by simp)) (fun z hz=>hY z (by simp[hz]))
  simp only[yL,dlt,hib,decide_true,cond_true,List.cons_append];rw[show Nat.succ m=m+1 from rfl,hin,bX (by omega),iT h];simp only[List.append_assoc,List.singleton_append]at ih ⊢
  exact ih
theorem aeW(m:Nat)(hm:m0<=m)(X Y Z:List Dt)(a b:Nat)(ha:X.length=a)(hb:a+Y.length=b)(hm2:b<=m)(hl:b<4611686018427387904)(hY:∀y∈Y,P y):
  i26 (m+1) (a:Int) (b:Int) (X++(Y++Z))=some (X++(bL (ltc c) Y++Z)):=by
 simp only[i26,bX (show a<9223372036854775807 by omega)];cases Y with
 |nil=>
  have:¬a+1<b:=by simp at hb;omega
  simp only[yL,dlt,this,decide_false,cond_false,bL]
 |cons y Y=>
  have:=ZU hc hC m hm a b hl X Z ha Y.length (m+1) [y] Y (a+1) rfl (by simp at hb;omega) hm2 rfl (by simp at hb;omega) (fun z hz=>by rw[List.mem_singleton]at hz;subst hz;exact hY z (by simp)) (fun z hz=>hY z (by simp[hz]));simp only[bL,ins,List.singleton_append]at this;exact this
end
theorem aoz{n:Int}(h0:0<=n)(h1:n<9223372036854775807):wrap IntKind.u64 n=n:=by unfold wrap;simp only[IntKind.bits,IntKind.signed,Bool.false_and,Bool.false_eq_true,if_false];omega
theorem half{i j:Nat}(h:i+j<4611686018427387904):wrap IntKind.i64 (shrI IntKind.u64 (wrap IntKind.u64 (wrap IntKind.i64 ((i:Int)+(j:Int)))) 1)=(((i+j)/2:Nat):Int):=by
 have e1:wrap IntKind.i64 ((i:Int)+(j:Int))=((i+j:Nat):Int):=wrN (by omega) (by omega);have e2:wrap IntKind.u64 ((i+j:Nat):Int)=((i+j:Nat):Int):=aoz (by omega) (by omega);have e3:shrI IntKind.u64 ((i+j:Nat):Int) 1=(((i+j)/2:Nat):Int):=by show Int.fdiv ((i+j:Nat):Int) 2=_;rw[Int.fdiv_eq_ediv_of_nonneg _ (by omega)];omega
 rw[e1,e2,e3];exact wrN rfl (by omega)
theorem BL{A:Type}(l:List A)(k:Nat)(h:k<l.length):∃p x q,l=p++x::q∧p.length=k:=by
 obtain⟨p,q,rfl,hp⟩:=tC l k (by omega);cases q with
 |nil=>simp at h;omega
 |cons x q=>exact⟨p,x,q,rfl,hp⟩
section
theorem ZV(m:Nat)(self:Int->Int->Int->List Dt->Option (List Dt)):∀(S:List Dt)(M:Nat)(X:List Dt)(x:Dt)(Z:List Dt)(k i:Nat),X.length=k->k+S.length+1=i->S.length<M->i<4611686018427387904->
   CX m self M (i:Int) (k:Int) (X++x::(S++Z))=some (X++(S++x::Z))
 |_,0,_,_,_,_,_,_,_,h,_=>by omega
 | [],M+1,X,x,Z,k,i,hX,hi,hM,hl=>by
   have e:wrap IntKind.i64 ((i:Int)-1)=((i-1:Nat):Int):=wrN (by simp at hi;omega) (by omega);have:¬k<i-1:=by simp at hi;omega
   simp only[CX,e,dlt,this,decide_false,cond_false,List.nil_append]
 | y::S,M+1,X,x,Z,k,i,hX,hi,hM,hl=>by
   simp only[List.length_cons]at hi hM;have e:wrap IntKind.i64 ((i:Int)-1)=((i-1:Nat):Int):=wrN (by omega) (by omega);have hk:k<i-1:=by omega
   have lX:(X++[x]).length=k+1:=by simp;omega
   have lX2:(X++[y]).length=k+1:=by simp;omega
   have d1:X++x::(y::S++Z)=(X++[x])++y::(S++Z):=by simp
   have d2:X++y::(y::S++Z)=(X++[y])++y::(S++Z):=by simp
   have gy:(X++x::(y::S++Z))[k+1]? =some y:=by rw[d1,←lX];exact g1 _ _ _
   have iy:inL (X++x::(y::S++Z)) ((k+1:Nat):Int)=some ():=by rw[d1,←lX];exact i1 _ _ _
   have gx:(X++x::(y::S++Z))[k]? =some x:=by rw[←hX];exact g1 _ _ _
   have ix:inL (X++x::(y::S++Z)) (k:Int)=some ():=by rw[←hX];exact i1 _ _ _
   have sx:(X++x::(y::S++Z)).set k y=X++y::(y::S++Z):=by rw[←hX];exact s1 _ _ _ _
   have gy2:(X++y::(y::S++Z))[k+1]? =some y:=by rw[d2,←lX2];exact g1 _ _ _
   have iy2:inL (X++y::(y::S++Z)) ((k+1:Nat):Int)=some ():=by rw[d2,←lX2];exact i1 _ _ _
   have sy:(X++y::(y::S++Z)).set (k+1) x=(X++[y])++x::(S++Z):=by rw[d2,←lX2,s1]
   have ih:=ZV m self S M (X++[y]) x Z (k+1) i lX2 (by omega) (by omega) hl;simp only[CX,e,dlt,hk,decide_true,cond_true,bX (show k<9223372036854775807 by omega),gy,iy,gx,ix,sx,gy2,iy2,sy,ah,Int.toNat_natCast,ih];simp
theorem PU(m:Nat)(self:Int->Int->Int->List Dt->Option (List Dt)):∀(n M:Nat)(X S:List Dt)(y:Dt)(Z:List Dt)(i k:Nat),S.length=n->X.length=i->i+S.length=k->n<M->k<4611686018427387904->
  yM m self M (i:Int) (k:Int) (X++(S++y::Z))=some (X++y::(S++Z))
 |_,0,_,_,_,_,_,_,_,_,_,h,_=>by omega
 |0,M+1,X,S,y,Z,i,k,hn,hX,hk,hM,hl=>by
  obtain rfl:S=[]:=List.length_eq_zero_iff.1 hn;have:¬i<k:=by simp at hk;omega
  simp only[yM,dlt,this,decide_false,cond_false,List.nil_append]
 |n+1,M+1,X,S,y,Z,i,k,hn,hX,hk,hM,hl=>by
  have hne:S≠[]:=by rintro rfl;simp at hn
  obtain⟨S',x,rfl⟩:∃S' x,S=S'++[x]:=⟨S.dropLast,S.getLast hne,(List.dropLast_concat_getLast hne).symm⟩;simp only[aD,List.length_cons,List.length_nil]at hn hk;have hik:i<k:=by omega
  have ek:wrap IntKind.i64 ((k:Int)-1)=((k-1:Nat):Int):=wrN (by omega) (by omega);have d0:X++(S'++[x]++y::Z)=(X++S')++x::(y::Z):=by simp
  have d1:(X++S')++x::(y::Z)=(X++(S'++[x]))++y::Z:=by simp
  have lk0:(X++S').length=k-1:=by simp;omega
  have lk1:(X++(S'++[x])).length=k:=by simp;omega
  have gy:((X++S')++x::(y::Z))[k]? =some y:=by rw[d1,←lk1];exact g1 _ _ _
  have iy:inL ((X++S')++x::(y::Z)) (k:Int)=some ():=by rw[d1,←lk1];exact i1 _ _ _
  have gx:((X++S')++x::(y::Z))[k-1]? =some x:=by rw[←lk0];exact g1 _ _ _
  have ix:inL ((X++S')++x::(y::Z)) ((k-1:Nat):Int)=some ():=by rw[←lk0];exact i1 _ _ _
  have sk:((X++S')++x::(y::Z)).set k x=(X++S')++x::(x::Z):=by rw[d1,←lk1,s1];simp
  have gx2:((X++S')++x::(x::Z))[k-1]? =some x:=by rw[←lk0];exact g1 _ _ _
  have ix2:inL ((X++S')++x::(x::Z)) ((k-1:Nat):Int)=some ():=by rw[←lk0];exact i1 _ _ _
  have sk2:((X++S')++x::(x::Z)).set (k-1) y=X++(S'++y::(x::Z)):=by rw[←lk0,s1];simp
  have ih:=PU m self n M X S' y (x::Z) i (k-1) (by omega) hX (by omega) (by omega) (by omega);rw[d0];simp only[yM,dlt,hik,decide_true,cond_true,ek,gy,iy,gx,ix,sk,gx2,ix2,sk2,ah,Int.toNat_natCast,ih];simp
end
section
variable{c:Dt->Dt->Int}(hc:TPO c){P:Dt->Prop}{m0:Nat}(hC:∀m,m0<=m->∀x y,P x->P y->dB m x y=some (c x y))
include hc hC
theorem ajq(m:Nat)(hm:m0<=m)(self:Int->Int->Int->List Dt->Option (List Dt))(X Z:List Dt)(x:Dt)(a:Nat)(hX:X.length=a)(hx:P x):∀(n M:Nat)(R1 T R2:List Dt)(i j:Nat),T.length=n->n<M->a+1+R1.length=i->i+T.length=j->j<1152921504606846976->
  (∀y∈R1,ltc c y x=true)->(∀y∈R2,ltc c y x=false)->Asc (ltc c) T->(∀y∈T,P y)->
  ∃Ra Rb,R1++(T++R2)=Ra++Rb∧(∀y∈Ra,ltc c y x=true)∧(∀y∈Rb,ltc c y x=false)∧zT m self M (a:Int) (i:Int) (j:Int) (X++x::(R1++(T++R2)++Z))=QZ m self (a:Int) ((a+1+Ra.length:Nat):Int) (X++x::(R1++(T++R2)++Z)):=by
 have h:=swo hc;intro n;induction n using Nat.strongRecOn with
 |_ n   ihn=>
  intro M R1 T R2 i j hn hM hi hj hl h1 h2 hA hP;obtain⟨M,rfl⟩:∃k,M=k+1:=⟨M-1,by omega⟩;by_cases h0:n=0
  · subst h0;obtain rfl:T=[]:=List.length_eq_zero_iff.1 hn;have:¬i<j:=by simp at hj;omega
    refine⟨R1,R2,by simp,h1,h2,?_⟩;simp only[zT,dlt,this,decide_false,cond_false,hi]
  · have hij:i<j:=by omega
    obtain⟨T1,t,T2,rfl,hT1⟩:=BL T (n/2) (by omega);simp only[aD,List.length_cons]at hn hj;have eh:=half (i:=i) (j:=j) (by omega);have ehh:(i+j)/2=i+n/2:=by omega
    rw[ehh]at eh;have d1:X++x::(R1++(T1++t::T2++R2)++Z)=(X++x::(R1++T1))++t::(T2++(R2++Z)):=by simp
    have ll:(X++x::(R1++T1)).length=i+n/2:=by simp;omega
    have gt:(X++x::(R1++(T1++t::T2++R2)++Z))[i+n/2]? =some t:=by rw[d1,←ll];exact g1 _ _ _
    have it:inL (X++x::(R1++(T1++t::T2++R2)++Z)) ((i+n/2:Nat):Int)=some ():=by rw[d1,←ll];exact i1 _ _ _
    have gx:(X++x::(R1++(T1++t::T2++R2)++Z))[a]? =some x:=by rw[←hX];exact g1 _ _ _
    have ix:inL (X++x::(R1++(T1++t::T2++R2)++Z)) (a:Int)=some ():=by rw[←hX];exact i1 _ _ _
    obtain⟨hA1,hA2,hA3⟩:=gG hA;have hw:wrap IntKind.i64 (((i+n/2:Nat):Int)+1)=((i+n/2+1:Nat):Int):=bX (by omega);simp only[zT,dlt,hij,decide_true,cond_true,eh,gt,it,gx,ix,ah,Int.toNat_natCast,hC m hm t x (hP t (by simp)) hx];cases hlt:decide (c t x<0)
    ·   have ht:ltc c t x=false:=hlt;obtain⟨Ra,Rb,e1,e2,e3,e4⟩:=ihn (n/2) (by omega) M R1 T1 (t::T2++R2) i (i+n/2) hT1 (by omega) hi (by omega) (by omega) h1 (fun y hy=>by
         rcases List.mem_append.1 hy with hy|hy
         · rcases List.mem_cons.1 hy with rfl|hy;·exact ht
           ·exact h.ntr _ _ _ (hA2.1 y hy) ht
         ·exact h2 y hy) hA1 (fun y hy=>hP y (by simp[hy]))
        refine⟨Ra,Rb,by rw[←e1];simp,e2,e3,?_⟩;simp only[cond_false];have e5:R1++(T1++(t::T2++R2))=R1++(T1++t::T2++R2):=by simp
        rw[e5]at e4;exact e4
    ·   have ht:ltc c t x=true:=hlt;obtain⟨Ra,Rb,e1,e2,e3,e4⟩:=ihn (n-1-n/2) (by omega) M (R1++(T1++[t])) T2 R2 (i+n/2+1) j (by omega) (by omega) (by simp;omega) (by omega) hl (fun y hy=>by
         rcases List.mem_append.1 hy with hy|hy;·exact h1 y hy
         · rcases List.mem_append.1 hy with hy|hy
           ·cases e:ltc c y x with
            |true=>rfl
            |false=>have:=h.ntr _ _ _ (hA3 y hy t (by simp)) e;rw[ht]at this;cases this
           ·rw[List.mem_singleton]at hy;subst hy;exact ht) h2 hA2.2 (fun y hy=>hP y (by simp[hy]))
        refine⟨Ra,Rb,by rw[←e1];simp,e2,e3,?_⟩;simp only[cond_true,hw];have e5:R1++(T1++[t])++(T2++R2)=R1++(T1++t::T2++R2):=by simp
        rw[e5]at e4;exact e4
theorem acH(m:Nat)(hm:m0<=m)(self:Int->Int->Int->List Dt->Option (List Dt))(X Z:List Dt)(y:Dt)(a k:Nat)(hX:X.length=a)(hy:P y):∀(n M:Nat)(L1 T L2:List Dt)(i j:Nat),T.length=n->n<M->a+L1.length=i->i+T.length=j->j+L2.length=k->k<1152921504606846976->
  (∀x∈L1,ltc c y x=false)->(∀x∈L2,ltc c y x=true)->Asc (ltc c) T->(∀x∈T,P x)->
  ∃La Lb,L1++(T++L2)=La++Lb∧(∀x∈La,ltc c y x=false)∧(∀x∈Lb,ltc c y x=true)∧vT m self M (k:Int) (i:Int) (j:Int) (X++(L1++(T++L2)++y::Z))=JW m self (k:Int) ((a+La.length:Nat):Int) (X++(L1++(T++L2)++y::Z)):=by
 have h:=swo hc;intro n;induction n using Nat.strongRecOn with
 |_ n   ihn=>
  intro M L1 T L2 i j hn hM hi hj hk hl h1 h2 hA hP;obtain⟨M,rfl⟩:∃k,M=k+1:=⟨M-1,by omega⟩;by_cases h0:n=0
  · subst h0;obtain rfl:T=[]:=List.length_eq_zero_iff.1 hn;have:¬i<j:=by simp at hj;omega
    refine⟨L1,L2,by simp,h1,h2,?_⟩;simp only[vT,dlt,this,decide_false,cond_false,hi]
  · have hij:i<j:=by omega
    obtain⟨T1,t,T2,rfl,hT1⟩:=BL T (n/2) (by omega);simp only[aD,List.length_cons]at hn hj;have eh:=half (i:=i) (j:=j) (by omega);have ehh:(i+j)/2=i+n/2:=by omega
    rw[ehh]at eh;have d1:X++(L1++(T1++t::T2++L2)++y::Z)=(X++(L1++T1))++t::(T2++(L2++y::Z)):=by simp
    have d2:X++(L1++(T1++t::T2++L2)++y::Z)=(X++(L1++(T1++t::T2++L2)))++y::Z:=by simp
    have ll:(X++(L1++T1)).length=i+n/2:=by simp;omega
    have ly:(X++(L1++(T1++t::T2++L2))).length=k:=by simp;omega
    have gt:(X++(L1++(T1++t::T2++L2)++y::Z))[i+n/2]? =some t:=by rw[d1,←ll];exact g1 _ _ _
    have it:inL (X++(L1++(T1++t::T2++L2)++y::Z)) ((i+n/2:Nat):Int)=some ():=by rw[d1,←ll];exact i1 _ _ _
    have gy:(X++(L1++(T1++t::T2++L2)++y::Z))[k]? =some y:=by rw[d2,←ly];exact g1 _ _ _
    have iy:inL (X++(L1++(T1++t::T2++L2)++y::Z)) (k:Int)=some ():=by rw[d2,←ly];exact i1 _ _ _
    obtain⟨hA1,hA2,hA3⟩:=gG hA;have hw:wrap IntKind.i64 (((i+n/2:Nat):Int)+1)=((i+n/2+1:Nat):Int):=bX (by omega);simp only[vT,dlt,hij,decide_true,cond_true,eh,gt,it,gy,iy,ah,Int.toNat_natCast,hC m hm y t hy (hP t (by simp))];cases hlt:decide (c y t<0)
    ·   have ht:ltc c y t=false:=hlt;obtain⟨La,Lb,e1,e2,e3,e4⟩:=ihn (n-1-n/2) (by omega) M (L1++(T1++[t])) T2 L2 (i+n/2+1) j (by omega) (by omega) (by simp;omega) (by omega) hk hl (fun x hx=>by
         rcases List.mem_append.1 hx with hx|hx;·exact h1 x hx
         · rcases List.mem_append.1 hx with hx|hx;·exact h.ntr _ _ _ ht (hA3 x hx t (by simp))
           ·rw[List.mem_singleton]at hx;subst hx;exact ht) h2 hA2.2 (fun x hx=>hP x (by simp[hx]))
        refine⟨La,Lb,by rw[←e1];simp,e2,e3,?_⟩;simp only[Bool.not_false,cond_true,hw];have e5:L1++(T1++[t])++(T2++L2)=L1++(T1++t::T2++L2):=by simp
        rw[e5]at e4;exact e4
    ·   have ht:ltc c y t=true:=hlt;obtain⟨La,Lb,e1,e2,e3,e4⟩:=ihn (n/2) (by omega) M L1 T1 (t::T2++L2) i (i+n/2) hT1 (by omega) hi (by omega) (by simp;omega) hl h1 (fun x hx=>by
         rcases List.mem_append.1 hx with hx|hx
         · rcases List.mem_cons.1 hx with rfl|hx;·exact ht
           ·cases e:ltc c y x with
            |true=>rfl
            |false=>have:=h.ntr _ _ _ e (hA2.1 x hx);rw[ht]at this;cases this
         ·exact h2 x hx) hA1 (fun x hx=>hP x (by simp[hx]))
        refine⟨La,Lb,by rw[←e1];simp,e2,e3,?_⟩;simp only[Bool.not_true,cond_false];have e5:L1++(T1++(t::T2++L2))=L1++(T1++t::T2++L2):=by simp
        rw[e5]at e4;exact e4
set_option maxHeartbeats 4000000 in
theorem Vq(m:Nat)(hm:m0<=m)(self:Int->Int->Int->List Dt->Option (List Dt))(X Z:List Dt)(a k b mid n:Nat)(hX:X.length=a):∀(q M:Nat)(L1 T L2 R1 U R2:List Dt)(s r p:Nat),T.length=q->U.length=q->q<M->a+L1.length=s->s+T.length=r->r+L2.length=k->p+1=s+k+R1.length+U.length->k+R1.length+U.length<1152921504606846976->
  (∀x∈L1,∀y∈R2,ltc c y x=false)->(∀x∈L2,∀y∈R1,ltc c y x=true)->Asc (ltc c) (L1++(T++L2))->Asc (ltc c) (R1++(U++R2))->(∀x∈T,P x)->(∀y∈U,P y)->
  ∃ La Lb Ra Rb,L1++(T++L2)=La++Lb∧R1++(U++R2)=Ra++Rb∧(∀x∈La,∀y∈Rb,ltc c y x=false)∧(∀x∈Lb,∀y∈Ra,ltc c y x=true)∧p+1=a+La.length+k+Ra.length∧
    vU m self M (a:Int) (k:Int) (b:Int) (mid:Int) (n:Int) (s:Int) (r:Int) (p:Int) (X++(L1++(T++L2)++(R1++(U++R2)++Z)))=
    Er m self (a:Int) (k:Int) (b:Int) (mid:Int) (n:Int) ((a+La.length:Nat):Int) (X++(L1++(T++L2)++(R1++(U++R2)++Z))):=by
 have h:=swo hc;intro q;induction q using Nat.strongRecOn with
 |_ q   ihq=>
  intro M L1 T L2 R1 U R2 s r p hT hU hM hs hr hk hp hl h1 h2 hA hB hPT hPU;obtain⟨M,rfl⟩:∃k,M=k+1:=⟨M-1,by omega⟩;by_cases h0:q=0
  · subst h0;obtain rfl:T=[]:=List.length_eq_zero_iff.1 hT;obtain rfl:U=[]:=List.length_eq_zero_iff.1 hU;have:¬s<r:=by simp at hr;omega
    refine⟨L1,L2,R1,R2,by simp,by simp,h1,h2,by simp at hp;omega,?_⟩;simp only[vU,dlt,this,decide_false,cond_false,hs]
  · have hsr:s<r:=by omega
    obtain⟨T1,t,T2,rfl,hT1⟩:=BL T (q/2) (by omega);obtain⟨U1,u,U2,rfl,hU1⟩:=BL U (q-1-q/2) (by omega);simp only[aD,List.length_cons]at hT hU hr hp hl;have eh:=half (i:=s) (j:=r) (by omega);have ehh:(s+r)/2=s+q/2:=by omega
    rw[ehh]at eh;obtain⟨D,hD⟩:∃D,D=X++(L1++(T1++t::T2++L2)++(R1++(U1++u::U2++R2)++Z)):=⟨_,rfl⟩;have d1:D=(X++(L1++T1))++t::(T2++(L2++(R1++(U1++u::U2++R2)++Z))):=by rw[hD];simp
    have d2:D=(X++(L1++(T1++t::T2++L2)++(R1++U1)))++u::(U2++(R2++Z)):=by rw[hD];simp
    have ll:(X++(L1++T1)).length=s+q/2:=by simp;omega
    have lu:(X++(L1++(T1++t::T2++L2)++(R1++U1))).length=k+R1.length+U1.length:=by simp;omega
    have gt:D[s+q/2]? =some t:=by rw[d1,←ll];exact g1 _ _ _
    have it:inL D ((s+q/2:Nat):Int)=some ():=by rw[d1,←ll];exact i1 _ _ _
    have gu:D[k+R1.length+U1.length]? =some u:=by rw[d2,←lu];exact g1 _ _ _
    have iu:inL D ((k+R1.length+U1.length:Nat):Int)=some ():=by rw[d2,←lu];exact i1 _ _ _
    have ep:wrap IntKind.i64 ((p:Int)-((s+q/2:Nat):Int))=((k+R1.length+U1.length:Nat):Int):=wrN (by omega) (by omega);have hw:wrap IntKind.i64 (((s+q/2:Nat):Int)+1)=((s+q/2+1:Nat):Int):=bX (by omega);have a1:L1++(T1++t::T2++L2)=(L1++T1)++t::(T2++L2):=by simp
    have b1:R1++(U1++u::U2++R2)=(R1++U1)++u::(U2++R2):=by simp
    have hA':=hA;have hB':=hB;rw[a1]at hA';rw[b1]at hB';obtain⟨_,hA2,hA3⟩:=gG hA';obtain⟨_,hB2,hB3⟩:=gG hB';rw[←hD];simp only[vU,dlt,hsr,decide_true,cond_true,eh,ep,gt,it,gu,iu,ah,Int.toNat_natCast,hC m hm u t (hPU u (by simp)) (hPT t (by simp))];cases hlt:decide (c u t<0)
    ·   have ht:ltc c u t=false:=hlt;obtain⟨La,Lb,Ra,Rb,e1,e2,e3,e4,e5,e6⟩:=ihq (q-1-q/2) (by omega) M (L1++(T1++[t])) T2 L2 R1 U1 (u::U2++R2) (s+q/2+1) r p (by omega) hU1 (by omega) (by simp;omega) (by omega) hk (by omega) (by omega) (fun x hx y hy=>by
         have hx':ltc c t x=false:=by
           rcases List.mem_append.1 hx with hx|hx;·exact hA3 x (by simp[hx]) t (by simp)
           ·rcases List.mem_append.1 hx with hx|hx;·exact hA3 x (by simp[hx]) t (by simp)
            ·rw[List.mem_singleton]at hx;subst hx;exact h.irr _
         have hy':ltc c y u=false:=by
           rcases List.mem_append.1 hy with hy|hy
           ·rcases List.mem_cons.1 hy with rfl|hy;·exact h.irr _
            ·exact hB2.1 y (by simp[hy])
           ·exact hB2.1 y (by simp[hy])
         exact h.ntr _ _ _ hy' (h.ntr _ _ _ ht hx')) h2 (by simpa using hA) (by simpa using hB) (fun x hx=>hPT x (by simp[hx])) (fun y hy=>hPU y (by simp[hy]))
        refine⟨La,Lb,Ra,Rb,by rw[←e1];simp,by rw[←e2];simp,e3,e4,e5,?_⟩;simp only[Bool.not_false,cond_true,hw];have e7:X++(L1++(T1++[t])++(T2++L2)++(R1++(U1++(u::U2++R2))++Z))=D:=by rw[hD];simp
        rw[e7]at e6;exact e6
    ·   have ht:ltc c u t=true:=hlt;obtain⟨La,Lb,Ra,Rb,e1,e2,e3,e4,e5,e6⟩:=ihq (q/2) (by omega) M L1 T1 (t::T2++L2) (R1++(U1++[u])) U2 R2 s (s+q/2) p hT1 (by omega) (by omega) hs (by omega) (by simp;omega) (by simp;omega) (by simp;omega) h1 (fun x hx y hy=>by
         have hx':ltc c x t=false:=by
           rcases List.mem_append.1 hx with hx|hx
           ·rcases List.mem_cons.1 hx with rfl|hx;·exact h.irr _
            ·exact hA2.1 x (by simp[hx])
           ·exact hA2.1 x (by simp[hx])
         have hy':ltc c u y=false:=by
           rcases List.mem_append.1 hy with hy|hy;·exact hB3 y (by simp[hy]) u (by simp)
           ·rcases List.mem_append.1 hy with hy|hy;·exact hB3 y (by simp[hy]) u (by simp)
            ·rw[List.mem_singleton]at hy;subst hy;exact h.irr _
         cases e:ltc c y x with
         |true=>rfl
         |false=>have:=h.ntr _ _ _ (h.ntr _ _ _ hy' e) hx';rw[ht]at this;cases this) (by simpa using hA) (by simpa using hB) (fun x hx=>hPT x (by simp[hx])) (fun y hy=>hPU y (by simp[hy]))
        refine⟨La,Lb,Ra,Rb,by rw[←e1];simp,by rw[←e2];simp,e3,e4,e5,?_⟩;simp only[Bool.not_true,cond_false];have e7:X++(L1++(T1++(t::T2++L2))++(R1++(U1++[u])++(U2++R2)++Z))=D:=by rw[hD];simp
        have e8:X++(L1++(T1++(t::T2++L2))++(R1++(U1++[u])++(U2++R2)++Z))=X++(L1++(T1++(t::T2++L2))++((R1++(U1++[u]))++(U2++R2)++Z)):=by simp
        rw[e7]at e6;exact e6
end
section
variable{c:Dt->Dt->Int}(hc:TPO c){P:Dt->Prop}
include hc
theorem ajr(m:Nat)(B:Nat)(hB:B<288230376151711744)(hmB:B+3<=m)(X La Lb Ra Rb Z:List Dt)(a k b mid n:Nat)(ha:X.length=a)(hk:a+(La.length+Lb.length)=k)(hb:k+(Ra.length+Rb.length)=b)(hbB:b<=B)(hmid:mid=a+La.length+Ra.length)(hn:n=mid+k)
  (hA:Asc (ltc c) (La++Lb))(hR:Asc (ltc c) (Ra++Rb))(h1:∀x∈La,∀y∈Rb,ltc c y x=false)(h2:∀x∈Lb,∀y∈Ra,ltc c y x=true)(hP:∀x∈La++Lb,P x)(hQ:∀x∈Ra++Rb,P x)
  (self:Int->Int->Int->List Dt->Option (List Dt))
  (hs:∀(X L R Z:List Dt)(a' k' b':Nat),X.length=a'->a'+L.length=k'->k'+R.length=b'->0<L.length->0<R.length->b'<=b->L.length+R.length<b-a->Asc (ltc c) L->Asc (ltc c) R->(∀x∈L,P x)->(∀x∈R,P x)->self (a':Int) (k':Int) (b':Int) (X++(L++(R++Z)))=some (X++(bL (ltc c) (L++R)++Z)))
  (hlt:0<La.length+Ra.length)(hlt2:0<Lb.length+Rb.length):
  Er m self (a:Int) (k:Int) (b:Int) (mid:Int) (n:Int) ((a+La.length:Nat):Int) (X++(La++Lb++(Ra++Rb++Z)))=some (X++(bL (ltc c) (La++Lb++(Ra++Rb))++Z)):=by
 have h:=swo hc;have een:wrap IntKind.i64 ((n:Int)-((a+La.length:Nat):Int))=((k+Ra.length:Nat):Int):=wrN (by omega) (by omega);obtain⟨aL,aLb,aX⟩:=gG hA;obtain⟨aR,aRb,aY⟩:=gG hR;have hfin:bL (ltc c) (La++Lb++(Ra++Rb))=bL (ltc c) (La++Ra)++bL (ltc c) (Lb++Rb):=by
  have e1:=BP h Lb Ra La Rb h2;have e2:=Jl h (X:=La++Ra) (Y:=Lb++Rb) (fun x hx y hy=>by
   rcases List.mem_append.1 hx with hx|hx<;>rcases List.mem_append.1 hy with hy|hy;·exact aX x hx y hy
   ·exact h1 x hx y hy
   ·exact h.asy (h2 y hy x hx)
   ·exact aY x hx y hy)
  rw[←e2,List.append_assoc,List.append_assoc];rw[e1]
 have s2:∀X':List Dt,X'.length=mid->Br m self (b:Int) (mid:Int) ((k+Ra.length:Nat):Int) (X'++(Lb++(Rb++Z)))=some (X'++(bL (ltc c) (Lb++Rb)++Z)):=by
  intro X' hX';simp only[Br,JX,dlt];by_cases e1:mid<k+Ra.length
  ·by_cases e2:k+Ra.length<b;·simp only[e1,e2,decide_true,cond_true,hs X' Lb Rb Z mid (k+Ra.length) b hX' (by omega) (by omega) (by omega) (by omega) (aj _) (by omega) aLb aRb (fun x hx=>hP x (by simp[hx])) (fun x hx=>hQ x (by simp[hx])),ah]
   ·    have:Rb=[]:=List.length_eq_zero_iff.1 (by omega);subst this;simp only[e1,e2,decide_true,decide_false,cond_true,cond_false,List.append_nil,List.nil_append,mG aLb]
  ·have:Lb=[]:=List.length_eq_zero_iff.1 (by omega);subst this;simp only[e1,decide_false,cond_false,List.nil_append,mG aRb]
 have s1:Ep m self (a:Int) (b:Int) (mid:Int) ((a+La.length:Nat):Int) ((k+Ra.length:Nat):Int) (X++(La++(Ra++(Lb++(Rb++Z)))))=some (X++(bL (ltc c) (La++Lb++(Ra++Rb))++Z)):=by
  have fin:Br m self (b:Int) (mid:Int) ((k+Ra.length:Nat):Int) (X++(bL (ltc c) (La++Ra)++(Lb++(Rb++Z))))=some (X++(bL (ltc c) (La++Lb++(Ra++Rb))++Z)):=by have:=s2 (X++bL (ltc c) (La++Ra)) (by rw[aD,isort_len,aD];omega);rw[hfin];simpa using this
  simp only[Ep,JY,dlt];by_cases e1:a<a+La.length
  ·by_cases e2:a+La.length<mid;·simp only[e1,e2,decide_true,cond_true,hs X La Ra (Lb++(Rb++Z)) a (a+La.length) mid ha rfl (by omega) (by omega) (by omega) (by omega) (by omega) aL aR (fun x hx=>hP x (by simp[hx])) (fun x hx=>hQ x (by simp[hx])),ah,fin]
   ·    have:Ra=[]:=List.length_eq_zero_iff.1 (by omega);subst this;simp only[e1,e2,decide_true,decide_false,cond_true,cond_false];simp only[List.append_nil,List.nil_append,mG aL]at fin ⊢
        exact fin
  ·have:La=[]:=List.length_eq_zero_iff.1 (by omega);subst this;simp only[e1,decide_false,cond_false];simp only[List.nil_append,mG aR]at fin ⊢
   exact fin
 simp only[Er,JZ,een,dlt];obtain⟨m,rfl⟩:∃q,m=q+2:=⟨m-2,by omega⟩;by_cases e1:a+La.length<k
 ·by_cases e2:k<k+Ra.length
  ·have hr:=amc m (X++La) Lb Ra (Rb++Z) (a+La.length) k (k+Ra.length) (by simp;omega) (by omega) rfl (by omega) (by omega) (by omega) (by omega);have hr':i29 (m+2) ((a+La.length:Nat):Int) (k:Int) ((k+Ra.length:Nat):Int) (X++(La++Lb++(Ra++Rb++Z)))=some (X++(La++(Ra++(Lb++(Rb++Z))))):=by simpa using hr
   simp only[e1,e2,decide_true,cond_true,hr',ah,s1]
  ·have:Ra=[]:=List.length_eq_zero_iff.1 (by omega);subst this;simp only[e1,e2,decide_true,decide_false,cond_true,cond_false];simp only[List.nil_append,List.append_assoc]at s1 ⊢
   exact s1
 ·have:Lb=[]:=List.length_eq_zero_iff.1 (by omega);subst this;simp only[e1,decide_false,cond_false];simp only[List.nil_append,List.append_nil,List.append_assoc]at s1 ⊢
  exact s1
end
section
variable{c:Dt->Dt->Int}(hc:TPO c){P:Dt->Prop}{m0:Nat}(hC:∀m,m0<=m->∀x y,P x->P y->dB m x y=some (c x y))
include hc hC
theorem X9(B:Nat)(hB:B<288230376151711744)(hB0:m0<=B):∀(N m:Nat)(X L R Z:List Dt)(a k b:Nat),L.length+R.length<=N->N+B+4<=m->X.length=a->a+L.length=k->k+R.length=b->0<L.length->0<R.length->b<=B->Asc (ltc c) L->Asc (ltc c) R->(∀x∈L,P x)->(∀x∈R,P x)->
  i28 m (a:Int) (k:Int) (b:Int) (X++(L++(R++Z)))=some (X++(bL (ltc c) (L++R)++Z))
 |0,_,_,L,R,_,_,_,_,h,_,_,_,_,hL,_,_,_,_,_,_=>by omega
 |N+    1,m,X,L,R,Z,a,k,b,hN,hm,ha,hk,hb,hL,hR,hbB,hA,hRa,hP,hQ=>by
  have h:=swo hc;obtain⟨m,rfl⟩:∃q,m=q+1:=⟨m-1,by omega⟩;have eka:wrap IntKind.i64 ((k:Int)-(a:Int))=((L.length:Nat):Int):=wrN (by omega) (by omega);have ebk:wrap IntKind.i64 ((b:Int)-(k:Int))=((R.length:Nat):Int):=wrN (by omega) (by omega);show (bif (wrap IntKind.i64 ((k:Int)-(a:Int))==1)then W9 m (i28 m) (a:Int) (k:Int) (b:Int) (X++(L++(R++Z)))else Xa m (i28 m) (a:Int) (k:Int) (b:Int) (X++(L++(R++Z))))=_;rw[eka];by_cases h1:L.length=1
  ·obtain⟨x,rfl⟩:=List.length_eq_one_iff.1 h1;have e:((([x].length:Nat):Int)==1)=true:=rfl;rw[e];simp only[cond_true,W9];simp only[List.length_cons,List.length_nil]at hk;obtain⟨Ra,Rb,q1,q2,q3,q4⟩:=ajq hc hC m (by omega) (i28 m) X Z x a ha (hP x (by simp)) R.length (m+1) [] R [] k b rfl (by omega) (by simp;omega) hb (by omega) (by simp) (by simp) hRa hQ;simp only[List.nil_append,List.append_nil]at q1 q4;subst q1;have q4':zT m (i28 m) (Nat.succ m) (a:Int) (k:Int) (b:Int) (X++([x]++(Ra++Rb++Z)))=QZ m (i28 m) (a:Int) ((a+1+Ra.length:Nat):Int) (X++x::(Ra++Rb++Z)):=q4;rw[q4'];simp only[QZ];have hu:=ZV m (i28 m) Ra (m+1) X x (Rb++Z) a (a+1+Ra.length) ha (by omega) (by simp at hN hb;omega) (by simp at hb;omega);have hu':CX m (i28 m) (Nat.succ m) ((a+1+Ra.length:Nat):Int) (a:Int) (X++x::(Ra++Rb++Z))=some (X++(Ra++x::(Rb++Z))):=by simpa using hu
   rw[hu'];have hasc:Asc (ltc c) (Ra++x::Rb):=by
        obtain⟨r1,r2,r3⟩:=gG hRa;refine rW r1 ⟨q3,r2⟩ fun y hy z hz=>?_;rcases List.mem_cons.1 hz with rfl|hz;·exact h.asy (q2 y hy)
        ·exact r3 y hy z hz
   have hj:=El h x Ra [] Rb q2;simp only[List.nil_append]at hj;have:bL (ltc c) ([x]++(Ra++Rb))=Ra++x::Rb:=by
        have e2:[x]++(Ra++Rb)=x::Ra++Rb:=by simp
        rw[e2,hj,mG hasc]
   rw[this];simp
  ·have e:(((L.length:Nat):Int)==1)=false:=by rw[beq_eq_false_iff_ne];omega
   rw[e];simp only[cond_false,Xa,ebk];by_cases h2:R.length=1
   ·    obtain⟨y,rfl⟩:=List.length_eq_one_iff.1 h2;have e:((([y].length:Nat):Int)==1)=true:=rfl;rw[e];simp only[cond_true];simp only[List.length_cons,List.length_nil]at hb;obtain⟨La,Lb,q1,q2,q3,q4⟩:=acH hc hC m (by omega) (i28 m) X Z y a k ha (hQ y (by simp)) L.length (m+1) [] L [] a k rfl (by omega) (by simp) hk (by simp) (by omega) (by simp) (by simp) hA hP;simp only[List.nil_append,List.append_nil]at q1 q4;subst q1;have q4':vT m (i28 m) (Nat.succ m) (k:Int) (a:Int) (k:Int) (X++(La++Lb++([y]++Z)))=JW m (i28 m) (k:Int) ((a+La.length:Nat):Int) (X++(La++Lb++y::Z)):=q4;rw[q4'];rw[aD]at hk hN;simp only[JW];have hd:=PU m (i28 m) Lb.length (m+1) (X++La) Lb y Z (a+La.length) k rfl (by simp;omega) (by omega) (by omega) (by omega);have hd':yM m (i28 m) (Nat.succ m) ((a+La.length:Nat):Int) (k:Int) (X++(La++Lb++y::Z))=some (X++(La++(y::(Lb++Z)))):=by simpa using hd
        rw[hd'];have hasc:Asc (ltc c) (La++y::Lb):=by
         obtain⟨r1,r2,r3⟩:=gG hA;refine rW r1 ⟨fun z hz=>h.asy (q3 z hz),r2⟩ fun z hz w hw=>?_;rcases List.mem_cons.1 hw with rfl|hw;·exact q2 z hz
         ·exact r3 z hz w hw
        have hr:=BP h Lb [y] La [] (fun u hu v hv=>by rw[List.mem_singleton]at hv;subst hv;exact q3 u hu);simp only[List.append_nil,List.singleton_append]at hr;have:bL (ltc c) (La++Lb++[y])=La++y::Lb:=by rw[List.append_assoc,hr,mG hasc]
        rw[this];simp
   ·    have e:(((R.length:Nat):Int)==1)=false:=by rw[beq_eq_false_iff_ne];omega
        rw[e];obtain⟨mid,hmid⟩:∃mid,mid=(a+b)/2:=⟨_,rfl⟩;have emid:=half (i:=a) (j:=b) (by omega);rw[←hmid]at emid;have en:wrap IntKind.i64 ((mid:Int)+(k:Int))=((mid+k:Nat):Int):=wrN (by omega) (by omega);have ep:wrap IntKind.i64 (((mid+k:Nat):Int)-1)=((mid+k-1:Nat):Int):=wrN (by omega) (by omega);simp only[cond_false,emid,en,dlt,ep];have hself:∀(X' L' R' Z':List Dt)(a' k' b':Nat),X'.length=a'->a'+L'.length=k'->k'+R'.length=b'->0<L'.length->0<R'.length->b'<=b->L'.length+R'.length<b-a->Asc (ltc c) L'->Asc (ltc c) R'->(∀x∈L',P x)->(∀x∈R',P x)->i28 m (a':Int) (k':Int) (b':Int) (X'++(L'++(R'++Z')))=some (X'++(bL (ltc c) (L'++R')++Z')):=
         fun X' L' R' Z' a' k' b' g1 g2 g3 g4 g5 g6 g7 g8 g9 g10 g11=>X9 B hB hB0 N m X' L' R' Z' a' k' b' (by omega) (by omega) g1 g2 g3 g4 g5 (by omega) g8 g9 g10 g11
        have done:∀(La Lb Ra Rb:List Dt),L=La++Lb->R=Ra++Rb->(∀x∈La,∀y∈Rb,ltc c y x=false)->(∀x∈Lb,∀y∈Ra,ltc c y x=true)->mid+k-1+1=a+La.length+k+Ra.length->
          Er m (i28 m) (a:Int) (k:Int) (b:Int) (mid:Int) ((mid+k:Nat):Int) ((a+La.length:Nat):Int) (X++(La++Lb++(Ra++Rb++Z)))=some (X++(bL (ltc c) (La++Lb++(Ra++Rb))++Z)):=by
         intro La Lb Ra Rb eL eR g1 g2 g3;subst eL eR;rw[aD]at hk hb hN h1 h2 hL hR;exact ajr hc m B hB (by omega) X La Lb Ra Rb Z a k b mid (mid+k) ha hk hb hbB (by omega) rfl hA hRa g1 g2 hP hQ _ hself (by omega) (by omega)
        by_cases hmk:mid<k
        ·have enb:wrap IntKind.i64 (((mid+k:Nat):Int)-(b:Int))=((mid+k-b:Nat):Int):=wrN (by omega) (by omega);simp only[hmk,decide_true,cond_true,enb];obtain⟨L1,L0,e1,e2⟩:=tC L (mid+k-b-a) (by omega);obtain⟨T,L2,e3,e4⟩:=tC L0 (mid-(mid+k-b)) (by rw[e1,aD]at hk;omega);subst e3;have hLl:L.length=L1.length+(T.length+L2.length):=by rw[e1];simp
         obtain⟨La,Lb,Ra,Rb,q1,q2,q3,q4,q5,q6⟩:=Vq hc hC m (by omega) (i28 m) X Z a k b mid (mid+k) ha T.length (m+1) L1 T L2 [] R [] (mid+k-b) mid (mid+k-1) rfl (by omega) (by omega) (by omega) (by omega) (by omega) (by simp;omega) (by simp;omega) (by simp) (by simp) (by rw[←e1];exact hA) (by simpa using hRa) (fun x hx=>hP x (by rw[e1];simp[hx])) hQ;simp only[List.nil_append,List.append_nil]at q2 q6;rw[←e1]at q1 q6;refine q6.trans ?_;have:=done La Lb Ra Rb q1 q2 q3 q4 q5;rw[←q1,←q2]at this;exact this
        ·simp only[hmk,decide_false,cond_false];obtain⟨R1,R0,e1,e2⟩:=tC R (mid-k) (by omega);obtain⟨U,R2,e3,e4⟩:=tC R0 L.length (by rw[e1,aD]at hb;omega);subst e3;have hRl:R.length=R1.length+(U.length+R2.length):=by rw[e1];simp
         obtain⟨La,Lb,Ra,Rb,q1,q2,q3,q4,q5,q6⟩:=Vq hc hC m (by omega) (i28 m) X Z a k b mid (mid+k) ha L.length (m+1) [] L [] R1 U R2 a k (mid+k-1) rfl e4 (by omega) (by simp) hk (by simp) (by omega) (by omega) (by simp) (by simp) (by simpa using hA) (by rw[←e1];exact hRa) hP (fun x hx=>hQ x (by rw[e1];simp[hx]));simp only[List.nil_append,List.append_nil]at q1 q6;rw[←e1]at q2 q6;refine q6.trans ?_;have:=done La Lb Ra Rb q1 q2 q3 q4 q5;rw[←q1,←q2]at this;exact this
inductive AB (lt:Dt->Dt->Bool) (s:Nat):List Dt->Prop where
 |last {l:List Dt} (h:l.length<=s) (a:Asc lt l):AB lt s l
 |cons {x l:List Dt} (h:x.length=s) (a:Asc lt x) (r:AB lt s l):AB lt s (x++l)
omit hc hC in
theorem AB.asc{lt:Dt->Dt->Bool}{s:Nat}{l:List Dt}(h:AB lt s l)(hs:0<s)(hl:l.length<=s):Asc lt l:=by
 cases h with
 |last _ a=>exact a
 | @cons x l h a r=>
   rw[aD]at hl;have:l=[]:=List.length_eq_zero_iff.1 (by omega);subst this;simpa using a
theorem aoA(m B:Nat)(hB:B<288230376151711744)(hmB:B+4<=m)(hB0:m0+1<=m)(n:Nat)(hnB:n<=B):∀(q M:Nat)(X R:List Dt)(a:Nat),R.length<=q->q<M->X.length=a->a+R.length=n->(∀x∈R,P x)->
  ∃R',AB (ltc c) 20 R'∧R'.length=R.length∧bL (ltc c) R'=bL (ltc c) R∧(∀x∈R',P x)∧F3 m M (n:Int) 20 (a:Int) ((a+20:Nat):Int) (X++R)=Rf m (n:Int) 20 (X++R'):=by
 have h:=swo hc;obtain⟨m,rfl⟩:∃k,m=k+1:=⟨m-1,by omega⟩;intro q;induction q using Nat.strongRecOn with
 |_ q   ih=>
  intro M X R a hR hM ha hn hP;obtain⟨M,rfl⟩:∃k,M=k+1:=⟨M-1,by omega⟩;simp only[F3,dle];by_cases hle:a+20<=n
  · obtain⟨x,R2,rfl,hx⟩:=tC R 20 (by omega);rw[aD]at hn hR;have hi:=aeW hc hC m (by omega) X x R2 a (a+20) ha (by omega) (by omega) (by omega) (fun y hy=>hP y (by simp[hy]));obtain⟨R',g1,g2,g3,g4,g5⟩:=ih (q-20) (by omega) M (X++bL (ltc c) x) R2 (a+20) (by omega) (by omega) (by rw[aD,isort_len];omega) (by omega) (fun y hy=>hP y (by simp[hy]));refine⟨bL (ltc c) x++R',.cons (by rw[isort_len];exact hx) (nR h x) g1,by rw[aD,aD,isort_len,g2],?_,fun y hy=>?_,?_⟩;·exact(Ej h (by have:=iT h x [];simpa using this) g3)
    ·   rcases List.mem_append.1 hy with hy|hy;·exact hP y (by simp[mem_isort.1 hy])
        ·exact g4 y hy
    ·   have ew:wrap IntKind.i64 (((a+20:Nat):Int)+20)=((a+20+20:Nat):Int):=wrN (by omega) (by omega);simp only[hle,decide_true,cond_true,hi,ah,ew];simp only[List.append_assoc]at g5 ⊢
        exact g5
  · have hi:=aeW hc hC m (by omega) X R [] a n ha hn (by omega) (by omega) hP;simp only[List.append_nil]at hi;refine⟨bL (ltc c) R,.last (by rw[isort_len];omega) (nR h R),isort_len R,by have:=iT h R [];simpa using this,fun y hy=>hP y (mem_isort.1 hy),?_⟩;simp only[hle,decide_false,cond_false,hi,ah]
theorem aoB(m B:Nat)(hB:B<288230376151711744)(hmB:2*B+6<=m)(hB0:m0<=B)(n s:Nat)(hnB:n<=B)(hs:0<s)(hsB:s<=B)(rec5:Int->Int->List Dt->Option (List Dt)):∀(q M:Nat)(X R:List Dt)(a:Nat),R.length<=q->q<M->X.length=a->a+R.length=n->AB (ltc c) s R->(∀x∈R,P x)->
  ∃R',AB (ltc c) (2*s) R'∧R'.length=R.length∧bL (ltc c) R'=bL (ltc c) R∧(∀x∈R',P x)∧FY m rec5 M (n:Int) (s:Int) (a:Int) ((a+2*s:Nat):Int) (X++R)=Es m rec5 (n:Int) (s:Int) (X++R'):=by
 have h:=swo hc;intro q;induction q using Nat.strongRecOn with
 |_ q   ih=>
  intro M X R a hR hM ha hn hAB hP;obtain⟨M,rfl⟩:∃k,M=k+1:=⟨M-1,by omega⟩;have eas:wrap IntKind.i64 ((a:Int)+(s:Int))=((a+s:Nat):Int):=wrN (by omega) (by omega);have e2s:wrap IntKind.i64 ((2:Int)*(s:Int))=((2*s:Nat):Int):=wrN (by omega) (by omega);simp only[FY,dle];by_cases hle:a+2*s<=n
  · cases hAB with
    |last hl _=>omega
    |   @cons x R1 hx ax r1=>
        rw[aD]at hn hR;have hy:∃y R2,R1=y++R2∧y.length=s∧Asc (ltc c) y∧AB (ltc c) s R2:=by
         cases r1 with
         |last hl al=>exact⟨R1,[],by simp,by omega,al,.last (by simp) trivial⟩
         | @cons y R2 hy ay r2=>exact⟨y,R2,rfl,hy,ay,r2⟩
        obtain⟨y,R2,rfl,hy,ay,r2⟩:=hy;rw[aD]at hn hR;have hsy:=X9 hc hC B hB hB0 (2*s) m X x y R2 a (a+s) (a+2*s) (by omega) (by omega) ha (by omega) (by omega) (by omega) (by omega) (by omega) ax ay (fun z hz=>hP z (by simp[hz])) (fun z hz=>hP z (by simp[hz]));obtain⟨R',g1,g2,g3,g4,g5⟩:=ih (q-2*s) (by omega) M (X++bL (ltc c) (x++y)) R2 (a+2*s) (by omega) (by omega) (by rw[aD,isort_len,aD];omega) (by omega) r2 (fun z hz=>hP z (by simp[hz]));have exy:bL (ltc c) (bL (ltc c) (x++y))=bL (ltc c) (x++y):=by have:=iT h (x++y) [];simpa using this
        refine⟨bL (ltc c) (x++y)++R',.cons (by rw[isort_len,aD];omega) (nR h _) g1,by simp only[aD,isort_len,g2];omega,?_,fun z hz=>?_,?_⟩
        ·rw[←List.append_assoc];exact Ej h exy g3
        ·rcases List.mem_append.1 hz with hz|hz;·exact hP z (by have:=mem_isort.1 hz;simp only[List.mem_append]at this ⊢;rcases this with q|q<;>simp[q])
         ·exact g4 z hz
        ·have ew:wrap IntKind.i64 (((a+2*s:Nat):Int)+((2*s:Nat):Int))=((a+2*s+2*s:Nat):Int):=wrN (by omega) (by omega);have hsy':i28 m (a:Int) ((a+s:Nat):Int) ((a+2*s:Nat):Int) (X++(x++(y++R2)))=some (X++(bL (ltc c) (x++y)++R2)):=hsy;simp only[hle,decide_true,cond_true,eas,e2s,hsy',ah,ew];simp only[List.append_assoc]at g5 ⊢
         exact g5
  · simp only[hle,decide_false,cond_false,eas,dlt];by_cases hlt:a+s<n
    ·   have hsp:∃x y,R=x++y∧x.length=s∧Asc (ltc c) x∧Asc (ltc c) y:=by
         cases hAB with
         |last hl al=>omega
         | @cons x y hx ax r1=>
           rw[aD]at hn;exact⟨x,y,rfl,hx,ax,r1.asc hs (by omega)⟩
        obtain⟨x,y,rfl,hx,ax,ay⟩:=hsp;rw[aD]at hn hR;have hsy:=X9 hc hC B hB hB0 B m X x y [] a (a+s) n (by omega) (by omega) ha (by omega) (by omega) (by omega) (by omega) (by omega) ax ay (fun z hz=>hP z (by simp[hz])) (fun z hz=>hP z (by simp[hz]));simp only[List.append_nil]at hsy;have exy:bL (ltc c) (bL (ltc c) (x++y))=bL (ltc c) (x++y):=by have:=iT h (x++y) [];simpa using this
        refine⟨bL (ltc c) (x++y),.last (by rw[isort_len,aD];omega) (nR h _),isort_len _,exy,fun z hz=>hP z (mem_isort.1 hz),?_⟩;simp only[hlt,decide_true,cond_true,hsy,ah]
    ·   refine⟨R,.last (by omega) (hAB.asc hs (by omega)),rfl,rfl,hP,?_⟩;simp only[hlt,decide_false,cond_false]
theorem aoC(m B:Nat)(hB:B<144115188075855872)(hmB:2*B+6<=m)(hB0:m0<=B)(n:Nat)(hnB:2*n+40<=B):∀(q M s:Nat)(R:List Dt),n-s<=q->q<M->20<=s->s<=2*n+20->R.length=n->AB (ltc c) s R->(∀x∈R,P x)->
  xw m M (n:Int) (s:Int) R=some (bL (ltc c) R):=by
 have h:=swo hc;intro q;induction q using Nat.strongRecOn with
 |_ q ih=>
  intro M s R hq hM hs hs2 hR hAB hP;obtain⟨M,rfl⟩:∃k,M=k+1:=⟨M-1,by omega⟩;simp only[xw,dlt];by_cases hlt:s<n
  · obtain⟨R',g1,g2,g3,g4,g5⟩:=aoB hc hC m B (by omega) hmB hB0 n s (by omega) (by omega) (by omega) (xw m M) n (m+1) [] R 0 (by omega) (by omega) rfl (by omega) hAB hP;have e2s:wrap IntKind.i64 ((2:Int)*(s:Int))=((0+2*s:Nat):Int):=wrN (by omega) (by omega);have es2:wrap IntKind.i64 ((s:Int)*2)=((2*s:Nat):Int):=wrN (by omega) (by omega);have g5':FY m (xw m M) (Nat.succ m) (n:Int) (s:Int) 0 ((0+2*s:Nat):Int) R=Es m (xw m M) (n:Int) (s:Int) R':=g5;simp only[hlt,decide_true,cond_true,e2s,g5',Es,es2];rw[ih (n-2*s) (by omega) M (2*s) R' (by omega) (by omega) (by omega) (by omega) (by omega) g1 g4,g3]
  · simp only[hlt,decide_false,cond_false];rw[mG (hAB.asc (by omega) (by omega))]
theorem acI(m B:Nat)(hB:B<144115188075855872)(hmB:2*B+6<=m)(hB0:m0<=B)(R:List Dt)(hnB:2*R.length+40<=B)(hP:∀x∈R,P x):i24 (m+2) R=some (bL (ltc c) R):=by obtain⟨R',g1,g2,g3,g4,g5⟩:=aoA hc hC m B (by omega) (by omega) (by omega) R.length (by omega) R.length (m+1) [] R 0 (aj _) (by omega) rfl (by omega) hP;have g5':F3 m (Nat.succ m) ((R.length:Nat):Int) 20 0 20 R=Rf m ((R.length:Nat):Int) 20 R':=g5;have h5:=aoC hc hC m B hB hmB hB0 R.length hnB R.length (m+1) 20 R' (by omega) (by omega) (by omega) (by omega) g2 g1 g4;have h5':xw m (Nat.succ m) ((R.length:Nat):Int) 20 R'=some (bL (ltc c) R'):=h5;simp only[i24,i25,g5',Rf,h5',ah,g3]
end
end Go.Proofs.YtmecfjhdnbgfeaaGreatDoor
namespace Go.Proofs.YtmecfjhdnbgfeaaGreatDoor
open Go.Am Dt
theorem ZW{l:List Dt}{i:Nat}(h:i<l.length):inL l (i:Int)=some ():=by unfold inL;rw[if_pos ⟨by omega,by omega⟩]
theorem wrT{z:Int}{n:Nat}(h:z=(n:Int))(hn:n<9223372036854775807):IntKind.wrap IntKind.i64 z=(n:Int):=by rw[h,wrap64 (by omega) (by omega)]
theorem aoD{i j:Nat}(h:i+j<4611686018427387904):IntKind.wrap IntKind.i64 (shrI IntKind.u64 (IntKind.wrap IntKind.u64 (IntKind.wrap IntKind.i64 ((i:Int)+(j:Int)))) 1)=(((i+j)/2:Nat):Int):=by
 have e1:IntKind.wrap IntKind.i64 ((i:Int)+(j:Int))=((i+j:Nat):Int):=wrT (by omega) (by omega);have e2:IntKind.wrap IntKind.u64 ((i+j:Nat):Int)=((i+j:Nat):Int):=by unfold IntKind.wrap;simp only[IntKind.bits,IntKind.signed,Bool.false_and,Bool.false_eq_true,if_false];omega
 have e3:shrI IntKind.u64 ((i+j:Nat):Int) 1=(((i+j)/2:Nat):Int):=by show Int.fdiv ((i+j:Nat):Int) 2=_;rw[Int.fdiv_eq_ediv_of_nonneg _ (by omega)];omega
 rw[e1,e2,e3];exact wrT rfl (by omega)
def nmV(n:Int):Dt:=agg [(int 3),(int n),(str (ByteArray.mk (List.toArray []))),(lst []),(lst [])]
def fsV(v:Dt)(n:Int):List Dt:=[(agg [(str (ByteArray.mk (List.toArray [95,105,100]))),v]),(agg [(str (ByteArray.mk (List.toArray [99,111,117,110,116]))),nmV n])]
def eDV:Dt:=agg [(int 5),(int 0),(str (ByteArray.mk (List.toArray []))),(lst []),(bool true)]
def esG(G:GL):List Dt:=G.map fun _=>eDV
def lsG(G:GL):List Dt:=G.map fun x=>lst (fsV x.1 0)
def cnG(G:GL):List Dt:=G.map fun x=>int (x.2:Int)
def odO(O:List Nat):List Dt:=O.map fun(i:Nat)=>int (i:Int)
def cvG(G:GL):List Dt:=G.map fun x=>vN x.1 0
theorem akG:∀G:GL,frzD (some 4) (esG G) (lsG G)=cvG G
 | []=>rfl
 |x::r=>by show (_::frzD (some 4) (esG r) (lsG r))=_;rw[akG r];rfl
theorem Du{G:GL}{i:Nat}(h:i<G.length):gAt G i=G[i].1:=by unfold gAt;rw[List.getD_eq_getElem?_getD,aA h];rfl
theorem PV{G:GL}{i:Nat}(h:i<G.length):gN G i=G[i].2:=by unfold gN;rw[List.getD_eq_getElem?_getD,aA h];rfl
theorem aoE{m i:Nat}{G:GL}{v:Dt}(hi:i<G.length)(hc:aW m (gAt G i) v=some (cmpD (gAt G i) v)):i19 (m+1) (i:Int) v (lst (cvG G))=some (cmpD (gAt G i) v):=by
 have hi':i<(cvG G).length:=by rw[cvG,List.length_map];exact hi
 have e:(cvG G)[i]=vN (gAt G i) 0:=by rw[Du hi];simp only[cvG,List.getElem_map]
 rw[i19,show toLst (lst (cvG G))=cvG G from rfl,bI hi',ah,e];show ((aW m (gAt G i) v).bind _:Option Int)=_;rw[hc];rfl
theorem LP(m:Nat)(G:GL)(O:List Nat)(v:Dt)(hO:OI G O)(hl:O.length<1000000000)(hc:∀i,i<G.length->aW m (gAt G i) v=some (cmpD (gAt G i) v)):∀(M i j:Nat),i<=j->j<=O.length->j-i<M->(∀k,k<i->cmpD (bAt (oB G O) k) v<0)->(∀k,j<=k->k<O.length->0<=cmpD (bAt (oB G O) k) v)->
  ∃p,Cut (oB G O) v p∧Kv (m+1) M (odO O) (lst (cvG G)) (O.length:Int) (i:Int) (j:Int) v=some ((p:Int),fnB (oB G O) v p)
 |0,i,j,_,_,h,_,_=>by omega
 |M+    1,i,j,hij,hj,h,h1,h2=>by
  have hol:(odO O).length=O.length:=by rw[odO,List.length_map]
  have hstep:∀(k:Nat)(hk:k<O.length),(idx (odO O) (k:Int)).bind (fun v0=>i19 (m+1) (toInt v0) v (lst (cvG G)))=some (cmpD (bAt (oB G O) k) v):=fun k hk=>by rw[bI (show k<(odO O).length by rw[hol];exact hk),ah,PS hk];simp only[odO,List.getElem_map];exact aoE (hO.rng _ (aF hk)) (hc _ (hO.rng _ (aF hk)))
  simp only[Kv,dlt];by_cases hlt:i<j
  ·have hm:(i+j)/2<O.length:=by omega
   have hs0:=hstep _ hm;rw[bI (show (i+j)/2<(odO O).length by rw[hol];exact hm),ah]at hs0;simp only[hlt,decide_true,cond_true,ac4,aoD (show i+j<4611686018427387904 by omega),bI (show (i+j)/2<(odO O).length by rw[hol];exact hm),ah,hs0];by_cases hs:cmpD (bAt (oB G O) ((i+j)/2)) v<0
   ·    rw[decide_eq_true hs,cond_true,wrT (n:=(i+j)/2+1) (by omega) (by omega)];refine LP m G O v hO hl hc M _ j (by omega) hj (by omega) (fun k hk=>?_) h2;by_cases hk2:k=(i+j)/2;·rw[hk2];exact hs
        ·exact vQ.ltl (hO.ascB.lt' (show k<(i+j)/2 by omega) (by rw[pF];exact hm)) (Int.le_of_lt hs)
   ·    rw[decide_eq_false hs,cond_false];refine LP m G O v hO hl hc M i _ (by omega) (by omega) (by omega) h1 (fun k hk hk3=>?_);by_cases hk2:k=(i+j)/2;·rw[hk2];omega
        ·refine Int.not_lt.1 fun hn=>hs ?_;exact vQ.ltl (hO.ascB.lt' (show (i+j)/2<k by omega) (by rw[pF];exact hk3)) (Int.le_of_lt hn)
  ·have hij2:i=j:=by omega
   subst hij2;refine⟨i,⟨by rw[pF];exact hj,h1,fun k a b=>h2 k a (by rw[pF]at b;exact b)⟩,?_⟩;simp only[hlt,decide_false,cond_false,ac5,fnB,pF];by_cases hn:i<O.length
   ·    have hs0:=hstep _ hn;rw[bI (show i<(odO O).length by rw[hol];exact hn),ah]at hs0;rw[decide_eq_true (show ((i:Nat):Int)<((O.length:Nat):Int) by omega),cond_true,bI (show i<(odO O).length by rw[hol];exact hn),ah,hs0,ah,decide_eq_true hn,Bool.true_and]
   ·rw[decide_eq_false (show ¬((i:Nat):Int)<((O.length:Nat):Int) by omega),cond_false,decide_eq_false hn,Bool.false_and]
theorem amd(m:Nat)(G:GL)(O:List Nat)(v:Dt)(hO:OI G O)(hl:O.length<1000000000)(hm:O.length<=m)(hc:∀i,i<G.length->aW m (gAt G i) v=some (cmpD (gAt G i) v)):∃p,Cut (oB G O) v p∧i18 (m+2) (odO O) v (lst (cvG G))=some ((p:Int),fnB (oB G O) v p):=by
 have hol:(odO O).length=O.length:=by rw[odO,List.length_map]
 obtain⟨p,h1,h2⟩:=LP m G O v hO hl hc (Nat.succ (m+1)) 0 O.length (aI _) (aj _) (by omega) (fun k h=>by omega) (fun k h1 h2=>by omega);refine⟨p,h1,?_⟩;rw[←h2,i18,ac6,hol];rfl
theorem Vr(m:Nat)(b:Dt):eD (m+2) b 0=some ((5:Int),(0:Int),(ByteArray.mk (List.toArray [])),[],fsV b 0):=rfl
theorem Vs(m:Nat)(rec1:List Dt->Int->Int->Dt->List Dt->List Dt->List Dt->List Dt->Option (List Dt))(docs:List Dt)(n:Int)(j:Nat)(e:Dt)(es ls:List Dt)(G:GL)(O:List Nat)(p:Nat)(hp:p<O.length)(hi:O[p]<G.length)(hj:j<9223372036854775807)(hn:gN G O[p]+1<9223372036854775807):
  jK m rec1 (p:Int) docs n (j:Int) e es ls (cnG G) (odO O)=rec1 docs n ((j+1:Nat):Int) e es ls (cnG (G.set O[p] (gAt G O[p],gN G O[p]+1))) (odO O):=by
 have hol:(odO O).length=O.length:=by rw[odO,List.length_map]
 have hgl:(cnG G).length=G.length:=by rw[cnG,List.length_map]
 have e1:(odO O)[p]'(by rw[hol];exact hp)=int ((O[p]:Nat):Int):=by simp only[odO,List.getElem_map]
 have e2:(cnG G)[O[p]]'(by rw[hgl];exact hi)=int ((gN G O[p]:Nat):Int):=by rw[PV hi];simp only[cnG,List.getElem_map]
 have e3:(cnG G).set O[p] (int ((gN G O[p]+1:Nat):Int))=cnG (G.set O[p] (gAt G O[p],gN G O[p]+1)):=by rw[cnG,cnG,List.map_set]
 have h1:∀k:Nat,toInt (int (k:Int))=(k:Int):=fun _=>rfl;simp only[jK,rM,ZW (show p<(odO O).length by rw[hol];exact hp),ah,Int.toNat_natCast,aA (show p<(odO O).length by rw[hol];exact hp),e1,h1,ZW (show O[p]<(cnG G).length by rw[hgl];exact hi),aA (show O[p]<(cnG G).length by rw[hgl];exact hi),e2,bX (show gN G O[p]<9223372036854775807 by omega),e3,bX hj]
theorem Ki(G:GL)(x:Dt×Nat):esG (G++[x])=esG G++[eDV]:=by rw[esG,List.map_append];rfl
theorem Kj(G:GL)(x:Dt×Nat):lsG (G++[x])=lsG G++[lst (fsV x.1 0)]:=by rw[lsG,List.map_append];rfl
theorem ajs(G:GL)(x:Dt×Nat):cnG (G++[x])=cnG G++[int (x.2:Int)]:=by rw[cnG,List.map_append];rfl
theorem LQ{A:Type}(l:List A)(x y:A):(l++[x]).set l.length y=l++[y]:=by simp
theorem ajt(G:GL)(i:Nat)(v:Dt)(n:Nat):esG (G.set i (v,n))=esG G:=by rw[esG,esG,List.map_const',List.map_const',List.length_set]
theorem aju{G:GL}{i:Nat}(h:i<G.length)(n:Nat):lsG (G.set i (gAt G i,n))=lsG G:=by
 rw[lsG,lsG,List.map_set];refine List.ext_getElem? fun k=>?_;rw[List.getElem?_set];by_cases hik:i=k
 ·subst hik;rw[if_pos rfl,if_pos (by rw[List.length_map];exact h),List.getElem?_map,aA h,Du h];rfl
 ·rw[if_neg hik]
def nzV(v:Dt):Dt:=bif I v 0==0 then mP else v
theorem insert_eq{O:List Nat}{p:Nat}(n:Nat)(hp:p<=O.length)(hl:O.length<=1000000):kS (p:Int) (odO O) [int (n:Int)]=some (odO (O.take p++n::O.drop p)):=by
 have hol:(odO O).length=O.length:=by rw[odO,List.length_map]
 rw[kS,decide_eq_true (show (0:Int)<=(p:Int) by omega),hol,decide_eq_true (show (p:Int)<=(O.length:Int) by omega),show Nat.ble O.length 1000000=true from Nat.ble_eq_true_of_le hl];show some ((odO O).take p++[int (n:Int)]++(odO O).drop p)=_;simp only[odO,List.map_append,List.map_cons,List.map_take,List.map_drop,List.append_assoc,List.singleton_append]
theorem SE(m:Nat)(docs:List Dt)(e:Dt)(g:Dt->Dt)(hd:docs.length<=1000000)(hm:1000000<=m)(hE:∀d∈docs,gT (m+2) e d=some (g d))(hC:∀d∈docs,∀d'∈docs,aW m (nzV (g d)) (nzV (g d'))=some (cmpD (nzV (g d)) (nzV (g d')))):∀(M j:Nat)(G:GL)(O:List Nat),j<=docs.length->docs.length-j<M->OI G O->G=grp ((docs.take j).map fun d=>nzV (g d))->O.length<=j->G.length<=j->(∀x∈G,x.2<=j∧∃d∈docs,x.1=nzV (g d))->
  ∃G',G'=grp (docs.map fun d=>nzV (g d))∧G'.length<=docs.length∧(∀x∈G',x.2<=docs.length∧∃d∈docs,x.1=nzV (g d))∧iA (m+2) M docs (docs.length:Int) (j:Int) e (esG G) (lsG G) (cnG G) (odO O)=mo (m+2) (esG G') (lsG G') (cnG G')
 |0,j,_,_,_,h,_,_,_,_,_=>by omega
 |M+    1,j,G,O,hj,h,hO,hG,hOl,hGl,hB=>by
  simp only[iA,dlt];by_cases hlt:j<docs.length
  ·have hv:∀x,iw (m+2) x docs (docs.length:Int) (j:Int) e (esG G) (lsG G) (cnG G) (odO O) (nzV (g docs[j]))=(bif (I (g docs[j]) 0==0)then iw (m+2) x docs (docs.length:Int) (j:Int) e (esG G) (lsG G) (cnG G) (odO O) mP else iw (m+2) x docs (docs.length:Int) (j:Int) e (esG G) (lsG G) (cnG G) (odO O) (g docs[j])):=fun x=>by rw[nzV];cases (I (g docs[j]) 0==0)<;>rfl
   simp only[hlt,decide_true,cond_true,rO,bI hlt,hE _ (aF hlt),ah];rw[←hv,iw,akG];generalize hvv:nzV (g docs[j])=v;have hcv:∀i,i<G.length->aW m (gAt G i) v=some (cmpD (gAt G i) v):=fun i hi=>by obtain⟨_,d,hd1,hd2⟩:=hB _ (aF hi);rw[Du hi,hd2,←hvv];exact hC d hd1 _ (aF hlt)
   obtain⟨p,hp,hs⟩:=amd m G O v hO (by omega) (by omega) hcv;rw[hs,ah];have hG':pR G v=grp ((docs.take (j+1)).map fun d=>nzV (g d)):=by rw[List.take_succ_eq_append_getElem hlt,List.map_append,List.map_cons,List.map_nil,LK,←hG,hvv]
   have hB':∀(G2:GL),(∀x∈G2,x∈G∨(x.2<=j+1∧∃d∈docs,x.1=nzV (g d)))->∀x∈G2,x.2<=j+1∧∃d∈docs,x.1=nzV (g d):=fun G2 h2 x hx=>by
        rcases h2 x hx with h|h;·exact⟨by have:=(hB x h).1;omega,(hB x h).2⟩
        ·exact h
   cases hf:fnB (oB G O) v p with
   |    true=>
        obtain⟨hpo,e1,hO'⟩:=hO.found hp hf;have hi:=hO.rng _ (aF hpo);have hb:=hB _ (aF hi);rw[Bool.not_true,cond_false,Vs (m+2) _ docs _ j e _ _ G O p hpo hi (by omega) (by rw[PV hi];omega)];have ih:=SE m docs e g hd hm hE hC M (j+1) (pR G v) O (by omega) (by omega) hO' hG' (by omega) (by rw[e1,List.length_set];omega) (hB' _ fun x hx=>by
         rw[e1]at hx;rcases List.mem_or_eq_of_mem_set hx with h|rfl;·exact .inl h
         ·refine .inr ⟨by show gN G O[p]+1<=_;rw[PV hi];omega,?_⟩;show ∃d∈docs,gAt G O[p]=_;rw[Du hi];exact hb.2)
        rw[e1,ajt,aju hi]at ih;rw[e1]at hG';exact ih
   |    false=>
        obtain⟨e1,hpl,hO'⟩:=hO.fresh hp hf;have hes:(esG G).length=G.length:=by rw[esG,List.length_map]
        have hls:(lsG G).length=G.length:=by rw[lsG,List.length_map]
        have hcs:(cnG G).length=G.length:=by rw[cnG,List.length_map]
        have ap:∀(l:List Dt)(y:Dt),l.length<=1000000->app l [y]=some (l++[y]):=fun l y hl=>rU (by simp;omega);have hlast:(esG G).length<(esG G++[aC]).length:=by simp
        have s1:List.set (esG G++[aC]) (esG G).length eDV=esG (G++[(v,0)]):=by rw[LQ,Ki]
        have s2:List.set (lsG G++[lst []]) (esG G).length (lst (fsV v 0))=lsG (G++[(v,0)]):=by rw[hes,←hls,LQ,Kj]
        have s3:cnG G++[int 0]=cnG (G++[(v,0)]):=by rw[ajs];rfl
        have hpo:p<(O.take p++G.length::O.drop p).length:=by simp;omega
        have hpe:(O.take p++G.length::O.drop p)[p]=G.length:=by rw[List.getElem_append_right (by simp;omega)];simp[Nat.min_eq_left hpl]
        have hgl:G.length<(G++[(v,0)]).length:=by simp
        rw[Bool.not_false,cond_true,hes,insert_eq G.length hpl (by omega),ah,Vr,ah,ap _ _ (by omega),ah];have hgo:G.length<(esG G++[aC]).length:=by rw[aD,hes];simp
        rw[ZW hgo,ah,Int.toNat_natCast,aA hgo,ah,ap _ _ (by omega),ah,s3];have s1':List.set (esG G++[aC]) G.length (agg [int 5,int 0,str (ByteArray.mk (List.toArray [])),lst [],bool true])=esG (G++[(v,0)]):=by rw[←s1,hes];rfl
        have s2':List.set (lsG G++[lst []]) G.length (lst (fsV v 0))=lsG (G++[(v,0)]):=by rw[←s2,hes]
        have hst:=Vs (m+2) (iA (m+2) M) docs (docs.length:Int) j e (esG (G++[(v,0)])) (lsG (G++[(v,0)])) (G++[(v,0)]) (O.take p++G.length::O.drop p) p hpo (by rw[hpe];exact hgl) (by omega) (by rw[hpe,PV hgl];simp);have e2:(G++[(v,0)]).set G.length (gAt (G++[(v,0)]) G.length,gN (G++[(v,0)]) G.length+1)=G++[(v,1)]:=by rw[LQ,oJ,PV hgl];simp
        rw[hpe,e2]at hst;have ih:=SE m docs e g hd hm hE hC M (j+1) (pR G v) (O.take p++G.length::O.drop p) (by omega) (by omega) hO' hG' (by simp;omega) (by rw[e1];simp;omega) (hB' _ fun x hx=>by
         rw[e1]at hx;rcases List.mem_append.1 hx with h|h;·exact .inl h
         ·rw[List.mem_singleton.1 h];exact .inr ⟨by simp,docs[j],aF hlt,hvv.symm⟩)
        rw[e1,Ki,Kj]at ih;rw[e1]at hG';rw[Ki,Kj]at hst;refine⟨_,rfl,?_⟩;obtain⟨G',k1,k2,k3,k4⟩:=ih;rw[←k1];refine⟨k2,k3,?_⟩;rw[←k4];refine Eq.trans ?_ hst;show jK (m+2) _ (p:Int) docs _ (j:Int) e (List.set (esG G++[aC]) G.length (agg [int 5,int 0,str (ByteArray.mk (List.toArray [])),lst [],bool true])) (List.set (lsG G++[lst []]) G.length (lst (fsV v 0))) _ _=_;rw[s1',s2',Ki,Kj]
  ·have e1:j=docs.length:=by omega
   rw[e1,List.take_length]at hG;simp only[hlt,decide_false,cond_false];exact⟨G,hG,by omega,fun x hx=>⟨by have:=(hB x hx).1;omega,(hB x hx).2⟩,rfl⟩
end Go.Proofs.YtmecfjhdnbgfeaaGreatDoor
namespace Go.Proofs.YtmecfjhdnbgfeaaGreatDoor
open Go.Am Go.Am.Srt Dt
def lsP(G:GL)(j:Nat):List Dt:=((G.take j).map fun x=>lst (fsV x.1 (x.2:Int)))++(G.drop j).map fun x=>lst (fsV x.1 0)
def cvN(G:GL):List Dt:=G.map fun x=>vN x.1 (x.2:Int)
theorem akH:∀G:GL,frzD (some 4) (esG G) (G.map fun x=>lst (fsV x.1 (x.2:Int)))=cvN G
 | []=>rfl
 |x::r=>by show (_::frzD (some 4) (esG r) (r.map fun x=>lst (fsV x.1 (x.2:Int))))=_;rw[akH r];rfl
theorem Vt(m:Nat)(G:GL)(hl:G.length<=1000000):∀(M j:Nat),j<=G.length->G.length-j<M->
  jL (m+1) M (cnG G) (G.length:Int) (j:Int) (esG G) (lsP G j)=kL (m+1) (cvN G)
 |0,j,_,h=>by omega
 |M+    1,j,hj,h=>by
  have hes:(esG G).length=G.length:=by rw[esG,List.length_map]
  have hcs:(cnG G).length=G.length:=by rw[cnG,List.length_map]
  simp only[jL,dlt];by_cases hlt:j<G.length
  ·have e1:(cnG G)[j]'(by rw[hcs];exact hlt)=int ((G[j].2:Nat):Int):=by simp only[cnG,List.getElem_map]
   have e2:(esG G)[j]'(by rw[hes];exact hlt)=eDV:=by simp only[esG,List.getElem_map]
   have ed:lsP G j=((G.take j).map fun x=>lst (fsV x.1 (x.2:Int)))++lst (fsV G[j].1 0)::(G.drop (j+1)).map fun x=>lst (fsV x.1 0):=by rw[lsP,aG hlt];rfl
   have en:lsP G (j+1)=((G.take j).map fun x=>lst (fsV x.1 (x.2:Int)))++lst (fsV G[j].1 (G[j].2:Int))::(G.drop (j+1)).map fun x=>lst (fsV x.1 0):=by rw[lsP,List.take_succ_eq_append_getElem hlt,List.map_append,List.append_assoc];rfl
   have hA:((G.take j).map fun x=>lst (fsV x.1 (x.2:Int))).length=j:=by rw[List.length_map,List.length_take];omega
   generalize ((G.take j).map fun x=>lst (fsV x.1 (x.2:Int)))=A at ed en hA;generalize ((G.drop (j+1)).map fun x=>lst (fsV x.1 0))=B at ed en;have ih:=Vt m G hl M (j+1) (by omega) (by omega);rw[en]at ih;have g1':∀x,(A++x::B)[j]? =some x:=fun x=>by rw[←hA];exact g1 A B x
   have s1':∀x z,(A++x::B).set j z=A++z::B:=fun x z=>by rw[←hA];exact s1 A B x z
   have hlk:lkd (some 4) eDV=true:=rfl;have hint:∀z:Int,gU (m+1) z=some (nmV z):=fun _=>rfl;rw[ed];simp only[hlt,decide_true,cond_true,rP,bI (show j<(cnG G).length by rw[hcs];exact hlt),ah,e1,ZW (show j<(esG G).length by rw[hes];exact hlt),Int.toNat_natCast,aA (show j<(esG G).length by rw[hes];exact hlt),e2,hlk,g1',hint,s1'];rw[show inL (toLst (lst (fsV G[j].1 0))) 1=some ()from rfl,ah,show (toLst (lst (fsV G[j].1 0)))[1]? =some (agg [(str (ByteArray.mk (List.toArray [99,111,117,110,116]))),nmV 0])from rfl,ah,qJ,bX (by omega)];exact ih
  ·have e1:j=G.length:=by omega
   have e2:lsP G j=G.map fun x=>lst (fsV x.1 (x.2:Int)):=by rw[lsP,e1,List.take_length,List.drop_length];simp
   simp only[hlt,decide_false,cond_false,e2,akH]
def ame(x:Dt):Dt:=fld ((L x 4).getD 1 aC) 1
def cmT(x y:Dt):Int:=cmpD (ame y) (ame x)
theorem Ya:TPO cmT:=⟨fun a b=>vQ.rng _ _,fun a b=>vQ.anti _ _,fun a b d h1 h2=>vQ.tr _ _ _ h2 h1⟩
def IsC(x:Dt):Prop:=∃(v:Dt)(n:Nat),x=vN v (n:Int)
theorem Kk(v:Dt)(n:Int):ame (vN v n)=nmV n:=rfl
theorem aoF(m:Nat)(hm:1000<=m)(x y:Dt)(hx:IsC x)(hy:IsC y):dB m x y=some (cmT x y):=by
 obtain⟨v,n,rfl⟩:=hx;obtain⟨w,k,rfl⟩:=hy;obtain⟨q,rfl⟩:∃q,m=q+4:=⟨m-4,by omega⟩;have hb:(nmV (k:Int)).bulk<=100:=by show (agg [int 3,int (k:Int),str (ByteArray.mk (List.toArray [])),lst [],lst []]).bulk<=100;simp only[Dt.bulk,bulkL];have:(ByteArray.mk (List.toArray [])).size=0:=rfl;omega
 have h1:=qR (nmV (k:Int)) (nmV (n:Int)) q (by omega) (by omega);show ((aW (q+3) (nmV (k:Int)) (nmV (n:Int))).bind _:Option Int)=some (cmpD (nmV (k:Int)) (nmV (n:Int)));rw[h1];rfl
def Jp(vs:List Dt):List Dt:=bL (ltc cmT) (cvN (grp vs))
theorem Vu(m:Nat)(docs:List Dt)(e:Dt)(g:Dt->Dt)(hd:docs.length<=1000000)(hm:20000000<=m)(hE:∀d∈docs,gT (m+2) e d=some (g d))(hC:∀d∈docs,∀d'∈docs,aW m (nzV (g d)) (nzV (g d'))=some (cmpD (nzV (g d)) (nzV (g d')))):jF (m+3) e docs=some (Jp (docs.map fun d=>nzV (g d))):=by
 obtain⟨G,h1,h2,h3,h4⟩:=SE m docs e g hd (by omega) hE hC (Nat.succ (m+2)) 0 [] [] (aI _) (by omega) OI.nil (by rw[List.take_zero];rfl) (aj _) (aj _) (fun x hx=>by cases hx);have hcs:(cnG G).length=G.length:=by rw[cnG,List.length_map]
 have e0:lsP G 0=lsG G:=by rw[lsP,List.take_zero,aQ,List.map_nil,List.nil_append,lsG]
 have k1:=Vt (m+1) G (by omega) (Nat.succ (m+2)) 0 (aI _) (by omega);rw[e0]at k1;have hP:∀x∈cvN G,IsC x:=fun x hx=>by obtain⟨y,_,rfl⟩:=List.mem_map.1 hx;exact⟨y.1,y.2,rfl⟩
 have hl:(cvN G).length=G.length:=by rw[cvN,List.length_map]
 have k2:=acI Ya (m0:=1000) (fun q hq x y hx hy=>aoF q hq x y hx hy) m 3000000 (by omega) (by omega) (by omega) (cvN G) (by omega) hP;refine Eq.trans (b:=mo (m+2) (esG G) (lsG G) (cnG G)) h4 ?_;rw[mo,hcs];refine Eq.trans (b:=kL (m+2) (cvN G)) k1 ?_;rw[kL,k2,ah,Jp,h1]
end Go.Proofs.YtmecfjhdnbgfeaaGreatDoor
namespace Go.Proofs.YtmecfjhdnbgfeaaGreatDoor
open Go.Am Go.Am.Srt
theorem LU{A B:Type}{lt:A->A->Bool}{lt':B->B->Bool}(f:A->B)(h:∀a b,lt' (f a) (f b)=lt a b):∀D:List A,bL lt' (D.map f)=(bL lt D).map f
 | []=>rfl
 |a::D=>by
  have hi:∀(x:A)(s:List A),ins lt' (f x) (s.map f)=(ins lt x s).map f:=by
   intro x s;induction s with
   |nil=>rfl
   |    cons y s ih=>
        simp only[List.map_cons,ins,h];cases lt y x;·rfl
        ·simp only[cond_true,List.map_cons,ih]
  show ins lt' (f a) (bL lt' (D.map f))=(ins lt a (bL lt D)).map f;rw[LU f h D,hi]
def ltG(x y:Dt×Nat):Bool:=ltc cmT (vN x.1 (x.2:Int)) (vN y.1 (y.2:Int))
def tF(G:GL):GL:=bL ltG G
theorem Kl(vs:List Dt):Jp vs=cvN (tF (grp vs)):=LU (lt:=ltG) (fun x:Dt×Nat=>vN x.1 (x.2:Int)) (fun _ _=>rfl) _
theorem aeX{G H:GL}(h:H.Perm G):oW H=oW G:=by
 unfold oW;induction h with
 |nil=>rfl
 |cons x _ ih=>simp only[List.map_cons,List.sum_cons,ih]
 |swap x y l=>simp only[List.map_cons,List.sum_cons];omega
 |trans _ _ h1 h2=>rw[h1,h2]
theorem Vw:∀(vs:List Dt)(G:GL),oW (vs.foldl pR G)=oW G+vs.length
 | [],_=>rfl
 |v::r,G=>by rw[List.foldl_cons,Vw r,Vm,List.length_cons];omega
theorem Vx:∀(vs:List Dt)(G:GL),(∀x∈G,1<=x.2)->∀x∈vs.foldl pR G,1<=x.2
 | [],_,h=>h
 |v::r,G,h=>Vx r (pR G v) (Vn G v h)
theorem ajv(vs:List Dt):oW (tF (grp vs))=vs.length:=by rw[tF,aeX (ze _),grp,Vw];exact Nat.zero_add _
theorem ajw(vs:List Dt):∀x∈tF (grp vs),1<=x.2:=fun x hx=>Vx vs [] (fun x h=>by cases h) x (mem_isort.1 hx)
theorem aeY(a b:Int):cmpD (nmV a) (nmV b)=xP a b:=by
 have h:∃k,(nmV a).bulk+(nmV b).bulk=k+1:=⟨(nmV a).bulk+(nmV b).bulk-1,by
  have:1<=(nmV a).bulk:=by unfold nmV;simp only[Dt.bulk];omega
  omega⟩
 obtain⟨k,hk⟩:=h;rw[cmpD,hk];rfl
theorem ajx:SWO ltG:=⟨fun x=>(swo Ya).irr _,fun x y z=>(swo Ya).tr _ _ _,fun x y z=>(swo Ya).ntr _ _ _⟩
theorem ZX{A:Type}{lt:A->A->Bool}:∀{l:List A},Asc lt l->∀(i:Nat)(h:i+1<l.length),lt l[i+1] (l[i]'(by omega))=false
 |a::b::r,h,0,_=>h.1 b bA
 |a::r,h,i+1,hi=>by have:=ZX (l:=r) h.2 i (by simpa using hi);simpa using this
theorem ZY(G:GL)(i:Nat)(h:i+1<(tF G).length):(tF G)[i+1].2<=((tF G)[i]'(by omega)).2:=by have h1:=ZX (nR ajx G) i h;have h1:ltG (tF G)[i+1] ((tF G)[i]'(by omega))=false:=h1;unfold ltG ltc at h1;rw[cmT,Kk,Kk,aeY]at h1;have h2:=of_decide_eq_false h1;rcases fB ((((tF G)[i]'(by omega)).2:Nat):Int) ((((tF G)[i+1]).2:Nat):Int)with⟨h3,e⟩| ⟨h3,e⟩| ⟨h3,e⟩<;>omega
section
variable(bs:List Dt)
def ouG(vs:List Dt):Nat->Nat->GL
 |0,_=>[]
 |k+1,i=>(bif decide ((0:Int)<(cnB bs vs i:Int))then[(bAt bs i,cnB bs vs i)]else[])++ouG vs k (i+1)
theorem akI(vs:List Dt):∀k i,ouL bs vs k i=cvN (ouG bs vs k i)
 |0,_=>rfl
 |k+1,i=>by rw[ouL,ouG,cvN,List.map_append,akI vs k (i+1),ouT];cases decide ((0:Int)<(cnB bs vs i:Int))<;>rfl
theorem Yb(vs:List Dt):∀k i,oW (ouG bs vs k i)=suB bs vs k i
 |0,_=>rfl
 |k+1,i=>by
  have ih:=Yb vs k (i+1);rw[ouG,suB,oW,List.map_append,List.sum_append];rw[oW]at ih;rw[ih];cases h:decide ((0:Int)<(cnB bs vs i:Int))
  ·have:=of_decide_eq_false h;have e:cnB bs vs i=0:=by omega
   rw[e];rfl
  ·simp
theorem Yc(vs:List Dt):∀k i,∀x∈ouG bs vs k i,1<=x.2
 |0,_,x,h=>by cases h
 |k+    1,i,x,h=>by
  rw[ouG]at h;rcases List.mem_append.1 h with h|h
  ·cases hd:decide ((0:Int)<(cnB bs vs i:Int));·rw[hd]at h;cases h
   ·    rw[hd]at h;have:=of_decide_eq_true hd;rw[List.mem_singleton.1 h];show 1<=cnB bs vs i;omega
  ·exact Yc vs k (i+1) x h
end
end Go.Proofs.YtmecfjhdnbgfeaaGreatDoor
namespace Go.Proofs.YtmecfjhdnbgfeaaGreatDoor
open Go.Am Go.Am.Srt Dt
theorem vd1(m:Nat)(d:Dt)(hw:WV d)(hb:d.bulk<=1048576)(hm:3000000<=m)(hm2:m<9223372036854775000):∃b,iF (m+5) d=some b∧(b=false->Nd d):=by
 rw[iF];cases h5:(I d 0 !=5)
 ·rw[cond_false,BO hw m (by omega) (by omega) (by omega),ah];exact⟨_,rfl,fun h=> .inr ⟨hw,by simpa using h⟩⟩
 ·exact⟨true,rfl,fun h=>by cases h⟩
theorem EX(m:Nat)(docs:List Dt)(hl:docs.length<=1048576)(hw:∀d∈docs,WV d∧d.bulk<=1048576)(hm:3000000<=m)(hm2:m<9223372036854775000):∀(M i:Nat),i<=docs.length->docs.length-i<M->
  ∃r:Int,CV (m+5) M docs (docs.length:Int) (i:Int)=some r∧(decide (0<=r)=false->∀d∈docs.drop i,Nd d)
 |0,i,_,h=>by omega
 |M+    1,i,hi,h=>by
  simp only[CV,dlt];by_cases hlt:i<docs.length
  ·obtain⟨w1,w2⟩:=hw _ (aF hlt);obtain⟨b,b1,b2⟩:=vd1 m docs[i] w1 w2 hm hm2;obtain⟨r,r1,r2⟩:=EX m docs hl hw hm hm2 M (i+1) (by omega) (by omega);simp only[hlt,decide_true,cond_true,bI hlt,ah,b1,bX (show i<9223372036854775807 by omega)];cases b with
   |true=>exact⟨(i:Int),rfl,fun h=>by rw[decide_eq_true (by omega)]at h;cases h⟩
   |    false=>
        refine⟨r,r1,fun h d hd=>?_⟩;rw[aG hlt]at hd;rcases List.mem_cons.1 hd with rfl|hd;·exact b2 rfl
        ·exact r2 h d hd
  ·have e:i=docs.length:=by omega
   subst e;exact⟨-1,by simp[],fun _ d hd=>by simp at hd⟩
theorem GY(m:Nat)(docs:List Dt)(hl:docs.length<=1048576)(hw:∀d∈docs,WV d∧d.bulk<=1048576)(hm:3000000<=m)(hm2:m<9223372036854775000):∃b,iN (m+8) docs=some b∧(b=true->docs.length<=30∧∀d∈docs,Nd d):=by
 rw[iN];by_cases h30:((docs.length:Nat):Int)<=30
 ·obtain⟨r,r1,r2⟩:=EX m docs hl hw hm hm2 (m+6) 0 (aI _) (by omega);have h9:i10 (m+6) docs=some r:=r1;rw[decide_eq_true h30,cond_true,i9,h9,ah,ah];refine⟨_,rfl,fun h=>⟨by omega,fun d hd=>r2 (by simpa using h) d (by simpa using hd)⟩⟩
 ·rw[decide_eq_false h30];exact⟨false,rfl,fun h=>by cases h⟩
theorem SF{v:Dt}(h:v.bulk<=4300800):(nzV v).bulk<=4300800:=by
 rw[nzV];cases I v 0==0;·exact h
 ·show mP.bulk<=_;decide
theorem ajy(m:Nat)(b:Dt)(n:Int):uJ (m+5) (vN b n) (ByteArray.mk (List.toArray [99,111,117,110,116]))=some (nmV n,true):=by kernel_rfl
theorem acJ{G:GL}{i:Nat}(h:i<G.length):oW (G.take (i+1))=oW (G.take i)+G[i].2:=by rw[List.take_succ_eq_append_getElem h];simp only[oW,List.map_append,List.sum_append,List.map_cons,List.map_nil,List.sum_cons,List.sum_nil,Nat.add_zero]
theorem ajz(G:GL)(i:Nat):oW (G.take i)<=oW G:=by
 have:oW G=oW (G.take i)+oW (G.drop i):=by
  conv=>lhs;rw[←List.take_append_drop i G]
  simp only[oW,List.map_append,List.sum_append]
 omega
theorem Yd{G:GL}{i:Nat}(h:i<G.length):idx (cvN G) (i:Int)=some (vN G[i].1 (G[i].2:Int)):=by
 have hl:i<(cvN G).length:=by rw[cvN,List.length_map];exact h
 rw[bI hl];simp only[cvN,List.getElem_map]
theorem Vy(m:Nat)(G:GL)(hl:G.length<=1000)(hp:∀x∈G,1<=x.2)(hb:oW G<=1000):∀(M i:Nat),i<=G.length->G.length-i<M->dR (m+5) M ((oW (G.take i):Nat):Int) (cvN G) (G.length:Int) (i:Int)=some ((oW G:Nat):Int)
 |0,i,_,h=>by omega
 |M+1,i,hi,h=>by
  simp only[dR,dlt];by_cases hlt:i<G.length
  ·have ih:=Vy m G hl hp hb M (i+1) (by omega) (by omega);have h1:=hp _ (aF hlt);have h2:=ajz G (i+1);rw[acJ hlt]at ih h2;have e2:I (nmV (G[i].2:Int)) 1=(G[i].2:Int):=rfl;have e3:IntKind.wrap .i64 (((oW (G.take i):Nat):Int)+(G[i].2:Int))=((oW (G.take i)+G[i].2:Nat):Int):=by rw[wrap64 (by omega) (by omega)];omega
   simp only[hlt,decide_true,cond_true,fI,Yd hlt,ah,ajy,Bool.not_true,cond_false,e2,decide_eq_false (show ¬((G[i].2:Nat):Int)<1 by omega),e3,bX (show i<9223372036854775807 by omega)];exact ih
  ·have e1:i=G.length:=by omega
   simp only[hlt,decide_false,cond_false,fI];rw[e1,List.take_length]
theorem aeZ(m:Nat)(G:GL)(hl:G.length<=1000)(hm:1000<=m)(hp:∀x∈G,1<=x.2)(hb:oW G<=1000):cO (m+6) (cvN G)=some ((oW G:Nat):Int):=by
 have h:=Vy m G hl hp hb (Nat.succ (m+5)) 0 (aI _) (by omega);rw[List.take_zero]at h;have e:((cvN G).length:Int)=(G.length:Int):=by rw[cvN,List.length_map]
 rw[cO,e];exact h
theorem Vz(m:Nat)(bs docs:List Dt)(e:Dt)(hl:bs.length<=1000)(hm:3000000<=m)(hm2:m<800000000000)(hw:∀b∈bs,WV b∧b.bulk<=1048576):∀(M i:Nat)(f:Bool),i<=bs.length->bs.length-i<M->
  ∃g:Bool,dO (m+4) M bs docs f (bs.length:Int) (i:Int) e=jv (m+4) bs docs g e∧(g=true->f=true∧∀k,i<=k+1->k+1<bs.length->cmpD (bAt bs k) (bAt bs (k+1))<0)
 |0,i,_,_,h=>by omega
 |M+    1,i,f,hi,h=>by
  simp only[dO,dlt];by_cases hlt:i<bs.length
  ·have ih  :=fun f=>Vz m bs docs e hl hm hm2 hw M (i+1) f (by omega) (by omega);have hv:fF (m+4) bs[i]=some (okV bs[i]):=BO (hw _ (aF hlt)).1 m (by have:=(hw _ (aF hlt)).2;omega) (by omega) (by have:=(hw _ (aF hlt)).2;omega);have wi:IntKind.wrap .i64 ((i:Int)+1)=((i+1:Nat):Int):=bX (by omega);cases f with
   |    false=>
        obtain⟨g,g1,g2⟩:=ih false;refine⟨g,?_,fun hg=>absurd (g2 hg).1 (by decide)⟩;simp only[hlt,decide_true,cond_true,cond_false,wi];exact g1
   |    true=>
        by_cases h0:i=0
        ·subst h0;obtain⟨g,g1,g2⟩:=ih (okV (bs[0]'hlt));refine⟨g,?_,fun hg=>⟨rfl,fun k _ hk=>(g2 hg).2 k (by omega) hk⟩⟩;have i0:idx bs 0=some (bs[0]'hlt):=bI (i:=0) hlt;have hz:(((0:Nat):Int)==0)=true:=rfl;rw[decide_eq_true hlt,cond_true,cond_true,hz,cond_true];show ((idx bs 0).bind _:Option Bool)=_;rw[i0,ah,hv,ah,wi];exact g1
        ·have hz:((i:Int)==0)=false:=by simpa using h0
         have hp:i-1<bs.length:=by omega
         have wp:IntKind.wrap .i64 ((i:Int)-1)=((i-1:Nat):Int):=by rw[wrap64 (by omega) (by omega)];omega
         have hc:bP (m+4) bs[i-1] bs[i]=some (cmpD bs[i-1] bs[i]):=aip _ _ (m+1) (by have:=(hw _ (aF hp)).2;omega) (by omega);rw[decide_eq_true hlt,cond_true,cond_true,hz,cond_false,wp,bI hp,ah,bI hlt,ah,hc,ah];by_cases hs:cmpD bs[i-1] bs[i]<0
         ·obtain⟨g,g1,g2⟩:=ih (okV bs[i]);refine⟨g,?_,fun hg=>⟨rfl,fun k hk1 hk=>?_⟩⟩
          · rw[decide_eq_true hs,cond_true,ah,hv,ah,wi];exact g1
          · by_cases hki:k+1=i
            ·obtain rfl:k=i-1:=by omega
             rw[xK bs hp,show i-1+1=i by omega,xK bs hlt];exact hs
            ·exact(g2 hg).2 k (by omega) hk
         ·obtain⟨g,g1,g2⟩:=ih false;refine⟨g,?_,fun hg=>absurd (g2 hg).1 (by decide)⟩;rw[decide_eq_false hs,cond_false,wi];exact g1
  ·refine⟨f,?_,fun hf=>⟨hf,fun k h1 h2=>by omega⟩⟩;simp only[hlt,decide_false,cond_false]
theorem VA(m:Nat)(bs docs:List Dt)(e:Dt)(f:Bool)(S:GL)(hl:S.length<=1000)(hS:∀(i:Nat)(h:i+1<S.length),S[i+1].2<=(S[i]'(by omega)).2):∀(M i:Nat),i<=S.length->S.length-i<M->
  dN m M bs docs f (cvN S) (S.length:Int) (i:Int) e=iV m bs docs f (cvN S) e
 |0,i,_,h=>by omega
 |M+    1,i,hi,h=>by
  simp only[dN,dlt];by_cases hlt:i<S.length
  ·have ih:=VA m bs docs e f S hl hS M (i+1) (by omega) (by omega);have wi:IntKind.wrap .i64 ((i:Int)+1)=((i+1:Nat):Int):=bX (by omega);have h2:∀(b:Dt)(n:Int),(((List.length (L (vN b n) 4)):Int) !=(2:Int))=false:=fun _ _=>rfl;have f1:∀(b:Dt)(n:Int),idx (L (vN b n) 4) 1=some (agg [(str (ByteArray.mk (List.toArray [99,111,117,110,116]))),nmV n]):=fun _ _=>rfl;rw[decide_eq_true hlt,cond_true,Yd hlt,ah,h2,cond_false];by_cases h0:i=0
   ·    subst h0;rw[decide_eq_false (by omega),cond_false,eP,cond_false,wi];exact ih
   ·    have hp:i-1<S.length:=by omega
        have wp:IntKind.wrap .i64 ((i:Int)-1)=((i-1:Nat):Int):=by rw[wrap64 (by omega) (by omega)];omega
        have ho:=hS (i-1) (by omega);have ei:S[i-1+1]=S[i]:=by simp only[show i-1+1=i by omega]
        rw[ei]at ho;have hd:decide (I (fld (agg [(str (ByteArray.mk (List.toArray [99,111,117,110,116]))),nmV (S[i-1].2:Int)]) 1) 1<I (fld (agg [(str (ByteArray.mk (List.toArray [99,111,117,110,116]))),nmV (S[i].2:Int)]) 1) 1)=false:=by show decide (((S[i-1].2:Nat):Int)<((S[i].2:Nat):Int))=false;exact decide_eq_false (by omega)
        rw[decide_eq_true (by omega),cond_true,wp,Yd hp,ah,f1,ah,ah,f1,ah,hd,eP,cond_false,wi];exact ih
  ·simp only[hlt,decide_false,cond_false]
theorem Z0{bs:List Dt}(h:yt bs):∀(k i:Nat),i+k<=bs.length-1->LG bs k i=true
 |0,_,_=>rfl
 |k+1,i,hk=>by rw[LG,decide_eq_true (h i (by omega)),Z0 h k (i+1) (by omega)];rfl
theorem aoG(bs vs:List Dt)(h2:2<=bs.length)(ha:yt bs)(hc:∀v∈vs,∃p,Cut bs v p):∃G:GL,buS bs vs=cvN G∧oW G=vs.length∧(∀x∈G,1<=x.2)∧G.length<=bs.length:=by
 have hS:=ZR ha vs hc;have hgl:∀k i,(ouG bs vs k i).length<=k:=by
  intro k;induction k with
  |zero=>intro i;exact aj _
  |succ k ih=>
   intro i;have:=ih (i+1);rw[ouG,aD];cases decide ((0:Int)<(cnB bs vs i:Int))<;>simp<;>omega
 have hg:=hgl (bs.length-1) 0;have hb:buS bs vs=fiB (vs.countP (ouB bs)) (cvN (ouG bs vs (bs.length-1) 0)):=by rw[buS,decide_eq_false (by omega),cond_false,Z0 ha _ 0 (by omega),cond_true,akI]
 rw[hb,fiB];by_cases hn:(0:Int)<((vs.countP (ouB bs):Nat):Int)
 ·refine⟨ouG bs vs (bs.length-1) 0++[(mP,vs.countP (ouB bs))],?_,?_,?_,?_⟩;·rw[decide_eq_true hn,cond_true,cvN,cvN,List.map_append];rfl
  ·have h1:=Yb bs vs (bs.length-1) 0;simp only[oW,List.map_append,List.sum_append,List.map_cons,List.map_nil,List.sum_cons,List.sum_nil]at h1 ⊢
   omega
  ·intro x hx;rcases List.mem_append.1 hx with hx|hx;·exact Yc bs vs _ _ x hx
   ·    rw[List.mem_singleton.1 hx];show 1<=vs.countP (ouB bs);omega
  ·rw[aD,List.length_singleton];omega
 ·refine⟨ouG bs vs (bs.length-1) 0,?_,?_,Yc bs vs _ _,by omega⟩;·rw[decide_eq_false hn,cond_false,List.append_nil]
  ·rw[Yb];omega
theorem Ay:∀(vs:List Dt)(G:GL),(vs.foldl pR G).length<=G.length+vs.length
 | [],_=>aj _
 |v::r,G=>by have h1:=Ay r (pR G v);have h2:=Vo G v;rw[List.foldl_cons,List.length_cons];omega
theorem ae0(us:List Dt):∃S:GL,Jp us=cvN S∧oW S=us.length∧(∀x∈S,1<=x.2)∧(∀(i:Nat)(h:i+1<S.length),S[i+1].2<=(S[i]'(by omega)).2)∧S.length<=us.length:=by refine⟨tF (grp us),Kl us,ajv us,ajw us,ZY (grp us),?_⟩;rw[tF,Srt.isort_len];have:=Ay us [];rw[List.length_nil,Nat.zero_add]at this;exact this
theorem Ye(e:Dt)(bs docs:List Dt)(he:WE e)(heb:e.bulk<=1048576)(hbl:bs.length<=1048576)(hbw:∀d∈bs,WV d∧d.bulk<=1048576)(hdl:docs.length<=1048576)(hdw:∀d∈docs,WV d∧d.bulk<=1048576):jo (500000000000+1) e bs docs=some true:=by
 obtain⟨b,b1,b2⟩:=GY 499999999992 docs hdl hdw (by omega) (by omega);have b1:iN 500000000000 docs=some b:=b1;have hv:=NU 100000000 (aj _) 499999999977 (by omega) (by omega) e he (by omega);have hv:kC 500000000000 e=some (ckE 16 e 0).2:=hv;have aw:xI=some true:=rfl;rw[jo,b1,ah];cases b with
 |false=>rw[Bool.not_false,cond_true,dD,aw];rfl
 |true=>
  obtain⟨hd30,hdn⟩:=b2 rfl;rw[Bool.not_true,cond_false];by_cases h30:(30:Int)<(bs.length:Int);·rw[decide_eq_true h30,cond_true,dD,aw];rfl
  rw[decide_eq_false h30,cond_false,hv,ah];cases hz:((ckE 16 e 0).2 !=0)with
  |true=>rw[dD,cond_true,aw];rfl
  |false=>
   have hz':(ckE 16 e 0).2=0:=by simpa [bne]using hz
   have hT:=fun d hd=>Xp e d he (by omega) hz' (hdn d hd);have hbk:=fun d hd=>(hT d hd).nd.bulk;have hub:∀d∈docs,(nzV (evE e d)).bulk<=4300800:=fun d hd=>SF (hbk d hd);obtain⟨g,g1,g2⟩:=Vz 499999999996 bs docs e (by omega) (by omega) (by omega) hbw (Nat.succ 500000000000) 0 (decide ((2:Int)<=(bs.length:Int))) (aI _) (by omega);have g1:dD 500000000000 bs docs false e=jv 500000000000 bs docs g e:=by rw[dD,cond_false];exact g1
   have k4:=Vu 499999999997 docs e (evE e) (by omega) (by omega) (fun d hd=>(hT d hd).pr _ (by omega) (by omega)) (fun d hd d' hd'=>qR _ _ 499999999994 (by have:=hub d hd;omega) (by have:=hub d hd;omega));have k4:jF 500000000000 e docs=some (Jp (docs.map fun d=>nzV (evE e d))):=k4;obtain⟨S,s0,s1,s2,s3,s4⟩:=ae0 (docs.map fun d=>nzV (evE e d));rw[s0]at k4;rw[List.length_map]at s1 s4;have hlS:((cvN S).length:Int)=(S.length:Int):=by rw[cvN,List.length_map]
   have k5:=VA 500000000000 bs docs e g S (by omega) s3 (Nat.succ 500000000000) 0 (aI _) (by omega);have k5:qK 500000000000 bs docs g (cvN S) (S.length:Int) 0 e=iV 500000000000 bs docs g (cvN S) e:=k5;have k6:=aeZ 499999999994 S (by omega) (by omega) s2 (by omega);have k6:cO 500000000000 (cvN S)=some ((oW S:Nat):Int):=k6;have hbe:∀n:Nat,n=docs.length->(((n:Nat):Int)==(docs.length:Int))=true:=fun n h=>by rw[h];simp
   rw[g1,jv,k4,ah,hlS,k5,iV,k6,ah,hbe _ s1,cond_true];cases g with
   |false=>rw[Bool.not_false,cond_true,aw];rfl
   |    true=>
        obtain⟨a1,a2⟩:=g2 rfl;have a1:(2:Int)<=(bs.length:Int):=of_decide_eq_true a1;have ha:yt bs:=fun i hi=>a2 i (by omega) hi;have hcut:∀v∈docs.map (evE e),∃p,Cut bs v p:=fun v hv=>by obtain⟨d,hd,rfl⟩:=List.mem_map.1 hv;obtain⟨p,hp,_⟩:=akF 5000003 bs (evE e d) ha (by omega) (by omega) fun b hb=>qR b (evE e d) 5000000 (by have:=(hbw b hb).2;omega) (by have:=(hbw b hb).2;omega);exact⟨p,hp⟩
        have k7:=buP bs 499999999997 docs e (evE e) (by omega) (by omega) (by omega) (fun d hd=>(hT d hd).pr 499999999999 (by omega) (by omega)) (fun d hd b hb=>qR b (evE e d) 499999999995 (by have:=(hbw b hb).2;omega) (by have:=(hbw b hb).2;omega)) (fun a ha b hb=>qR a b 499999999996 (by have:=(hbw a ha).2;omega) (by have:=(hbw a ha).2;omega)) (fun b hb=>NQ 1048576 b (hbw b hb).2 (by omega) (hbw b hb).1 499999999998 (by omega));have k7:iP 500000000000 e bs docs=some (buS bs (docs.map (evE e))):=k7;obtain⟨G,q1,q2,q3,q4⟩:=aoG bs (docs.map (evE e)) (by omega) ha hcut;rw[List.length_map]at q2;have k8:=aeZ 499999999994 G (by omega) (by omega) q3 (by omega);have k8:cO 500000000000 (cvN G)=some ((oW G:Nat):Int):=k8;rw[Bool.not_true,cond_false,k7,ah,q1,k8,ah,hbe _ q2,cond_true,aw];rfl
theorem acK{ds:List Dt}(h:HasTys Tryz.prog Tryz.f5.params.toList ds)(hb:bulkL ds<=1048576):FX Tryz.prog 5 (aii Tryz.f5.params.toList ds) [] (.dat 4 (.bool true)) []:=by
 have h':HasTys Tryz.prog [29,23,23] ds:=h;match ds,h',hb with
 | [x,y,z],.cons h1 (.cons h2 (.cons h3 .nil)),hb=>
   obtain⟨e1,_,w1⟩:=Tt Tryz.underlying23 h2;obtain⟨e2,_,w2⟩:=Tt Tryz.underlying23 h3;rw[e1,e2]at hb ⊢
   simp only[bulkL,Dt.bulk]at hb;have l1:=jr y.toLst;have l2:=jr z.toLst;exact qQ 500000000000 (ct_ok 500000000000) _ _ _ _ (Ye x y.toLst z.toLst (aiy x.bulk x (aj _) h1) (by omega) (by omega) (fun d hd=>⟨abm (w1 d hd),by have:=kR hd;omega⟩) (by omega) (fun d hd=>⟨abm (w2 d hd),by have:=kR hd;omega⟩))
end Go.Proofs.YtmecfjhdnbgfeaaGreatDoor
namespace Go.Proofs.YtmecfjhdnbgfeaaGreatDoor
open Go.Am
mutual
def gv{H:Type}:DataW H->List Value
 | .lit (.int k m)=>[.int k m]
 | .lit (.bool b)=>[.bool b]
 | .lit (.string s)=>[.string ⟨s.toArray⟩]
 | .agg ds=>gvL ds
 |_=>[]
def gvL{H:Type}:List (DataW H)->List Value
 | []=>[]
 |d::r=>gv d++gvL r
end
section
variable{H:Type}{enc:TypeId×Value->H}{P:Program}{w:World}{base:Nat}{sp:Nat->Bool}{held:Bool}
def Told(enc:TypeId×Value->H)(P:Program)(w:World)(base:Nat)(sp:Nat->Bool)(held:Bool)(e:TypeId):Prop:=∀(fuel:Nat)(cs:List Value)(x:DataW H×List MemPlace),DataW.trod enc P w base sp held fuel e cs=some x->cs=gv x.1
theorem VB{e:TypeId}{k:IntKind}(he:P.underlying e=some (.int k)):Told enc P w base sp held e:=fun fuel cs x h=>by obtain⟨z,rfl,rfl,_⟩:=DataW.trod_int he h;rfl
theorem ae1{e f:TypeId}{F0 F1:Field}(hu:P.underlying e=some (.struct #[F0,F1]))(h0:F0.offset=0)(h1:F1.offset=1)(hf0:F0.type=f)(hf1:F1.type=f)(hc:P.cellsOf e=2)(hcf:P.cellsOf f=1)(hf:Told enc P w base sp held f):Told enc P w base sp held e:=fun fuel cs x h=>by
 obtain⟨xs,m,_,rfl,hlen,hxl,hget⟩:=DataW.trod_struct hu h;rw[hc]at hlen;match cs,hlen with
 | [a,b],_=>
   have hx2:xs.length=2:=hxl;match xs,hx2 with
   | [u,v],_=>
     have g0:=hget 0 F0 rfl;have g1:=hget 1 F1 rfl;rw[h0,hf0,hcf]at g0;rw[h1,hf1,hcf]at g1;have e0:=hf _ _ _ g0;have e1:=hf _ _ _ g1;show [a,b]=gv u.1++(gv v.1++[]);rw[←e0,←e1];rfl
theorem Z4{n s:Nat}:∀{ds:List (DataW H)}{cs:List Value},cs.length=ds.length*s->(∀i D,ds[i]? =some D->(cs.drop (i*s)).take s=gv D)->cs=gvL ds
 | [],cs,hl,_=>by have:cs=[]:=List.eq_nil_of_length_eq_zero (by simpa using hl);subst this;rfl
 | d::r,cs,hl,h=>by
   have h0:=h 0 d rfl;rw[Nat.zero_mul,aQ]at h0;have hl':cs.length=r.length*s+s:=by rw[hl,List.length_cons,Nat.succ_mul]
   have ih:=Z4 (n:=n) (s:=s) (ds:=r) (cs:=cs.drop s) (by rw[List.length_drop];omega) fun i D hD=>by have:=h (i+1) D (by simpa using hD);rw[List.drop_drop,show s+i*s=(i+1)*s by rw[Nat.succ_mul];omega];exact this
   show cs=gv d++gvL r;rw[←h0,←ih,List.take_append_drop]
theorem VD{t e:TypeId}{n:Nat}(ht:P.underlying t=some (.array n e))(hct:P.cellsOf t=n*P.cellsOf e)(he:Told enc P w base sp held e):Told enc P w base sp held t:=fun fuel cs x h=>by
 cases fuel with
 |zero=>simp[DataW.trod]at h
 |succ fuel=>
  simp only[DataW.trod,ht]at h;split at h
  ·rename_i hl;obtain⟨xs,hm,rfl⟩:=bn.1 h;have hxl:xs.length=n:=by simpa using Lib.mapM_length hm
   show cs=gvL (xs.map (·.1));refine Z4 (n:=n) (s:=P.cellsOf e) (by rw[List.length_map,hxl];omega) fun i D hD=>?_;rw[List.getElem?_map]at hD;obtain⟨y,hy,rfl⟩:=bn.1 hD;have hi:i<n:=by rw[←hxl];exact(au.1 hy).1
   obtain⟨b,hb,hf⟩:=Lib.mapM_at hm i i (by simp[hi]);rw[hy]at hb;cases hb;exact he _ _ _ hf
  ·cases h
end
theorem Az{P:Program}{W:World}:∀{l:List (String×DataW Unit)}{ps:List MemPlace}{name:String}{d:DataW Unit}{g:Nat}{t:TypeId},DataW.LaidVars P W l ps->(name,d)∈l->P.globalNamed name=some g->(P.globals[g]?).map (·.type)=some t->Told (fun _=>()) P W 0 (fun _=>true) false t->
  W.var? P name=some (gv d).toArray
 | [],ps,name,d,g,t,_,hm,_,_,_=>by cases hm
 |(n,d')::r,ps,name,d,g,t,h,hm,hg,hty,ht=>by
  obtain⟨g',t',cs,fuel,p,q,hg',ht',hvar,hd,hr,rfl⟩:=h;rcases List.mem_cons.1 hm with e|hm
  ·cases e;obtain rfl:=Option.some.inj (hg.symm.trans hg');obtain rfl:=Option.some.inj (hty.symm.trans ht');have:=ht _ _ _ hd;rw[hvar,←this]
  ·exact Az hr hm hg hty ht
theorem EY{P:Program}{W:World}{name:String}{g:Nat}{cs:Array Value}(hg:P.globalNamed name=some g)(h:W.var? P name=some cs):∃(T:TypeId)(fr:Nat×Nat),W.heap[g]? =some (.cells cs T fr):=by
 unfold World.var? at h;rw[hg]at h;simp only[ah]at h;cases hb:W.heap[g]? with
 |none=>rw[hb]at h;simp at h
 |some o=>
  rw[hb]at h;cases o with
  |cells c T fr=>simp only[aH]at h;subst h;exact⟨T,fr,rfl⟩
  |_=>simp at h
theorem ajA{W:World}{g:Nat}{cs:List Value}(h:∃(T:TypeId)(fr:Nat×Nat),W.heap[g]? =some (.cells cs.toArray T fr)):g<W.heap.size∧∃(T:TypeId)(fr:Nat×Nat),W.heap[g]? =some (.cells cs.toArray T fr):=by refine⟨?_,h⟩;obtain⟨T,fr,h⟩:=h;exact(Array.getElem?_eq_some_iff.1 h).1
noncomputable def VF:List (String×DataW Unit):=[("unicode/utf8.acceptRanges",Rows.laid_unicode_utf8_acceptRanges),("unicode/utf8.first",Rows.laid_unicode_utf8_first)]
noncomputable def aqt:List (String×DataW Unit×Nat):=[("unicode/utf8.first",Rows.laid_unicode_utf8_first,1),("unicode/utf8.acceptRanges",Rows.laid_unicode_utf8_acceptRanges,2)]
set_option maxRecDepth 100000 in
theorem ajB:tabs=aqt.map fun q=>(q.2.2,gv q.2.1):=by kernel_rfl
section
variable{W:World}
theorem Yf:Told (fun _=>()) Tryz.prog W 0 (fun _=>true) false 227:=VD Tryz.underlying227 (by kernel_rfl) (VB Tryz.underlying5)
theorem ae2:Told (fun _=>()) Tryz.prog W 0 (fun _=>true) false 230:=VD Tryz.underlying230 (by kernel_rfl) (ae1 (f:=5) Tryz.underlying229 rfl rfl rfl rfl (by kernel_rfl) (by kernel_rfl) (VB Tryz.underlying5))
set_option maxRecDepth 100000 in
theorem VG(h:laidMetH Tryz.prog VF W):TabOK (fun b=>b<W.heap.size) W:=by
 rw[Go.MakeChecks.laidMetH_plain _ _ _ (by kernel_rfl)]at h;obtain⟨ps,hl,_⟩:=h;refine⟨?_,fun g hg=>by have hg':g∈([]:List Nat):=hg;cases hg'⟩;intro t ht;rw[ajB]at ht;obtain⟨q,hq,rfl⟩:=List.mem_map.1 ht;have key:∃(T:TypeId)(fr:Nat×Nat),W.heap[q.2.2]? =some (.cells (gv q.2.1).toArray T fr):=by
  have hq':q∈[("unicode/utf8.first",Rows.laid_unicode_utf8_first,1),("unicode/utf8.acceptRanges",Rows.laid_unicode_utf8_acceptRanges,2)]:=hq;rcases List.mem_cons.1 hq' with rfl|hq';·exact EY (by kernel_rfl) (Az hl (g:=1) (t:=227) (.tail _ (.head _)) (by kernel_rfl) (by kernel_rfl) Yf)
  rcases List.mem_cons.1 hq' with rfl|hq';·exact EY (by kernel_rfl) (Az hl (g:=2) (t:=230) (.head _) (by kernel_rfl) (by kernel_rfl) ae2)
  cases hq'
 exact ajA key
end
noncomputable def oZ(os:Os):World:=
 let w0:=World.holding Tryz.prog os ⟨#[],#[],[]⟩
 let put (h:Array Obj) (g:Nat) (cs:List Value):Array Obj:=h.modify g fun
  | .cells _ t frozen=> .cells cs.toArray t frozen
  |o=>o
 let h1:=put w0.heap 2 (gv (H:=Unit) Rows.laid_unicode_utf8_acceptRanges)
 let h2:=put h1 1 (gv Rows.laid_unicode_utf8_first)
 {w0 with heap:=h2}
set_option maxRecDepth 100000 in
theorem PW(os:Os)(args:Array Value):laidMet Tryz.prog VF ((oZ os).forCall (fun _ _=>0) ⟨#[],args,[]⟩).memory:=
 (LaidIn.of_run (l:=VF) [2,1] 8 (by kernel_rfl) (by kernel_rfl) (by kernel_rfl) (by kernel_rfl)).met
