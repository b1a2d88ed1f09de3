/- Well-formed values: the program gives the fields new names and tests the value that comes out; this is the reference's test.
Well-formed values,continued:the program's test is the reference's.
Well-formed values:the reference's test. -/
import Derived.Test.YtmejbpmceflcjaaGreatDoorMC
set_option linter.unusedVariables false
set_option linter.unusedSimpArgs false
namespace Go.Proofs.YtmejbpmceflcjaaGreatDoor
open Go.Am
theorem nbne (s:ByteArray):(!(s.toList==[]))=decide (1≤s.size):=by
 rw[ByteArray.toList_eq]
 by_cases h:1≤s.size
 ·have h1:s.data.toList≠[]:=fun e=>by have:=lenB s;rw[e] at this;simp at this;omega
  rw[decide_eq_true h]
  cases hd:s.data.toList with
  |nil=>exact absurd hd h1
  |cons a b=>rfl
 ·have h1:s.data.toList=[]:=List.eq_nil_of_length_eq_zero (by rw[lenB];omega)
  rw[h1,decide_eq_false h];rfl
theorem isField_loop (m:Nat) (s:ByteArray) (hs:s.size<9223372036854775807):∀(M i:Nat),i≤s.size→s.size-i<M→notation_isField_l1 m M s (s.size:Int) (i:Int)=some ((s.data.toList.drop i).all okW&&decide (1≤s.size))
 |0,i,_,h=>by omega
 |M+1,i,hi,h=>by
  simp only[notation_isField_l1,dlt]
  by_cases hlt:i<s.size
  ·rw[getB s i hlt]
   simp only[hlt,decide_true,cond_true,notation_isField_j4,notation_isField_j3,notation_isField_j2,notation_isField_j5,notation_isField_j0,idxS_lt hlt,Option.bind_some,wrapS (show i<9223372036854775807 by omega),isField_loop m s hs M (i+1) (by omega) (by omega),List.all_cons,okW]
   cases decide (((s[i]).toNat:Int)<32)<;>cases decide ((126:Int)<((s[i]).toNat:Int))<;>rfl
  ·have:i=s.size:=by omega
   subst this
   rw[List.drop_eq_nil_of_le (by rw[lenB];omega)]
   simp only[hlt,decide_false,cond_false,notation_isField_j4,notation_isField_j3,notation_isField_j2,notation_isField_j5,notation_isField_j0,List.all_nil,Bool.true_and,nbne]
theorem isField_eq (m:Nat) (s:ByteArray) (hm:s.size≤m) (hs:s.size<9223372036854775807):notation_isField (m+1) s=some (s.data.toList.all okW&&decide (1≤s.size)):=by
 have:=isField_loop m s hs (m+1) 0 (by omega) (by omega)
 rw[List.drop_zero] at this
 simp only[notation_isField,notation_isField_j4,notation_isField_j3,notation_isField_j2,notation_isField_j5,notation_isField_j0]
 exact this
theorem fld_wd (s:ByteArray):(!(decide ((128:Int)<(s.size:Int)))&&(s.data.toList.all okW&&decide (1≤s.size)))=wd s:=by
 have d2:(!(decide ((128:Int)<(s.size:Int))))=decide (s.size≤128):=by rw[Bool.eq_iff_iff];simp;omega
 unfold wd
 rw[d2]
 cases decide (1≤s.size)<;>cases decide (s.size≤128)<;>cases s.data.toList.all okW<;>rfl
def setL3 (d:Dt) (l:List Dt):Dt:= .agg [.int (Dt.I d 0),.int (Dt.I d 1),.str (Dt.S d 2),.lst l,.lst (Dt.L d 4)]
def setL4 (d:Dt) (l:List Dt):Dt:= .agg [.int (Dt.I d 0),.int (Dt.I d 1),.str (Dt.S d 2),.lst (Dt.L d 3),.lst l]
def renFs (g:Dt→Dt):Nat→List Dt→List Dt
 |_,[]=>[]
 |i,f::r=> .agg [.str (strI i),g (Dt.fld f 1)]::renFs g (i+1) r
theorem renFs_len (g:Dt→Dt):∀(L:List Dt) (i:Nat),(renFs g i L).length=L.length
 | [],_=>rfl
 |f::r,i=>by simp only[renFs,List.length_cons,renFs_len g r (i+1)]
theorem renFs_get (g:Dt→Dt):∀(L:List Dt) (i k:Nat) (h:k<L.length) (h':k<(renFs g i L).length),(renFs g i L)[k]= .agg [.str (strI (i+k)),g (Dt.fld L[k] 1)]
 |f::r,i,0,_,_=>rfl
 |f::r,i,k+1,h,h'=>by
  have:=renFs_get g r (i+1) k (by simpa using h) (by rw[renFs_len];simpa using h)
  show (renFs g (i+1) r)[k]'(by rw[renFs_len];simpa using h)=_
  rw[this,show i+1+k=i+(k+1) by omega]
  rfl
def renF:Nat→Dt→Dt
 |0,d=>d
 |n+1,d=>bif Dt.I d 0==6 then setL3 d ((Dt.L d 3).map (renF n)) else bif Dt.I d 0==5 then setL4 d (renFs (renF n) 0 (Dt.L d 4)) else d
def rokF:Nat→Dt→Bool
 |0,_=>false
 |n+1,d=>bif Dt.I d 0==6 then(Dt.L d 3).all (rokF n) else bif Dt.I d 0==5 then fl wd (rokF n) [] (Dt.L d 4) else true
end Go.Proofs.YtmejbpmceflcjaaGreatDoor
namespace Go.Proofs.YtmejbpmceflcjaaGreatDoor
open Go.Am
def okF (d:Dt):Bool:=decide (nds d≤1024)&&decide (dpt d≤16)&&sndF wd d.bulk d
theorem fl_congr (p:ByteArray→Bool) {g g':Dt→Bool}:∀{L:List Dt} (seen:List ByteArray),(∀f∈L,g (Dt.fld f 1)=g' (Dt.fld f 1))→fl p g seen L=fl p g' seen L
 | [],_,_=>rfl
 |f::r,seen,h=>by
  simp only[fl,h f (List.mem_cons_self ..),fl_congr p (L:=r) (seen++[Dt.S f 0]) fun x hx=>h x (List.mem_cons_of_mem _ hx)]
theorem all_congr' {g g':Dt→Bool}:∀{L:List Dt},(∀e∈L,g e=g' e)→L.all g=L.all g'
 | [],_=>rfl
 |e::r,h=>by simp only[List.all_cons,h e (List.mem_cons_self ..),all_congr' (L:=r) fun x hx=>h x (List.mem_cons_of_mem _ hx)]
theorem sndF_fuel (p:ByteArray→Bool):∀(n n':Nat) (d:Dt),WV d→d.bulk≤n→d.bulk≤n'→sndF p n d=sndF p n' d
 |0,_,d,_,h,_=>by have:=bulk_pos d;omega
 |_+1,0,d,_,_,h=>by have:=bulk_pos d;omega
 |n+1,n'+1,d,hw,h,h'=>by
  obtain⟨p1,p2,p3,p4⟩:=wv_parts hw
  simp only[sndF]
  rw[all_congr' (L:=Dt.L d 3) fun e he=>sndF_fuel p n n' e (p3 e he).1 (by have:=(p3 e he).2;omega) (by have:=(p3 e he).2;omega),
   fl_congr p (L:=Dt.L d 4) [] fun f hf=>sndF_fuel p n n' _ (p4 f hf).1 (by have:=(p4 f hf).2;omega) (by have:=(p4 f hf).2;omega)]
theorem fl_ren (s:Dt→Bool) (g:Dt→Dt):∀(L:List Dt) (i:Nat) (seen:List ByteArray),i+L.length<10000→(∀t∈seen,∃j,j<i∧t=strI j)→fl nm s seen (renFs g i L)=L.all fun f=>s (g (Dt.fld f 1))
 | [],_,_,_,_=>rfl
 |f::r,i,seen,h,hs=>by
  rw[List.length_cons] at h
  have e1:seen.any (eqb (strI i))=false:=by
   rw[List.any_eq_false]
   intro t ht he
   obtain⟨j,hj,rfl⟩:=hs t ht
   have:=strI_inj ((eqb_iff _ _).1 he)
   omega
  have ih:=fl_ren s g r (i+1) (seen++[strI i]) (by omega) fun t ht=>by
   rcases List.mem_append.1 ht with ht|ht
   ·    obtain⟨j,hj,e⟩:=hs t ht
        exact⟨j,by omega,e⟩
   ·    rw[List.mem_singleton] at ht
        exact⟨i,by omega,ht⟩
  simp only[renFs,fl,List.all_cons]
  show (nm (strI i)&&!(seen.any (eqb (strI i)))&&s (g (Dt.fld f 1))&&fl nm s (seen++[strI i]) (renFs g (i+1) r))=_
  rw[nm_strI i (by omega),e1,ih]
  rfl
theorem fl_and (p:ByteArray→Bool) (ok:Dt→Bool) (t:Dt→Bool):∀(L:List Dt) (seen:List ByteArray),(fl p ok seen L&&L.all fun f=>t (Dt.fld f 1))=fl p (fun v=>ok v&&t v) seen L
 | [],_=>rfl
 |f::r,seen=>by
  simp only[fl,List.all_cons,←fl_and p ok t r (seen++[Dt.S f 0])]
  cases p (Dt.S f 0)<;>cases seen.any (eqb (Dt.S f 0))<;>cases ok (Dt.fld f 1)<;>cases t (Dt.fld f 1)<;>cases fl p ok (seen++[Dt.S f 0]) r<;>cases (r.all fun f=>t (Dt.fld f 1))<;>rfl
theorem all_and (ok t:Dt→Bool):∀L:List Dt,(L.all ok&&L.all t)=L.all fun v=>ok v&&t v
 | []=>rfl
 |e::r=>by
  simp only[List.all_cons,←all_and ok t r]
  cases ok e<;>cases t e<;>cases r.all ok<;>cases r.all t<;>rfl
theorem sum_mem (f:Dt→Nat):∀{L:List Dt} {e:Dt},e∈L→f e≤(L.map f).sum
 |a::r,e,h=>by
  simp only[List.map_cons,List.sum_cons]
  rcases List.mem_cons.1 h with rfl|h
  ·omega
  ·have:=sum_mem f h;omega
theorem sum_len (f:Dt→Nat):∀{L:List Dt},(∀e∈L,1≤f e)→L.length≤(L.map f).sum
 | [],_=>by simp
 |a::r,h=>by
  have h1:=h a (List.mem_cons_self ..)
  have h2:=sum_len f (L:=r) fun x hx=>h x (List.mem_cons_of_mem _ hx)
  simp only[List.map_cons,List.sum_cons,List.length_cons]
  omega
theorem nds_part {d:Dt} (hw:WV d):(prts d).length<nds d∧∀e∈prts d,nds e<nds d:=by
 have h:=nds_eq hw
 refine⟨?_,fun e he=>?_⟩
 ·have:=sum_len nds (L:=prts d) fun e he=>nds_pos (prts_wv hw e he).1
  omega
 ·have:=sum_mem nds he
  omega
theorem prts6 {d:Dt} (h:(Dt.I d 0==6)=true):prts d=Dt.L d 3:=by unfold prts;rw[h];rfl
theorem prts5 {d:Dt} (h6:(Dt.I d 0==6)=false) (h:(Dt.I d 0==5)=true):prts d=(Dt.L d 4).map (·.fld 1):=by unfold prts;rw[h6,h];rfl
theorem len_shp {l l':List Dt} (h:l.length=l'.length):decide ((0:Int)<(l.length:Int))=decide ((0:Int)<(l'.length:Int)):=by rw[h]
theorem sndF_6 (p:ByteArray→Bool) (n:Nat) (d:Dt) (h:Dt.I d 0=6):sndF p (n+1) d=(shp d&&(Dt.L d 3).all (sndF p n)):=by
 simp only[sndF,h];rfl
theorem sndF_5 (p:ByteArray→Bool) (n:Nat) (d:Dt) (h:Dt.I d 0=5):sndF p (n+1) d=(shp d&&fl p (sndF p n) [] (Dt.L d 4)):=by
 simp only[sndF,h];rfl
theorem wf_main:∀(N N':Nat) (d:Dt),N≤N'→d.bulk≤N→WV d→nds d<9000→(rokF N d&&sndF nm N' (renF N d))=sndF wd N d
 |0,_,d,_,h,_,_=>by have:=bulk_pos d;omega
 |N+1,0,d,hN,_,_,_=>by omega
 |N+    1,N'+1,d,hN,h,hw,hn=>by
  obtain⟨p1,p2,p3,p4⟩:=wv_parts hw
  obtain⟨q1,q2⟩:=nds_part hw
  have ih:∀e∈prts d,(rokF N e&&sndF nm N' (renF N e))=sndF wd N e:=fun e he=>wf_main N N' e (by omega) (by have:=(prts_wv hw e he).2;omega) (prts_wv hw e he).1 (by have:=q2 e he;omega)
  simp only[rokF,renF]
  cases h6:(Dt.I d 0==6)
  ·cases h5:(Dt.I d 0==5)
   ·simp only[cond_false,Bool.true_and,sndF,h6,h5]
   ·    have hp:=prts5 h6 h5
        rw[hp] at ih q1
        rw[List.length_map] at q1
        simp only[cond_false,cond_true]
        have e0:Dt.I (setL4 d (renFs (renF N) 0 (Dt.L d 4))) 0=Dt.I d 0:=rfl
        have e1:Dt.I (setL4 d (renFs (renF N) 0 (Dt.L d 4))) 1=Dt.I d 1:=rfl
        have e2:Dt.S (setL4 d (renFs (renF N) 0 (Dt.L d 4))) 2=Dt.S d 2:=rfl
        have e3:Dt.L (setL4 d (renFs (renF N) 0 (Dt.L d 4))) 3=Dt.L d 3:=rfl
        have e4:Dt.L (setL4 d (renFs (renF N) 0 (Dt.L d 4))) 4=renFs (renF N) 0 (Dt.L d 4):=rfl
        have es:shp (setL4 d (renFs (renF N) 0 (Dt.L d 4)))=shp d:=by
         unfold shp
         rw[e0,e1,e2,e3,e4,len_shp (renFs_len (renF N) (Dt.L d 4) 0)]
        have k5:Dt.I d 0=5:=by simpa using h5
        rw[sndF_5 nm N' (setL4 d (renFs (renF N) 0 (Dt.L d 4))) k5,sndF_5 wd N d k5,es,e4]
        have hfr:=fl_ren (sndF nm N') (renF N) (Dt.L d 4) 0 [] (by omega) (fun t ht=>by cases ht)
        rw[hfr]
        have hfa:=fl_and wd (rokF N) (fun v=>sndF nm N' (renF N v)) (Dt.L d 4) []
        have hfc:=fl_congr wd (g:=fun v=>rokF N v&&sndF nm N' (renF N v)) (g':=sndF wd N) (L:=Dt.L d 4) [] fun f hf=>ih _ (List.mem_map.2 ⟨f,hf,rfl⟩)
        rw[←hfc,←hfa]
        show (fl wd (rokF N) [] (Dt.L d 4)&&(shp d&&(Dt.L d 4).all fun f=>sndF nm N' (renF N (Dt.fld f 1))))=(shp d&&(fl wd (rokF N) [] (Dt.L d 4)&&(Dt.L d 4).all fun f=>sndF nm N' (renF N (Dt.fld f 1))))
        cases shp d<;>cases fl wd (rokF N) [] (Dt.L d 4)<;>rfl
  ·have hp:=prts6 h6
   rw[hp] at ih q1
   simp only[cond_true]
   have e0:Dt.I (setL3 d ((Dt.L d 3).map (renF N))) 0=Dt.I d 0:=rfl
   have e1:Dt.I (setL3 d ((Dt.L d 3).map (renF N))) 1=Dt.I d 1:=rfl
   have e2:Dt.S (setL3 d ((Dt.L d 3).map (renF N))) 2=Dt.S d 2:=rfl
   have e3:Dt.L (setL3 d ((Dt.L d 3).map (renF N))) 3=(Dt.L d 3).map (renF N):=rfl
   have e4:Dt.L (setL3 d ((Dt.L d 3).map (renF N))) 4=Dt.L d 4:=rfl
   have es:shp (setL3 d ((Dt.L d 3).map (renF N)))=shp d:=by
        unfold shp
        rw[e0,e1,e2,e3,e4,len_shp (show ((Dt.L d 3).map (renF N)).length=(Dt.L d 3).length from List.length_map ..)]
   have k6:Dt.I d 0=6:=by simpa using h6
   rw[sndF_6 nm N' (setL3 d ((Dt.L d 3).map (renF N))) k6,sndF_6 wd N d k6,es,e3]
   have ha:=all_and (rokF N) (fun v=>sndF nm N' (renF N v)) (Dt.L d 3)
   have hc:=all_congr' (g:=fun v=>rokF N v&&sndF nm N' (renF N v)) (g':=sndF wd N) (L:=Dt.L d 3) fun e he=>ih e he
   rw[←hc,←ha,List.all_map]
   show ((Dt.L d 3).all (rokF N)&&(shp d&&(Dt.L d 3).all fun e=>sndF nm N' (renF N e)))=(shp d&&((Dt.L d 3).all (rokF N)&&(Dt.L d 3).all fun e=>sndF nm N' (renF N e)))
   cases shp d<;>cases (Dt.L d 3).all (rokF N)<;>rfl
theorem bulkL_app':∀a b:List Dt,Dt.bulkL (a++b)=Dt.bulkL a+Dt.bulkL b
 | [],b=>by simp[Dt.bulkL]
 |x::a,b=>by have:=bulkL_app' a b;simp only[List.cons_append,Dt.bulkL];omega
theorem bulk_map (g:Dt→Dt):∀{L:List Dt},(∀e∈L,(g e).bulk≤13*e.bulk)→Dt.bulkL (L.map g)≤13*Dt.bulkL L
 | [],_=>by simp[Dt.bulkL]
 |e::r,h=>by
  have h1:=h e (List.mem_cons_self ..)
  have h2:=bulk_map g (L:=r) fun x hx=>h x (List.mem_cons_of_mem _ hx)
  simp only[List.map_cons,Dt.bulkL];omega
theorem bulk_renFs (g:Dt→Dt):∀{L:List Dt} (i:Nat),i+L.length<1000000000000→(∀f∈L,WF f)→(∀f∈L,(g (Dt.fld f 1)).bulk≤13*(Dt.fld f 1).bulk)→Dt.bulkL (renFs g i L)≤13*Dt.bulkL L
 | [],_,_,_,_=>by simp[renFs,Dt.bulkL]
 |f ::r,i,hi,hf,h=>by
  rw[List.length_cons] at hi
  have h1:=h f (List.mem_cons_self ..)
  have h2:=bulk_renFs g (L:=r) (i+1) (by omega) (fun x hx=>hf x (List.mem_cons_of_mem _ hx)) fun x hx=>h x (List.mem_cons_of_mem _ hx)
  have h3:=strI_size i (by omega)
  cases hf f (List.mem_cons_self ..) with
  | @mk s v hv=>
    have e:Dt.fld (.agg [.str s,v]) 1=v:=rfl
    rw[e] at h1
    simp only[renFs,Dt.bulkL,bulk_fld,e]
    omega
theorem ren_facts:∀(N:Nat) (d:Dt),d.bulk≤N→N<1000000000000→WV d→WV (renF N d)∧nds (renF N d)=nds d∧dpt (renF N d)=dpt d∧(renF N d).bulk≤13*d.bulk
 |0,d,h,_,_=>by have:=bulk_pos d;omega
 |N+    1,d,  h,hN,hw=>by
  have ih:∀e∈prts d,WV (renF N e)∧nds (renF N e)=nds e∧dpt (renF N e)=dpt e∧(renF N e).bulk≤13*e.bulk:=fun e he=>ren_facts N e (by have:=(prts_wv hw e he).2;omega) (by omega) (prts_wv hw e he).1
  have key:∀r:Dt,WV r→prts r=(prts d).map (renF N)→nds r=nds d∧dpt r=dpt d:=fun r hr hp=>by
   rw[nds_eq hr,nds_eq hw,dpt_eq hr,dpt_eq hw,hp,mx_map,List.map_map]
   refine⟨?_,?_⟩
   ·    congr 2
        exact List.map_congr_left fun e he=>(ih e he).2.1
   ·    congr 1
        exact mx_congr fun e he=>(ih e he).2.2.1
  simp only[renF]
  cases h6:(Dt.I d 0==6)
  ·cases   h5:(Dt.I d 0==5)
   ·    simp only[cond_false]
        refine⟨hw,?_,?_,by omega⟩<;>trivial
   ·    have hp:=prts5 h6 h5
        simp only[cond_false,cond_true]
        rw[hp] at ih
        cases hw with
        | @mk k i t l ds hl hd=>
          have e4:Dt.L (.agg [.int k,.int i,.str t,.lst l,.lst ds]) 4=ds:=rfl
          rw[e4] at ih hp ⊢
          have hwr:WV (setL4 (.agg [.int k,.int i,.str t,.lst l,.lst ds]) (renFs (renF N) 0 ds)):=by
           refine .mk hl fun f hf=>?_
           obtain⟨j,hj,rfl⟩:=List.getElem_of_mem hf
           rw[renFs_get _ _ _ _ (by rw[renFs_len] at hj;exact hj)]
           exact .mk (ih _ (List.mem_map.2 ⟨_,List.getElem_mem _,rfl⟩)).1
          have hpr:prts (setL4 (.agg [.int k,.int i,.str t,.lst l,.lst ds]) (renFs (renF N) 0 ds))=(prts (.agg [.int k,.int i,.str t,.lst l,.lst ds])).map (renF N):=by
           have e6':(Dt.I (setL4 (.agg [.int k,.int i,.str t,.lst l,.lst ds]) (renFs (renF N) 0 ds)) 0==6)=false:=h6
           have e5':(Dt.I (setL4 (.agg [.int k,.int i,.str t,.lst l,.lst ds]) (renFs (renF N) 0 ds)) 0==5)=true:=h5
           rw[hp,prts5 e6' e5']
           show (renFs (renF N) 0 ds).map (·.fld 1)=(ds.map (·.fld 1)).map (renF N)
           have gen:∀(L:List Dt) (i:Nat),(renFs (renF N) i L).map (·.fld 1)=(L.map (·.fld 1)).map (renF N):=by
              intro L
              induction L with
              |nil=>intro i;rfl
              |cons f r ih2=>intro i;simp only[renFs,List.map_cons,ih2 (i+1)];rfl
           exact gen ds 0
          obtain⟨k1,k2⟩:=key _ hwr hpr
          refine⟨hwr,k1,k2,?_⟩
          have hb:=bulk_renFs (renF N) (L:=ds) 0 (by have:=len_bulk ds;rw[bulk_val] at h;omega) hd fun f hf=>(ih _ (List.mem_map.2 ⟨f,hf,rfl⟩)).2.2.2
          have e:setL4 (.agg [.int k,.int i,.str t,.lst l,.lst ds]) (renFs (renF N) 0 ds)= .agg [.int k,.int i,.str t,.lst l,.lst (renFs (renF N) 0 ds)]:=rfl
          rw[e,bulk_val,bulk_val]
          omega
  ·have hp:=prts6 h6
   simp only[cond_true]
   rw[hp] at ih
   cases hw with
   |    @mk k i t l ds hl hd=>
        have e3:Dt.L (.agg [.int k,.int i,.str t,.lst l,.lst ds]) 3=l:=rfl
        rw[e3] at ih hp ⊢
        have hwr:WV (setL3 (.agg [.int k,.int i,.str t,.lst l,.lst ds]) (l.map (renF N))):=by
          refine .mk (fun e he=>?_) hd
          obtain⟨x,hx,rfl⟩:=List.mem_map.1 he
          exact(ih x hx).1
        have hpr:prts (setL3 (.agg [.int k,.int i,.str t,.lst l,.lst ds]) (l.map (renF N)))=(prts (.agg [.int k,.int i,.str t,.lst l,.lst ds])).map (renF N):=by
          have e6':(Dt.I (setL3 (.agg [.int k,.int i,.str t,.lst l,.lst ds]) (l.map (renF N))) 0==6)=true:=h6
          rw[hp,prts6 e6']
          rfl
        obtain⟨k1,k2⟩:=key _ hwr hpr
        refine⟨hwr,k1,k2,?_⟩
        have hb:=bulk_map (renF N) (L:=l) fun e he=>(ih e he).2.2.2
        have e:setL3 (.agg [.int k,.int i,.str t,.lst l,.lst ds]) (l.map (renF N))= .agg [.int k,.int i,.str t,.lst (l.map (renF N)),.lst ds]:=rfl
        rw[e,bulk_val,bulk_val]
        omega
end Go.Proofs.YtmejbpmceflcjaaGreatDoor
namespace Go.Proofs.YtmejbpmceflcjaaGreatDoor
open Go.Am
theorem label_loop (m:Nat) (s:ByteArray) (hs:s.size<9223372036854775807):∀(M i:Nat),i≤s.size→s.size-i<M→ref05_Label_l1 m M s (i:Int)=some ((s.data.toList.drop i).all okW&&(decide (1≤s.size)&&decide (s.size≤128)))
 |0,i,_,h=>by omega
 |M+1,i,hi,h=>by
  simp only[ref05_Label_l1,dlt]
  by_cases hlt:i<s.size
  ·rw[getB s i hlt]
   simp only[hlt,decide_true,cond_true,ref05_Label_j4,ref05_Label_j3,ref05_Label_j2,ref05_Label_j5,ref05_Label_j0,idxS_lt hlt,Option.bind_some,wrapS (show i<9223372036854775807 by omega),label_loop m s hs M (i+1) (by omega) (by omega),List.all_cons,okW]
   cases decide (((s[i]).toNat:Int)<32)<;>cases decide ((126:Int)<((s[i]).toNat:Int))<;>rfl
  ·have:i=s.size:=by omega
   subst this
   rw[List.drop_eq_nil_of_le (by rw[lenB];omega)]
   have d1:decide ((1:Int)≤(s.size:Int))=decide (1≤s.size):=dle (i:=1)
   have d2:decide ((s.size:Int)≤128)=decide (s.size≤128):=dle (j:=128)
   simp only[hlt,decide_false,cond_false,ref05_Label_j4,ref05_Label_j3,ref05_Label_j2,ref05_Label_j5,ref05_Label_j0,d1,d2,List.all_nil,Bool.true_and]
   cases decide (1≤s.size)<;>rfl
theorem label_eq (m:Nat) (s:ByteArray) (hm:s.size≤m) (hs:s.size<9223372036854775807):ref05_Label (m+1) s=some (wd s):=by
 have:=label_loop m s hs (m+1) 0 (by omega) (by omega)
 rw[List.drop_zero] at this
 simp only[ref05_Label,ref05_Label_j4,ref05_Label_j3,ref05_Label_j2,ref05_Label_j5,ref05_Label_j0]
 refine Eq.trans this ?_
 unfold wd
 cases decide (1≤s.size)<;>cases decide (s.size≤128)<;>cases s.data.toList.all okW<;>rfl
def bare (d:Dt):Dt:= .agg [.int (Dt.I d 0),.int (Dt.I d 1),.str (Dt.S d 2),.lst [],.lst []]
theorem bare_wv (d:Dt):WV (bare d):= .mk (fun _ h=>by cases h) (fun _ h=>by cases h)
theorem bare_prts (d:Dt):prts (bare d)=[]:=by
 unfold prts
 show (bif Dt.I d 0==6 then[] else bif Dt.I d 0==5 then[] else[])=[]
 cases (Dt.I d 0==6)<;>cases (Dt.I d 0==5)<;>rfl
theorem bare_bulk (d:Dt):(bare d).bulk=(Dt.S d 2).size+6:=by
 unfold bare
 rw[bulk_val]
 simp[Dt.bulkL]
theorem bare_okV (d:Dt):okV (bare d)=sndF nm 1 (bare d):=by
 have h1:nds (bare d)=1:=by rw[nds_eq (bare_wv d),bare_prts];rfl
 have h2:dpt (bare d)=1:=by rw[dpt_eq (bare_wv d),bare_prts];rfl
 unfold okV
 rw[h1,h2,bare_bulk]
 show (decide (1≤1024)&&decide (1≤16)&&sndF nm ((Dt.S d 2).size+5+1) (bare d))=_
 simp only[sndF]
 rfl
end Go.Proofs.YtmejbpmceflcjaaGreatDoor
