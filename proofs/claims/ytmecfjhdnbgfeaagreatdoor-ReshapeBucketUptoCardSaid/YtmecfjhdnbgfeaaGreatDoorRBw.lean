/- The law: Bucket. -/
import Derived.Test.YtmecfjhdnbgfeaaGreatDoorRB
import Derived.Test.YtmecfjhdnbgfeaaGreatDoorEE
import Derived.Test.YtmecfjhdnbgfeaaGreatDoorRA
import Derived.Test.YtmecfjhdnbgfeaaGreatDoorFx
set_option linter.unusedVariables false
set_option linter.unusedSimpArgs false
namespace Go.Proofs.YtmecfjhdnbgfeaaGreatDoor
open Go.Am
theorem vd1 (m:Nat) (d:Dt) (hw:WV d) (hb:d.bulk≤1048576) (hm:3000000≤m) (hm2:m<9223372036854775000):∃b,jZ (m+5) d=some b∧(b=false→Nd d):=by
 rw[jZ]
 cases h5:(Dt.I d 0 !=5)
 ·rw[cond_false,Cc hw m (by omega) (by omega) (by omega),Option.bind_some]
  exact⟨_,rfl,fun h=> .inr ⟨hw,by simpa using h⟩⟩
 ·exact⟨true,rfl,fun h=>by cases h⟩
theorem abW (m:Nat) (docs:List Dt) (hl:docs.length≤1048576) (hw:∀d∈docs,WV d∧d.bulk≤1048576) (hm:3000000≤m) (hm2:m<9223372036854775000):∀(M i:Nat),i≤docs.length→docs.length-i<M→
  ∃r:Int,K3 (m+5) M docs (docs.length:Int) (i:Int)=some r∧(decide (0≤r)=false→∀d∈docs.drop i,Nd d)
 |0,i,_,h=>by omega
 |M+    1,i,hi,h=>by
  simp only[K3,dlt]
  by_cases hlt:i<docs.length
  ·obtain⟨w1,w2⟩:=hw _ (List.getElem_mem hlt)
   obtain⟨b,b1,b2⟩:=vd1 m docs[i] w1 w2 hm hm2
   obtain⟨r,r1,r2⟩:=abW m docs hl hw hm hm2 M (i+1) (by omega) (by omega)
   simp only[hlt,decide_true,cond_true,aC hlt,Option.bind_some,b1,aM (show i<9223372036854775807 by omega)]
   cases b with
   |true=>exact⟨(i:Int),rfl,fun h=>by rw[decide_eq_true (by omega)] at h;cases h⟩
   |    false=>
        refine⟨r,r1,fun h d hd=>?_⟩
        rw[List.drop_eq_getElem_cons hlt] at hd
        rcases List.mem_cons.1 hd with rfl|hd
        ·exact b2 rfl
        ·exact r2 h d hd
  ·have e:i=docs.length:=by omega
   subst e
   exact⟨-1,by simp[],fun _ d hd=>by simp at hd⟩
theorem adr (m:Nat) (docs:List Dt) (hl:docs.length≤1048576) (hw:∀d∈docs,WV d∧d.bulk≤1048576) (hm:3000000≤m) (hm2:m<9223372036854775000):∃b,lM (m+8) docs=some b∧(b=true→docs.length≤30∧∀d∈docs,Nd d):=by
 rw[lM]
 by_cases h30:((docs.length:Nat):Int)≤30
 ·obtain⟨r,r1,r2⟩:=abW m docs hl hw hm hm2 (m+6) 0 (Nat.zero_le _) (by omega)
  have h9:i11 (m+6) docs=some r:=r1
  rw[decide_eq_true h30,cond_true,i10,h9,Option.bind_some,Option.bind_some]
  refine⟨_,rfl,fun h=>⟨by omega,fun d hd=>r2 (by simpa using h) d (by simpa using hd)⟩⟩
 ·rw[decide_eq_false h30]
  exact⟨false,rfl,fun h=>by cases h⟩
theorem abX (m:Nat) (bs:List Dt) (hl:bs.length≤1048576) (hw:∀d∈bs,WV d∧d.bulk≤1048576) (hm:3000000≤m) (hm2:m<9223372036854775000):∀(M i:Nat),i≤bs.length→bs.length-i<M→
  ∃r:Int,UZ (m+5) M bs (bs.length:Int) (i:Int)=some r
 |0,i,_,h=>by omega
 |M+    1,i,hi,h=>by
  simp only[UZ,dlt]
  by_cases hlt:i<bs.length
  ·obtain⟨w1,w2⟩:=hw _ (List.getElem_mem hlt)
   obtain⟨r,r1⟩:=abX m bs hl hw hm hm2 M (i+1) (by omega) (by omega)
   have hv:cu (m+5) bs[i]=some (!(okV bs[i])):=by
        rw[cu,Cc w1 m (by omega) (by omega) (by omega)]
        rfl
   simp only[hlt,decide_true,cond_true,aC hlt,Option.bind_some,hv,aM (show i<9223372036854775807 by omega)]
   cases okV bs[i] with
   |true=>exact⟨r,r1⟩
   |false=>exact⟨(i:Int),rfl⟩
  ·have e:i=bs.length:=by omega
   subst e
   exact⟨-1,by simp[]⟩
theorem ZA (m:Nat) (bs:List Dt) (hl:bs.length≤1048576) (hw:∀d∈bs,WV d∧d.bulk≤1048576) (hm:3000000≤m) (hm2:m<9223372036854775000):∃b,i7 (m+7) bs=some b:=by
 obtain⟨r,r1⟩:=abX m bs hl hw hm hm2 (m+6) 0 (Nat.zero_le _) (by omega)
 have h9:i8 (m+6) bs=some r:=r1
 rw[i7,h9]
 exact⟨_,rfl⟩
theorem ZB (e:Dt) (bs docs:List Dt) (he:WE e) (heb:e.bulk≤1048576) (hbl:bs.length≤1048576) (hbw:∀d∈bs,WV d∧d.bulk≤1048576) (hdl:docs.length≤1048576) (hdw:∀d∈docs,WV d∧d.bulk≤1048576):ig (500000000000+1) e bs docs=some true:=by
 obtain⟨b,b1,b2⟩:=adr 499999999992 docs hdl hdw (by omega) (by omega)
 have b1:lM 500000000000 docs=some b:=b1
 obtain⟨c,c1⟩:=ZA 499999999993 bs hbl hbw (by omega) (by omega)
 have c1:i7 500000000000 bs=some c:=c1
 have hv:=WI 100000000 (Nat.le_refl _) 499999999977 (by omega) (by omega) e he (by omega)
 have hv:iH 500000000000 e=some (ckE 16 e 0).2:=hv
 have aw:EC=some true:=rfl
 rw[ig,b1,Option.bind_some]
 cases b with
 |false=>rw[Bool.not_false,cond_true,bq,aw];rfl
 |true=>
  obtain⟨hd30,hdn⟩:=b2 rfl
  rw[Bool.not_true,cond_false]
  by_cases h30:(30:Int)<(bs.length:Int)
  ·rw[decide_eq_true h30,cond_true,bq,aw];rfl
  ·rw[   decide_eq_false h30,cond_false,hv,Option.bind_some]
   cases hz:((ckE 16 e 0).2 !=0) with
   |true=>rw[cond_true,bq,aw];rfl
   |    false=>
        have hz':(ckE 16 e 0).2=0:=by simpa [bne] using hz
        rw[cond_false,c1,Option.bind_some,bq]
        cases c with
        |true=>rw[cond_true,aw];rfl
        |false=>
         have hT:=fun d hd=>alL e d he (by omega) hz' (hdn d hd)
         have hbk:=fun d hd=>(hT d hd).nd.bulk
         have hcut:Ac bs→∀v∈docs.map (evE e),∃p,Cut bs v p:=fun ha v hv=>by
          obtain⟨d,hd,rfl⟩:=List.mem_map.1 hv
          obtain⟨p,hp,_⟩:=ali 5000003 bs (evE e d) ha (by omega) (by omega) fun b hb=>uX b (evE e d) 5000000 (by have:=(hbw b hb).2;omega) (by have:=(hbw b hb).2;omega)
          exact⟨p,hp⟩
         have k1:=buP bs 499999999997 docs e (evE e) (by omega) (by omega) (by omega) (fun d hd=>(hT d hd).pr 499999999999 (by omega) (by omega)) (fun d hd b hb=>uX b (evE e d) 499999999995 (by have:=(hbw b hb).2;omega) (by have:=(hbw b hb).2;omega)) (fun a ha b hb=>uX a b 499999999996 (by have:=(hbw a ha).2;omega) (by have:=(hbw a ha).2;omega)) (fun b hb=>Le 1048576 b (hbw b hb).2 (by omega) (hbw b hb).1 499999999998 (by omega))
         have k1:gI 500000000000 e bs docs=some (buS bs (docs.map (evE e))):=k1
         have k2:=buR bs 499999999997 docs e (evE e) (by omega) (by omega) (by omega) (fun d hd=>(hT d hd).rf 499999999999 (by omega) (by omega)) (fun d hd b hb=>xY (evE e d) b 499999999996 (by have:=hbk d hd;omega) (by omega)) (fun a ha b hb=>xY a b 499999999996 (by have:=(hbw a ha).2;omega) (by omega)) hcut
         have k2:jM 500000000000 e bs docs=some (buS bs (docs.map (evE e))):=k2
         have k3:aZ 500000000000 (buS bs (docs.map (evE e))) (buS bs (docs.map (evE e)))=some true:=Vl 499999999999 _ (by have:=acE bs (docs.map (evE e));omega) (by have:=acE bs (docs.map (evE e));omega) fun x hx=>Lf 2000100 x (aiJ bs _ (fun b hb=>by have:=(hbw b hb).2;omega) x hx) (by omega) 499999999998 (by omega)
         rw[cond_false,k1,Option.bind_some,k2,Option.bind_some,k3,Option.bind_some,cond_true,aw]
         rfl
theorem ads {ds:List Dt} (h:HasTys Tryz.prog Tryz.f4.params.toList ds) (hb:Dt.bulkL ds≤1048576):FX Tryz.prog 4 (ajD Tryz.f4.params.toList ds) [] (.dat 4 (.bool true)) []:=by
 have h':HasTys Tryz.prog [29,23,23] ds:=h
 match ds,h',hb with
 | [x,y,z],.cons h1 (.cons h2 (.cons h3 .nil)),hb=>
   obtain⟨e1,_,w1⟩:=YI Tryz.underlying23 h2
   obtain⟨e2,_,w2⟩:=YI Tryz.underlying23 h3
   rw[e1,e2] at hb ⊢
   simp only[Dt.bulkL,Dt.bulk] at hb
   have l1:=jh y.toLst
   have l2:=jh z.toLst
   exact qN 500000000000 (ct_ok 500000000000) _ _ _ _ (ZB x y.toLst z.toLst (alb x.bulk x (Nat.le_refl _) h1) (by omega) (by omega) (fun d hd=>⟨afJ (w1 d hd),by have:=lC hd;omega⟩) (by omega) (fun d hd=>⟨afJ (w2 d hd),by have:=lC hd;omega⟩))
end Go.Proofs.YtmecfjhdnbgfeaaGreatDoor
