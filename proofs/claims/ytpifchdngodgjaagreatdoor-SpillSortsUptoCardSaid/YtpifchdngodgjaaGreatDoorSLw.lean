/- The law: sorting with limited memory. -/
import Derived.Test.YtpifchdngodgjaaGreatDoorMH
import Derived.Test.YtpifchdngodgjaaGreatDoorMSame1
import Derived.Test.YtpifchdngodgjaaGreatDoorMOVal
import Derived.Test.YtpifchdngodgjaaGreatDoorFx
set_option linter.unusedVariables false
set_option linter.unusedSimpArgs false
namespace Go.Proofs.YtpifchdngodgjaaGreatDoor
open Go.Am Go.Am.Srt
theorem le_mx (f:Dt→Nat):∀{L:List Dt} {e:Dt},e∈L→f e≤mx f L
 |x::r,e,h=>by
  simp only[mx]
  rcases List.mem_cons.1 h with rfl|h
  ·exact Nat.le_max_left _ _
  ·exact Nat.le_trans (le_mx f h) (Nat.le_max_right _ _)
theorem dl_of:∀(n:Nat) (d:Dt),WV d→dpt d≤n→DL n d
 |0,d,hw,h=>by rw[dpt_eq hw] at h;omega
 |n+1,d,hw,h=>by
  intro e he
  rw[dpt_eq hw] at h
  have:=le_mx dpt he
  exact dl_of n e (prts_wv hw e he).1 (by omega)
structure GoodD (d:Dt):Prop where
 doc:DocOK d
 wr:WR d
 val:okV d=true
theorem good_l (m:Nat) (hm:3000000≤m) (hm2:m<9000000000000000000) (D:List Dt) (hl:D.length<1000000) (hD:∀d∈D,WV d∧WR d∧d.bulk≤1048576):∀(M i:Nat),i≤D.length→D.length-i<M→∃b,zI_l2 (m+4) M D (i:Int)=some b∧(b=true→∀d∈D.drop i,GoodD d)
 |0,i,_,h=>by omega
 |M+    1,i,hi,h=>by
  simp only[zI_l2,dlt]
  by_cases hlt:i<D.length
  ·obtain⟨w1,w2,w3⟩:=hD _ (List.getElem_mem hlt)
   obtain⟨b,b1,b2⟩:=good_l m hm hm2 D hl hD M (i+1) (by omega) (by omega)
   have hv:=rValid_eq w1 m (by omega) (by omega) (by omega)
   simp only[hlt,decide_true,cond_true,zI_j5,zI_j4,zI_j3,zI_j6,zI_j1,zI_j0,idx_lt hlt,Option.bind_some,hv,wrapS (show i<9223372036854775807 by omega),b1]
   cases h5:(Dt.I D[i] 0 !=5)
   ·    cases ho:okV D[i]
        ·exact⟨false,rfl,fun h=>by cases h⟩
        ·refine⟨b,rfl,fun h d hd=>?_⟩
         rw[List.drop_eq_getElem_cons hlt] at hd
         rcases List.mem_cons.1 hd with rfl|hd
         ·have ho':=ho
          unfold okV at ho'
          simp only[Bool.and_eq_true,decide_eq_true_eq] at ho'
          exact⟨⟨w1,w3,dl_of 16 _ w1 ho'.1.2⟩,w2,ho⟩
         ·exact b2 h d hd
   ·exact⟨false,rfl,fun h=>by cases h⟩
  ·have e:i=D.length:=by omega
   subst e
   exact⟨true,by simp[zI_j5,zI_j4,zI_j3,zI_j6,zI_j1,zI_j0],fun _ d hd=>by simp at hd⟩
theorem good_tot (m:Nat) (hm:3000000≤m) (hm2:m<9000000000000000000) (D:List Dt) (hD:∀d∈D,WV d∧WR d∧d.bulk≤1048576):∃b,zI (m+5) D=some b∧(b=true→D.length≤60∧∀d∈D,GoodD d):=by
 rw[zI]
 by_cases h:60<D.length
 ·rw[decide_eq_true (show (60:Int)<(D.length:Int) by omega)]
  exact⟨false,rfl,fun h=>by cases h⟩
 ·rw[decide_eq_false (show ¬(60:Int)<(D.length:Int) by omega),cond_false]
  obtain⟨b,b1,b2⟩:=good_l m hm hm2 D (by omega) hD (m+5) 0 (Nat.zero_le _) (by omega)
  exact⟨b,b1,fun h=>⟨by omega,fun d hd=>b2 h d (by rw[List.drop_zero];exact hd)⟩⟩
theorem sum_lim {D:List Dt} (hl:D.length≤60) (hD:∀d∈D,GoodD d):(D.map lenD).sum<1000000000000:=by
 have:∀L:List Dt,(∀d∈L,GoodD d)→(L.map lenD).sum≤L.length*5242880:=fun L h=>by
  induction L with
  |nil=>simp
  |cons a r ih=>
   have h1:=lenF_le 1048576 a (h a (by simp)).doc.wv
   have h2:=(h a (by simp)).doc.bulk
   have h3:=ih fun d hd=>h d (by simp[hd])
   simp only[List.map_cons,List.sum_cons,List.length_cons,lenD] at h3 ⊢
   omega
 have:=this D hD
 omega
theorem err_len {l:List Dt} (h:errO l=0):l.length≤8:=by
 unfold errO at h
 by_cases h8:8<l.length
 ·rw[decide_eq_true h8] at h
  cases h
 ·omega
theorem law_sorts (l D:List Dt) (mem:Int) (al:Bool) (hm:mem≤9223372036854775807) (hD:∀d∈D,WV d∧WR d∧d.bulk≤1048576):zQ (400000000000+1) (.agg [.lst l,.lst D,.int mem,.bool al])=some true:=by
 obtain⟨b,b1,b2⟩:=good_tot 399999999995 (by omega) (by omega) D hD
 have b1':zI 400000000000 (Dt.L (.agg [.lst l,.lst D,.int mem,.bool al]) 1)=some b:=b1
 have v1:qS 400000000000 (Dt.L (.agg [.lst l,.lst D,.int mem,.bool al]) 0)=some (errO l):=rval_eq 399999999998 (by omega) (by omega) l
 rw[zQ,b1',Option.bind_some]
 cases b with
 |false=>simp only[Bool.not_false,cond_true,zQ_j1,zQ_j0,awakeC,Option.bind_some]
 |true=>
  rw[Bool.not_true,cond_false,v1,Option.bind_some]
  obtain⟨h60,hG⟩:=b2 rfl
  cases hv:(errO l !=0)
  ·have h8 :=err_len (l:=l) (by simpa using hv)
   have hsum:=sum_lim h60 hG
   have hDoc:∀d∈D,DocOK d:=fun d hd=>(hG d hd).doc
   have k1:qA 400000000000 (Dt.L (.agg [.lst l,.lst D,.int mem,.bool al]) 0) (Dt.L (.agg [.lst l,.lst D,.int mem,.bool al]) 1) (Dt.I (.agg [.lst l,.lst D,.int mem,.bool al]) 2) (Dt.B (.agg [.lst l,.lst D,.int mem,.bool al]) 3)=_:=sSort_eq 399999999994 (by omega) l (by omega) D hDoc (by omega) mem hm al lenD (fun d hd=>cLength_eq (hG d hd).doc.wv (hG d hd).wr (hG d hd).doc.bulk (hG d hd).val 399999999994 (by omega)) hsum
   have k2:yA 400000000000 (Dt.L (.agg [.lst l,.lst D,.int mem,.bool al]) 0) (Dt.L (.agg [.lst l,.lst D,.int mem,.bool al]) 1) (Dt.I (.agg [.lst l,.lst D,.int mem,.bool al]) 2) (Dt.B (.agg [.lst l,.lst D,.int mem,.bool al]) 3)=_:=rSort37_eq 399999999994 (by omega) (by omega) l (by omega) D hDoc (by omega) mem al lenD (fun d hd=>rLength_eq (hG d hd).doc.wv (hG d hd).wr (hG d hd).doc.bulk (hG d hd).val 399999999991 (by omega) (by omega)) hsum
   have hw:∀r:List Dt,(∀x∈r,WV x)→Dt.bulkL r≤399999999000→z7 400000000000 r r=some true:=fun r hr hb=>samelist_refl 399999999998 r (by omega) (by omega) hr 399999999998 (Nat.le_refl _)
   have hsD:∀x∈sortD l D,WV x:=fun x hx=>(hDoc x (mem_isort.1 hx)).wv
   have hsB:Dt.bulkL (sortD l D)≤399999999000:=by
        have:∀L:List Dt,(∀x∈L,x.bulk≤1048576)→Dt.bulkL L≤L.length*1048576:=fun L h=>by
         induction L with
         |nil=>simp[Dt.bulkL]
         |cons a r ih=>
          have h1:=h a (by simp)
          have h3:=ih fun d hd=>h d (by simp[hd])
          simp only[Dt.bulkL,List.length_cons]
          omega
        have h1:=this (sortD l D) fun x hx=>(hDoc x (mem_isort.1 hx)).bulk
        have h2:(sortD l D).length=D.length:=isort_len D
        omega
   simp only[zQ_j1,zQ_j0,cond_false,k1,k2,Option.bind_some]
   generalize hq:(bif decide (mem<1) then(([]:List Dt),(0:Int),(1:Int)) else bif nparts lenD mem D==0 then(sortD l D,0,0) else bif al then(sortD l D,(nparts lenD mem D:Int),0) else([],0,22))=q
   have hs :z7 400000000000 q.1 q.1=some true:=by
        have q1:q.1=[]∨q.1=sortD l D:=by
         rw[←hq]
         cases decide (mem<1)
         ·cases (nparts lenD mem D==0)
          ·cases al
           ·exact .inl rfl
           ·exact .inr rfl
          ·exact .inr rfl
         ·exact .inl rfl
        rcases q1 with e|e
        ·rw[e];exact hw [] (by simp) (by simp[Dt.bulkL])
        ·rw[e];exact hw _ hsD hsB
   rw[hs]
   simp only[Option.bind_some,cond_true,beq_self_eq_true,awakeC]
  ·simp only[cond_true,zQ_j1,zQ_j0,awakeC,Option.bind_some]
theorem sorts_fx {ds:List Dt} (h:HasTys Tryz.prog Tryz.f3.params.toList ds) (hb:Dt.bulkL ds≤1048576):FX Tryz.prog 3 (dats Tryz.f3.params.toList ds) [] (.dat 4 (.bool true)) []:=by
 have h':HasTys Tryz.prog [25] ds:=h
 match ds,h',hb with
 | [x],.cons h1 .nil,hb=>
   obtain⟨⟨fs,e,hl⟩,hf⟩:=ty_agg Tryz.underlying25 h1
   have hl4:fs.length=4:=hl
   match fs,hl4,e with
   | [a,b,c,d],_,e=>
     subst e
     have t0:HasTy Tryz.prog 22 a:=hf 0 _ rfl
     have t1:HasTy Tryz.prog 23 b:=hf 1 _ rfl
     have t2:HasTy Tryz.prog 3 c:=hf 2 _ rfl
     have t3:HasTy Tryz.prog 4 d:=hf 3 _ rfl
     obtain⟨e0,_,_⟩:=ty_lst Tryz.underlying22 t0
     obtain⟨e1,_,w1⟩:=ty_lst Tryz.underlying23 t1
     obtain⟨e2,_,r2⟩:=ty_int Tryz.underlying3 t2
     have e3:=ty_bool Tryz.underlying4 t3
     have r3:c.toInt≤9223372036854775807:=r2
     rw[e0,e1,e2,e3] at hb ⊢
     simp only[Dt.bulkL,Dt.bulk] at hb
     refine zQ_fx 400000000000 (ct_ok 400000000000) _ (law_sorts a.toLst b.toLst c.toInt d.toBool r3 fun x hx=>⟨wv_of (w1 x hx),wr_of (w1 x hx),?_⟩)
     have:=bulk_mem hx
     omega
end Go.Proofs.YtpifchdngodgjaaGreatDoor
