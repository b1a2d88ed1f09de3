/- The law: the number of parts. -/
import Derived.Test.YtpifchdngodgjaaGreatDoorMH
import Derived.Test.YtpifchdngodgjaaGreatDoorFx
set_option linter.unusedVariables false
set_option linter.unusedSimpArgs false
namespace Go.Proofs.YtpifchdngodgjaaGreatDoor
open Go.Am Go.Am.Srt
def docOne:Dt:= .agg [.int 5,.int 0,.str (ByteArray.mk (List.toArray [])),.lst [],.lst [.agg [.str (ByteArray.mk (List.toArray [95,105,100])),oneV]]]
open Classical in
theorem isGr_t:isGr grOne oneV=true:=decide_eq_true ⟨rfl,rfl⟩
open Classical in
theorem noKey_t:noKey [] [] []=true:=decide_eq_true ⟨rfl,rfl,rfl⟩
open Classical in
theorem noKey_f (k:Dt) (r a b:List Dt):noKey (k::r) a b=false:=decide_eq_false fun h=>by cases h.1
open Classical in
theorem oneKey_t:oneKey [oneV] [.lst []] [.int 0]=true:=decide_eq_true ⟨rfl,rfl,rfl⟩
def stK:Bool→List Dt×List Dt×List Dt
 |false=>([],[],[])
 |true=>([oneV],[.lst []],[.int 0])
theorem collect_l (m:Nat) (D:List Dt) (hl:D.length<1000000):∀(M i:Nat) (b:Bool),i≤D.length→D.length-i<M→
  i21_l1 m M D (D.length:Int) (i:Int) grOne (stK b).1 (stK b).2.1 (stK b).2.2=some (stK (b||decide (i<D.length)))
 |0,i,b,_,h=>by omega
 |M+    1,i,b,hi,h=>by
  rw[i21_l1,dlt]
  by_cases hlt:i<D.length
  ·have ih:=collect_l m D hl M (i+1) true (by omega) (by omega)
   have e0:(Dt.I oneV 0==0)=false:=rfl
   have e1:decide ((0:Int)<(List.length (Dt.L grOne 1):Int))=false:=rfl
   have ex:expr_EvalC (Dt.fld grOne 0) D[i]=some oneV:=expr_EvalC_eq _
   have hw:=wrapS (show i<9223372036854775807 by omega)
   have go:i21_j4 m (i21_l1 m M) 0 D (D.length:Int) (i:Int) (Dt.L grOne 1) (List.length (Dt.L grOne 1):Int) 0 grOne [oneV] [.lst []] [.int 0] D[i]=some (stK true):=by
        rw[i21_j4,i21_l5,e1,cond_false,i21_j7,hw]
        exact ih
   rw[decide_eq_true hlt,cond_true,Bool.or_true,i21_j2,idx_lt hlt,Option.bind_some,ex,Option.bind_some,e0,cond_false,i21_j3,isGr_t,cond_true]
   cases b with
   |    false=>
        rw[show noKey (stK false).1 (stK false).2.1 (stK false).2.2=true from noKey_t,cond_true]
        exact go
   |    true=>
        rw[show noKey (stK true).1 (stK true).2.1 (stK true).2.2=false from noKey_f _ _ _ _,cond_false,show oneKey (stK true).1 (stK true).2.1 (stK true).2.2=true from oneKey_t,cond_true]
        exact go
  ·rw[decide_eq_false hlt,cond_false,Bool.or_false]
   rfl
theorem collect_eq (m:Nat) (D:List Dt) (hl:D.length<1000000) (hm:D.length<m):i21 (m+1) grOne D=some (stK (decide (0<D.length))):=
 collect_l m D hl (m+1) 0 false (Nat.zero_le _) (by omega)
theorem res0 (m:Nat):i24 (m+1) grOne [] [] []=some ([],[],[],[]):=rfl
theorem res1 (m:Nat):i24 (m+3) grOne [oneV] [.lst []] [.int 0]=some ([docOne],[oneV],[.lst []],[.int 0]):=rfl
theorem par1 (m:Nat):i27 (m+3) grOne [oneV] [.lst []] [.int 0]=some ([docOne],[oneV],[.lst []],[.int 0]):=rfl
theorem gRun_eq (m:Nat) (D:List Dt) (hl:D.length<1000000) (hm:D.length<m):∃r,zY (m+4) grOne D=some r:=by
 rw[zY,collect_eq (m+2) D hl (by omega),Option.bind_some]
 cases decide (0<D.length)
 ·exact⟨[],rfl⟩
 ·exact⟨[docOne],by rw[show i24 (m+3) grOne (stK true).1 (stK true).2.1 (stK true).2.2=_ from res1 m];rfl⟩
theorem gPartial_eq (m:Nat) (D:List Dt) (hl:D.length<1000000) (hm:D.length<m):∃r,zN (m+4) grOne D=some r∧r.length≤1∧∀d∈r,d=docOne:=by
 rw[zN,collect_eq (m+2) D hl (by omega),Option.bind_some]
 cases decide (0<D.length)
 ·exact⟨[],rfl,by simp,by simp⟩
 ·exact⟨[docOne],by rw[show i27 (m+3) grOne (stK true).1 (stK true).2.1 (stK true).2.2=_ from par1 m];rfl,by simp,by simp⟩
theorem form_one (m:Nat):qZ (m+1) grOne docOne=some true:=by
 have e1:(Dt.I docOne 0 !=5)=false:=rfl
 have e2:((List.length (Dt.L docOne 4):Int) !=IntKind.wrap .i64 ((List.length (Dt.L grOne 1):Int)+1))=false:=rfl
 have e3:idx (Dt.L docOne 4) 0=some (.agg [.str (ByteArray.mk (List.toArray [95,105,100])),oneV]):=rfl
 have e4:(ByteArray.toList (Dt.S (.agg [.str (ByteArray.mk (List.toArray [95,105,100])),oneV]) 0)==[95,105,100])=true:=by rw[ByteArray.toList_eq];rfl
 rw[qZ,e1,cond_false,e2,cond_false,e3,Option.bind_some,e4]
 rfl
theorem final_l (m:Nat) (P:List Dt) (hP:∀d∈P,d=docOne) (hl:P.length<1000000):∀(M i:Nat) (b:Bool),i≤P.length→P.length-i<M→
  ∃r,qK_l1 (m+3) M P (P.length:Int) (i:Int) grOne (stK b).1 (stK b).2.1 (stK b).2.2=some (r,0)
 |0,i,b,_,h=>by omega
 |M+    1,i,b,hi,h=>by
  rw[qK_l1,dlt]
  by_cases hlt:i<P.length
  ·obtain⟨r,ih⟩:=final_l m P hP hl M (i+1) true (by omega) (by omega)
   refine⟨r,?_⟩
   have e1:decide ((0:Int)<(List.length (Dt.L grOne 1):Int))=false:=rfl
   have hw:=wrapS (show i<9223372036854775807 by omega)
   have hd:=hP _ (List.getElem_mem hlt)
   have e2:idx (Dt.L docOne 4) 0=some (.agg [.str (ByteArray.mk (List.toArray [95,105,100])),oneV]):=rfl
   have e3:isGr grOne (Dt.fld (.agg [.str (ByteArray.mk (List.toArray [95,105,100])),oneV]) 1)=true:=isGr_t
   have go:∀s,qK_j11 (m+3) (qK_l1 (m+3) M) 0 P (P.length:Int) (i:Int) (Dt.L grOne 1) (List.length (Dt.L grOne 1):Int) 0 grOne [oneV] [.lst []] [.int 0] s=some (r,0):=fun s=>by
        rw[qK_j11,qK_l12,e1,cond_false,qK_j14,hw]
        exact ih
   rw[decide_eq_true hlt,cond_true,qK_j2,idx_lt hlt,Option.bind_some,hd,form_one,Option.bind_some,Bool.not_true,cond_false,qK_j3]
   rw[show mkL (List.length (Dt.L grOne 1):Int) (List.length (Dt.L grOne 1):Int) kzc575d=some [] from rfl,Option.bind_some,qK_j4,qK_l5,e1,cond_false,qK_j10,e2,Option.bind_some,e3,cond_true]
   cases b with
   |    false=>
        rw[show noKey (stK false).1 (stK false).2.1 (stK false).2.2=true from noKey_t,cond_true]
        exact go _
   |    true=>
        rw[show noKey (stK true).1 (stK true).2.1 (stK true).2.2=false from noKey_f _ _ _ _,cond_false,show oneKey (stK true).1 (stK true).2.1 (stK true).2.2=true from oneKey_t,cond_true]
        exact go _
  ·rw[decide_eq_false hlt,cond_false,qK_j15]
   cases b with
   |false=>exact⟨[],by rw[show i24 (m+3) grOne (stK false).1 (stK false).2.1 (stK false).2.2=_ from res0 (m+2)];rfl⟩
   |true=>exact⟨[docOne],by rw[show i24 (m+3) grOne (stK true).1 (stK true).2.1 (stK true).2.2=_ from res1 m];rfl⟩
theorem gFinal_eq (m:Nat) (P:List Dt) (hP:∀d∈P,d=docOne) (hl:P.length<1000000) (hm:P.length<m):∃r,qK (m+4) grOne P=some (r,0):=
 final_l m P hP hl (m+4) 0 false (Nat.zero_le _) (by omega)
theorem group_l (m:Nat) (P:List (List Dt)) (hP:∀p∈P,p.length<1000000) (hPm:∀p∈P,p.length<m) (hl:P.length<1000000) (hm:P.length<m):∀(M i:Nat) (acc:List Dt),i≤P.length→P.length-i<M→acc.length≤i→(∀d∈acc,d=docOne)→
  ∃r,qW_l3 (m+4) M (P.map Dt.lst) (P.map Dt.lst) (P.length:Int) (i:Int) grOne acc=some (r,(P.length:Int),0)
 |0,i,_,_,h,_,_=>by omega
 |M+    1,i,acc,hi,h,ha,hA=>by
  rw[qW_l3,dlt]
  by_cases hlt:i<P.length
  ·obtain⟨r,r1,r2,r3⟩:=gPartial_eq m P[i] (hP _ (List.getElem_mem hlt)) (hPm _ (List.getElem_mem hlt))
   obtain⟨x,ih⟩:=group_l m P hP hPm hl hm M (i+1) (acc++r) (by omega) (by omega) (by rw[List.length_append];omega) (fun d hd=>by
        rcases List.mem_append.1 hd with h|h
        ·exact hA d h
        ·exact r3 d h)
   refine⟨x,?_⟩
   have hi':idx (P.map Dt.lst) (i:Int)=some (Dt.lst P[i]):=by rw[idx_lt (by simpa using hlt)];simp
   rw[decide_eq_true hlt,cond_true,qW_j4,hi',Option.bind_some,show zN (m+4) grOne (Dt.toLst (Dt.lst P[i]))=some r from r1,Option.bind_some,app_le (by omega),Option.bind_some,qW_j5,wrapS (show i<9223372036854775807 by omega)]
   exact ih
  ·obtain⟨x,hx⟩:=gFinal_eq m acc hA (by omega) (by omega)
   refine⟨x,?_⟩
   rw[decide_eq_false hlt,cond_false,qW_j6,hx,Option.bind_some]
   show some (x,((P.map Dt.lst).length:Int),(0:Int))=_
   rw[List.length_map]
theorem sGroup_eq (m:Nat) (hm:2000≤m) (D:List Dt) (hn:D.length<1000) (mem:Int) (h1:1≤mem) (h2:mem≤9223372036854775807) (g:Dt→Nat) (hg:∀d∈D,zJ (m+3) d=some (((g d:Nat):Int),0)) (hb:(D.map g).sum<1000000000000):
  ∃r,qW (m+5) grOne D mem true=some (r,(nparts g mem D:Int),0):=by
 rw[qW,sparts_eq (m+3) D mem true g hg h1 h2 (by omega) (by omega) hb,Option.bind_some]
 have hflat:=split_flat g mem D [] 0
 have hlen:=split_len g mem D [] 0
 unfold nparts
 unfold finP
 generalize splitP g mem [] 0 D=q at hflat hlen ⊢
 obtain⟨C,last,sz⟩:=q
 simp only[List.nil_append] at hflat hlen ⊢
 have hLL:(C.map Dt.lst).isEmpty=C.isEmpty:=by cases C<;>rfl
 rw[hLL]
 cases hc:(C.isEmpty&&decide ((sz:Int)≤mem))
 ·rw[cond_false,cond_false,cond_true]
  have hP:C.map Dt.lst++[Dt.lst last]=(C++[last]).map Dt.lst:=by simp
  have hfl:(C++[last]).flatten=D:=by rw[←hflat];simp
  have hpl:∀p∈C++[last],p.length<1000:=fun p hp=>by
   have:p.length≤(C++[last]).flatten.length:=(List.sublist_flatten_of_mem hp).length_le
   rw[hfl] at this;omega
  have e0:((((C++[last]).map Dt.lst).length:Int)==0)=false:=by rw[beq_eq_false_iff_ne];simp;omega
  obtain⟨r,hr⟩:=group_l m (C++[last]) (fun p hp=>by have:=hpl p hp;omega) (fun p hp=>by have:=hpl p hp;omega) (by simp;omega) (by simp;omega) (m+5) 0 [] (Nat.zero_le _) (by simp;omega) (Nat.zero_le _) (by simp)
  refine⟨r,?_⟩
  show qW_j0 (m+4) D (C.map Dt.lst++[Dt.lst last]) grOne=_
  rw[hP,qW_j0,e0,cond_false,qW_j1,qW_j2,List.length_map]
  refine hr.trans ?_
  simp
 ·rw[cond_true,cond_true]
  obtain⟨r,hr⟩:=gRun_eq m D (by omega) (by omega)
  refine⟨r,?_⟩
  show qW_j0 (m+4) D [] grOne=_
  rw[qW_j0,show (((List.length ([]:List Dt)):Int)==0)=true from rfl,cond_true,hr]
  rfl
theorem law_counts (D:List Dt) (a b:Int) (ha:a≤9223372036854775807) (hb:b≤9223372036854775807) (hD:∀d∈D,WV d∧WR d∧d.bulk≤1048576):qQ (400000000000+1) D a b=some true:=by
 obtain⟨g,b1,b2⟩:=good_tot 399999999995 (by omega) (by omega) D hD
 have b1':zD 400000000000 D=some g:=b1
 rw[qQ,b1',Option.bind_some]
 cases g with
 |false=>rfl
 |true=>
  by_cases h1:a<1
  ·rw[decide_eq_true h1];rfl
  by_cases h2:b<a
  ·rw[decide_eq_false h1,decide_eq_true h2];rfl
  rw[Bool.not_true,cond_false,decide_eq_false h1,cond_false,decide_eq_false h2,qQ_j0,cond_false]
  obtain⟨h60,hG⟩:=b2 rfl
  have hsum:=sum_lim h60 hG
  have hDoc:∀d∈D,DocOK d:=fun d hd=>(hG d hd).doc
  have k1:∀(mem:Int) (al:Bool),mem≤9223372036854775807→qA 400000000000 [] D mem al=_:=fun mem al hm=>sSort_eq 399999999994 (by omega) [] (by simp) D hDoc (by omega) mem hm al lenD (fun d hd=>cLength_eq (hG d hd).doc.wv (hG d hd).wr (hG d hd).doc.bulk (hG d hd).val 399999999994 (by omega)) hsum
  obtain⟨r,k2⟩:=sGroup_eq 399999999995 (by omega) D (by omega) a (by omega) ha lenD (fun d hd=>cLength_eq (hG d hd).doc.wv (hG d hd).wr (hG d hd).doc.bulk (hG d hd).val 399999999994 (by omega)) hsum
  have k2':qW 400000000000 grOne D a true=some (r,(nparts lenD a D:Int),0):=k2
  have k0:z6 400000000000 1=some oneV:=rfl
  have hle:=nparts_le lenD (show 1≤a by omega) D
  have hmo:=nparts_mono lenD (show 1≤a by omega) (show a≤b by omega) D
  have hw :zM 400000000000 D D=some true:=by
   have hB:Dt.bulkL D≤399999999000:=by
        have:∀L:List Dt,(∀x∈L,x.bulk≤1048576)→Dt.bulkL L≤L.length*1048576:=fun L h=>by
         induction L with
         |nil=>simp[Dt.bulkL]
         |cons a r ih=>
          have h1:=h a (by simp)
          have h3:=ih fun d hd=>h d (by simp[hd])
          simp only[Dt.bulkL,List.length_cons]
          omega
        have h1:=this D fun x hx=>(hDoc x hx).bulk
        omega
   exact samelist_refl 399999999998 D (by omega) (by omega) (fun x hx=>(hDoc x hx).wv) 399999999998 (Nat.le_refl _)
  have na:(decide (a<1))=false:=decide_eq_false h1
  have nb:(decide (b<1))=false:=decide_eq_false (by omega)
  have s1:=k1 a true ha
  have s2:=k1 b true hb
  have s3:=k1 a false ha
  rw[na,sort_none,cond_false] at s1 s3
  rw[nb,sort_none,cond_false] at s2
  have s1':qA 400000000000 [] D a true=some (D,(nparts lenD a D:Int),0):=by
   rw[s1]
   cases h:(nparts lenD a D==0)
   ·rfl
   ·rw[cond_true,show nparts lenD a D=0 from by simpa using h];rfl
  have s2':qA 400000000000 [] D b true=some (D,(nparts lenD b D:Int),0):=by
   rw[s2]
   cases h:(nparts lenD b D==0)
   ·rfl
   ·rw[cond_true,show nparts lenD b D=0 from by simpa using h];rfl
  have s3':qA 400000000000 [] D a false=some (bif nparts lenD a D==0 then(D,0,0) else([],0,22)):=s3
  have x1:((nparts lenD a D:Int) !=(nparts lenD a D:Int))=false:=by simp
  have x2:decide ((nparts lenD a D:Int)<0)=false:=decide_eq_false (by omega)
  have x3:decide ((D.length:Int)<(nparts lenD a D:Int))=false:=decide_eq_false (by omega)
  have x4:decide ((nparts lenD a D:Int)<(nparts lenD b D:Int))=false:=decide_eq_false (by omega)
  have x0:((0:Int) !=0)=false:=rfl
  rw[qQ_j1,k0,Option.bind_some,s1',Option.bind_some]
  show ((qW 400000000000 grOne D a true).bind fun r4=>_)=_
  rw[k2',Option.bind_some,s2',Option.bind_some,s3',Option.bind_some]
  simp only[x0,x1,x2,x3,x4,cond_false]
  cases hn:(nparts lenD a D==0)
  ·have hp:decide (0<(nparts lenD a D:Int))=true:=decide_eq_true (by
        have:nparts lenD a D≠0:=by simpa using hn
        omega)
   simp only[cond_false,qQ_j2,qQ_j3,hp,cond_true]
   rfl
  ·have hz:nparts lenD a D=0:=by simpa using hn
   have hp:decide (0<(nparts lenD a D:Int))=false:=decide_eq_false (by omega)
   simp only[cond_true,qQ_j2,qQ_j3,hp,cond_false,qQ_j4,x0,hw,Option.bind_some]
   rfl
theorem counts_fx {ds:List Dt} (h:HasTys Tryz.prog Tryz.f4.params.toList ds) (hb:Dt.bulkL ds≤1048576):FX Tryz.prog 4 (dats Tryz.f4.params.toList ds) [] (.dat 4 (.bool true)) []:=by
 have h':HasTys Tryz.prog [23,3,3] ds:=h
 match ds,h',hb with
 | [x,y,z],.cons h1 (.cons h2 (.cons h3 .nil)),hb=>
   obtain⟨e0,_,w1⟩:=ty_lst Tryz.underlying23 h1
   obtain⟨e1,_,r1⟩:=ty_int Tryz.underlying3 h2
   obtain⟨e2,_,r2⟩:=ty_int Tryz.underlying3 h3
   have q1:y.toInt≤9223372036854775807:=r1
   have q2:z.toInt≤9223372036854775807:=r2
   rw[e0,e1,e2] at hb ⊢
   simp only[Dt.bulkL,Dt.bulk] at hb
   refine qQ_fx 400000000000 (ct_ok 400000000000) _ _ _ (law_counts x.toLst y.toInt z.toInt q1 q2 fun x hx=>⟨wv_of (w1 x hx),wr_of (w1 x hx),?_⟩)
   have:=bulk_mem hx
   omega
end Go.Proofs.YtpifchdngodgjaaGreatDoor
