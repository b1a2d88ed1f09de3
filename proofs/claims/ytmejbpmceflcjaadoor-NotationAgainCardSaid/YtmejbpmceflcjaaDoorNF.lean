/- The program's text of a value.
The reference's text of a value. -/
import Derived.Test.YtmejbpmceflcjaaDoorNWr
import Derived.Test.YtmejbpmceflcjaaDoorNSp
set_option linter.unusedVariables false
set_option linter.unusedSimpArgs false
namespace Go.Proofs.YtmejbpmceflcjaaDoor
open Go.Am
theorem erF_cons (g:Dt→Int) (e:Dt) (r:List Dt):erF g (e::r)=bif g e==0 then erF g r else g e:=rfl
theorem al_loop (m:Nat) (self:Dt→List Dt→Option (Int×List Dt)) (g:Dt→List UInt8) (er:Dt→Int) (L:List Dt) (hl:L.length<9223372036854775807)
  (hs:∀e∈L,∀a:List UInt8,a.length+40*e.bulk≤137438953000→∃r,self e (bytesI a)=some (er e,r)∧(er e=0→r=bytesI (a++g e))) (hg:∀e∈L,(g e).length+1≤40*e.bulk):
  ∀(M i:Nat) (a:List UInt8),i≤L.length→L.length-i<M→a.length+40*Dt.bulkL (L.drop i)+5≤137438953000→
  ∃r,i17_l1 m self M L (L.length:Int) (i:Int) (bytesI a)=some (erF er (L.drop i),r)∧(erF er (L.drop i)=0→r=bytesI (a++(lsF g i (L.drop i)++[93])))
 |0,i,_,_,h,_=>by omega
 |M+    1,i,a,hi,h,ha=>by
  simp only[i17_l1,dlt]
  by_cases hlt:i<L.length
  ·have hm:=List.getElem_mem hlt
   rw[List.drop_eq_getElem_cons hlt] at ha ⊢
   simp only[Dt.bulkL] at ha
   have hb1:=bulk_pos L[i]
   have hg1:=hg _ hm
   have d0:decide ((0:Int)<(i:Int))=decide (0<i):=dlt (i:=0)
   have key:∀a':List UInt8,a'=a++(bif decide (0<i) then[44] else[])→∃r,i17_j3 m self (i17_l1 m self M) L (L.length:Int) (i:Int) (bytesI a') L[i]=some (erF er (L[i]::L.drop (i+1)),r)∧(erF er (L[i]::L.drop (i+1))=0→r=bytesI (a++(lsF g i (L[i]::L.drop (i+1))++[93]))):=fun a' hae=>by
        have hal:a'.length≤a.length+1:=by rw[hae];cases decide (0<i)<;>simp
        obtain⟨r1,h1,h2⟩:=hs _ hm a' (by omega)
        simp only[i17_j3,i17_j4,h1,Option.bind_some,erF_cons,bne,wrapS (show i<9223372036854775807 by omega)]
        cases he:(er L[i]==0)
        ·refine⟨[],by simp only[Bool.not_false,cond_true,cond_false],fun h0=>?_⟩
         rw[cond_false] at h0
         rw[h0] at he;cases he
        ·have e:=h2 (by simpa using he)
         subst e
         obtain⟨r,h3,h4⟩:=al_loop m self g er L hl hs hg M (i+1) (a'++g L[i]) (by omega) (by omega) (by rw[List.length_append];omega)
         refine⟨r,by simp only[Bool.not_true,cond_false,cond_true,h3],fun h0=>?_⟩
         rw[cond_true] at h0
         rw[h4 h0,hae]
         simp only[lsF,List.append_assoc]
   simp only[hlt,decide_true,cond_true,i17_j2,idx_lt hlt,Option.bind_some,d0]
   by_cases hi0:0<i
   ·    have a1:app (bytesI a) [Dt.int 44]=some (bytesI (a++[44])):=apI a [44] (by simp;omega)
        simp only[hi0,decide_true,cond_true,a1,Option.bind_some]
        exact key (a++[44]) (by simp[hi0])
   ·    simp only[hi0,decide_false,cond_false]
        exact key a (by simp[hi0])
  ·have:i=L.length:=by omega
   subst this
   have a1:app (bytesI a) [Dt.int 93]=some (bytesI (a++[93])):=apI a [93] (by simp;omega)
   refine⟨bytesI (a++[93]),by simp only[hlt,decide_false,cond_false,i17_j4,i17_j3,i17_j2,i17_j5,i17_j0,a1,Option.bind_some,List.drop_length,erF],fun _=>?_⟩
   rw[List.drop_length];rfl
theorem ad_loop (m:Nat) (self:Dt→List Dt→Option (Int×List Dt)) (g:Dt→List UInt8) (er:Dt→Int) (L:List Dt) (hl:L.length<9223372036854775807)
  (hf:∀f∈L,f.bulk=(Dt.fld f 1).bulk+(Dt.S f 0).size+2∧(Dt.S f 0).size<m∧(Dt.S f 0).size≤1000000000)
  (hs:∀f∈L,∀a:List UInt8,a.length+40*(Dt.fld f 1).bulk≤137438953000→∃r,self (Dt.fld f 1) (bytesI a)=some (er (Dt.fld f 1),r)∧(er (Dt.fld f 1)=0→r=bytesI (a++g (Dt.fld f 1)))) (hg:∀f∈L,(g (Dt.fld f 1)).length+1≤40*(Dt.fld f 1).bulk):
  ∀(M i:Nat) (a:List UInt8),i≤L.length→L.length-i<M→a.length+40*Dt.bulkL (L.drop i)+5≤137438953000→
  ∃r,i18_l2 m self M L (L.length:Int) (i:Int) (bytesI a)=some (erF (fun f=>er (Dt.fld f 1)) (L.drop i),r)∧(erF (fun f=>er (Dt.fld f 1)) (L.drop i)=0→r=bytesI (a++(lsF (fun f=>qtL (Dt.S f 0).data.toList++([58]++g (Dt.fld f 1))) i (L.drop i)++[125])))
 |0,i,_,_,h,_=>by omega
 |M+    1,i,a,hi,h,ha=>by
  simp only[i18_l2,dlt]
  by_cases hlt:i<L.length
  ·have hm:=List.getElem_mem hlt
   obtain⟨m,rfl⟩:∃q,m=q+1:=⟨m-1,by have:=(hf _ hm).2.1;omega⟩
   rw[List.drop_eq_getElem_cons hlt] at ha ⊢
   simp only[Dt.bulkL] at ha
   obtain⟨hf1,hf2,hf3⟩:=hf _ hm
   have hb1:=bulk_pos (Dt.fld L[i] 1)
   have hg1:=hg _ hm
   have hq:=qtL_len (Dt.S L[i] 0).data.toList
   rw[lenB] at hq
   have d0:decide ((0:Int)<(i:Int))=decide (0<i):=dlt (i:=0)
   have key:∀a':List UInt8,a'=a++(bif decide (0<i) then[44] else[])→∃r,i18_j4 (m+1) self (i18_l2 (m+1) self M) L (L.length:Int) (i:Int) (bytesI a') L[i]=some (erF (fun f=>er (Dt.fld f 1)) (L[i]::L.drop (i+1)),r)∧(erF (fun f=>er (Dt.fld f 1)) (L[i]::L.drop (i+1))=0→r=bytesI (a++(lsF (fun f=>qtL (Dt.S f 0).data.toList++([58]++g (Dt.fld f 1))) i (L[i]::L.drop (i+1))++[125]))):=fun a' hae=>by
        have hal:a'.length≤a.length+1:=by rw[hae];cases decide (0<i)<;>simp
        have q1:=quote_eq m (Dt.S L[i] 0) (by omega) (by omega)
        have a1:app (bytesI a') (List.map (fun b=>(Dt.int ((UInt8.toNat b):Int))) (Array.toList (ByteArray.data (Dt.toStr (Dt.str ⟨(qtL (Dt.S L[i] 0).data.toList).toArray⟩)))))=some (bytesI (a'++qtL (Dt.S L[i] 0).data.toList)):=apI a' (qtL (Dt.S L[i] 0).data.toList) (by omega)
        have a2:app (bytesI (a'++qtL (Dt.S L[i] 0).data.toList)) [Dt.int 58]=some (bytesI ((a'++qtL (Dt.S L[i] 0).data.toList)++[58])):=apI _ [58] (by simp;omega)
        obtain⟨r1,h1,h2⟩:=hs _ hm ((a'++qtL (Dt.S L[i] 0).data.toList)++[58]) (by simp;omega)
        simp only[i18_j4,i18_j5,q1,a1,a2,h1,Option.bind_some,erF_cons,bne,wrapS (show i<9223372036854775807 by omega)]
        cases he:(er (Dt.fld L[i] 1)==0)
        ·refine⟨[],by simp only[Bool.not_false,cond_true,cond_false],fun h0=>?_⟩
         rw[cond_false] at h0
         rw[h0] at he;cases he
        ·have e:=h2 (by simpa using he)
         subst e
         obtain⟨r,h3,h4⟩:=ad_loop (m+1) self g er L hl hf hs hg M (i+1) (((a'++qtL (Dt.S L[i] 0).data.toList)++[58])++g (Dt.fld L[i] 1)) (by omega) (by omega) (by simp;omega)
         refine⟨r,by simp only[Bool.not_true,cond_false,cond_true,h3],fun h0=>?_⟩
         rw[cond_true] at h0
         rw[h4 h0,hae]
         simp only[lsF,List.append_assoc]
   simp only[hlt,decide_true,cond_true,i18_j3,idx_lt hlt,Option.bind_some,d0]
   by_cases hi0:0<i
   ·    have a1:app (bytesI a) [Dt.int 44]=some (bytesI (a++[44])):=apI a [44] (by simp;omega)
        simp only[hi0,decide_true,cond_true,a1,Option.bind_some]
        exact key (a++[44]) (by simp[hi0])
   ·    simp only[hi0,decide_false,cond_false]
        exact key a (by simp[hi0])
  ·have:i=L.length:=by omega
   subst this
   have a1:app (bytesI a) [Dt.int 125]=some (bytesI (a++[125])):=apI a [125] (by simp;omega)
   refine⟨bytesI (a++[125]),by simp only[hlt,decide_false,cond_false,i18_j6,a1,Option.bind_some,List.drop_length,erF],fun _=>?_⟩
   rw[List.drop_length];rfl
theorem text_eq:∀(N:Nat) (d:Dt),d.bulk≤N→N≤1000000000→WV d→WR d→sndF wd N d=true→∀m,2*N+100≤m→∀a:List UInt8,a.length+40*d.bulk≤137438953000→
  ∃r,i11 (m+1) d (bytesI a)=some (perr N d,r)∧(perr N d=0→r=bytesI (a++txt N d))
 |0,d,h,_,_,_,_,_,_,_,_=>by have:=bulk_pos d;omega
 |N+    1,d,h,hN,hw,hr,hsd,m,hm,a,ha=>by
  obtain⟨m,rfl⟩:∃q,m=q+3:=⟨m-3,by omega⟩
  obtain⟨p1,p2,p3,p4⟩:=wv_parts hw
  obtain⟨r1,r3,r4⟩:=wr_parts hr
  obtain⟨hk,hs6,hs5⟩:=snd_kind hsd
  have hz:=wv_size hw
  have hq:=qtL_len (Dt.S d 2).data.toList
  have hx:=hxL_len (Dt.S d 2).data.toList
  have hil:=itoa_len _ r1.1 r1.2
  rw[lenB] at hq hx
  have ih:∀e:Dt,WV e→WR e→e.bulk≤N→sndF wd N e=true→∀q,2*N+100≤q→∀a:List UInt8,a.length+40*e.bulk≤137438953000→∃r,i11 (q+1) e (bytesI a)=some (perr N e,r)∧(perr N e=0→r=bytesI (a++txt N e)):=fun e hwe hre hbe hse q hq=>text_eq N e hbe (by omega) hwe hre hse q hq
  have hex:=fun(l:List UInt8) (hl:l.length+2*(Dt.S d 2).size≤137438953472)=>ahex_eq (m+2) (Dt.S d 2) l (by omega) (by omega) hl
  have c:∀l:List UInt8,l.length+a.length≤137438953472→app (bytesI a) (bytesI l)=some (bytesI (a++l)):=fun l hl=>apI a l (by omega)
  rw[i11]
  simp only[perr,txt]
  rcases kcase (Dt.I d 0) with e|e|e|e|e|e|e|e|e|e|e|hk2
  ·have a1:app (bytesI a) [Dt.int 123,Dt.int 34,Dt.int 36,Dt.int 109,Dt.int 105,Dt.int 110,Dt.int 34,Dt.int 58,Dt.int 49,Dt.int 125]=_:=c litMin (by simp[litMin];omega)
   rw[e]
   exact⟨_,by rw[show ((1:Int)==1)=true from rfl,cond_true,a1];rfl,fun _=>rfl⟩
  ·have a1:app (bytesI a) [Dt.int 110,Dt.int 117,Dt.int 108,Dt.int 108]=_:=c litNull (by simp[litNull];omega)
   rw[e]
   refine⟨bytesI (a++litNull),?_,fun _=>rfl⟩
   show ((app (bytesI a) [Dt.int 110,Dt.int 117,Dt.int 108,Dt.int 108]).bind _)=_
   rw[a1];rfl
  ·have a1:=appInt_eq _ r1.1 r1.2 a (by omega)
   rw[e]
   refine⟨bytesI (a++Lib.itoa (Dt.I d 1)),?_,fun _=>rfl⟩
   show ((strconv_AppendInt (Dt.I d 1) 10 (bytesI a)).bind _)=_
   rw[a1];rfl
  ·have q1:=quote_eq (m+2) (Dt.S d 2) (by omega) (by omega)
   have a1:app (bytesI a) (List.map (fun b=>(Dt.int ((UInt8.toNat b):Int))) (Array.toList (ByteArray.data (Dt.toStr (Dt.str ⟨(qtL (Dt.S d 2).data.toList).toArray⟩)))))=some (bytesI (a++qtL (Dt.S d 2).data.toList)):=c (qtL (Dt.S d 2).data.toList) (by omega)
   rw[e]
   refine⟨bytesI (a++qtL (Dt.S d 2).data.toList),?_,fun _=>rfl⟩
   show ((notation_Quote (m+3) (Dt.S d 2)).bind _)=_
   rw[q1]
   show ((app (bytesI a) (List.map (fun b=>(Dt.int ((UInt8.toNat b):Int))) (Array.toList (ByteArray.data (Dt.toStr (Dt.str ⟨(qtL (Dt.S d 2).data.toList).toArray⟩)))))).bind _)=_
   rw[a1];rfl
  ·have hfl:∀f∈Dt.L d 4,f.bulk=(Dt.fld f 1).bulk+(Dt.S f 0).size+2∧(Dt.S f 0).size<m+2∧(Dt.S f 0).size≤1000000000:=fun f hf=>by
        have:=wf_size hw f hf
        have:=bulk_mem hf
        exact⟨by omega,by omega,by omega⟩
   have hsz:∀f∈Dt.L d 4,(Dt.S (Dt.fld f 1) 2).size≤m:=fun f hf=>by have:=wv_size (p4 f hf).1;have:=(p4 f hf).2;omega
   obtain⟨x,hsp,_⟩:=special_eq m (Dt.L d 4) hsz fun f hf=>by have:=wv_size (p4 f hf).1;have:=(p4 f hf).2;omega
   have hlp:=ad_loop (m+2) (i11 (m+2)) (txt N) (perr N) (Dt.L d 4) (by omega) hfl
        (fun f hf=>ih _ (p4 f hf).1 (r4 f hf) (by have:=(p4 f hf).2;omega) (hs5 e f hf) (m+1) (by omega))
        (fun f hf=>txt_len N _ (p4 f hf).1 (r4 f hf) (by have:=(p4 f hf).2;omega)) (m+3) 0 (a++[123]) (Nat.zero_le _) (by omega) (by simp;omega)
   rw[List.drop_zero] at hlp
   obtain⟨r,h1,h2⟩:=hlp
   have a1:app (bytesI a) [Dt.int 123]=some (bytesI (a++[123])):=c [123] (by simp;omega)
   rw[e]
   show ∃r,((i18 (m+3) (Dt.L d 4) (bytesI a)).bind fun r17=>some (r17.1,r17.2))=some (bif spc (Dt.L d 4) then 4 else erF (fun f=>perr N (Dt.fld f 1)) (Dt.L d 4),r)∧((bif spc (Dt.L d 4) then 4 else erF (fun f=>perr N (Dt.fld f 1)) (Dt.L d 4))=0→r=bytesI (a++([123]++(lsF (fun f=>qtL (Dt.S f 0).data.toList++([58]++txt N (Dt.fld f 1))) 0 (Dt.L d 4)++[125]))))
   rw[i18]
   simp only[hsp,Option.bind_some]
   cases spc (Dt.L d 4)
   ·    have h1':i18_l2 (m+2) (i11 (m+2)) (Nat.succ (m+2)) (Dt.L d 4) ((Dt.L d 4).length:Int) 0 (bytesI (a++[123]))=_:=h1
        refine⟨r,by simp only[cond_false,i18_j0,i18_j1,a1,Option.bind_some,h1'],fun h0=>?_⟩
        rw[h2 h0,List.append_assoc]
   ·exact⟨[],rfl,fun h0=>by cases h0⟩
  ·have hlp:=al_loop (m+2) (i11 (m+2)) (txt N) (perr N) (Dt.L d 3) (by omega)
        (fun x hx=>ih _ (p3 x hx).1 (r3 x hx) (by have:=(p3 x hx).2;omega) (hs6 e x hx) (m+1) (by omega))
        (fun x hx=>txt_len N _ (p3 x hx).1 (r3 x hx) (by have:=(p3 x hx).2;omega)) (m+3) 0 (a++[91]) (Nat.zero_le _) (by omega) (by simp;omega)
   rw[List.drop_zero] at hlp
   obtain⟨r,h1,h2⟩:=hlp
   have a1:app (bytesI a) [Dt.int 91]=some (bytesI (a++[91])):=c [91] (by simp;omega)
   rw[e]
   show ∃r,((i17 (m+3) (Dt.L d 3) (bytesI a)).bind fun r17=>some (r17.1,r17.2))=some (erF (perr N) (Dt.L d 3),r)∧(erF (perr N) (Dt.L d 3)=0→r=bytesI (a++([91]++(lsF (txt N) 0 (Dt.L d 3)++[93]))))
   rw[i17]
   have h1':i17_l1 (m+2) (i11 (m+2)) (Nat.succ (m+2)) (Dt.L d 3) ((Dt.L d 3).length:Int) 0 (bytesI (a++[91]))=_:=h1
   refine⟨r,by simp only[i17_j0,a1,Option.bind_some,h1'],fun h0=>?_⟩
   rw[h2 h0,List.append_assoc]
  ·have a1:app (bytesI a) [Dt.int 123,Dt.int 34,Dt.int 36,Dt.int 98,Dt.int 121,Dt.int 116,Dt.int 101,Dt.int 115,Dt.int 34,Dt.int 58,Dt.int 34]=_:=c litBytes (by simp[litBytes];omega)
   have a2:=hex (a++litBytes) (by simp[litBytes];omega)
   have a3:app (bytesI ((a++litBytes)++hxL (Dt.S d 2).data.toList)) [Dt.int 34,Dt.int 125]=some (bytesI (((a++litBytes)++hxL (Dt.S d 2).data.toList)++litEnd)):=apI _ litEnd (by simp[litBytes,litEnd];omega)
   rw[e]
   show ∃r,(bif decide ((2048:Int)<((Dt.S d 2).size:Int)) then some ((2:Int),([]:List Dt)) else i11_j1 (m+3) (i17 (m+3)) (i18 (m+3)) (bytesI a) d)=some (bif decide ((2048:Int)<((Dt.S d 2).size:Int)) then 2 else 0,r)∧((bif decide ((2048:Int)<((Dt.S d 2).size:Int)) then(2:Int) else 0)=0→r=bytesI (a++(litBytes++(hxL (Dt.S d 2).data.toList++litEnd))))
   cases decide ((2048:Int)<((Dt.S d 2).size:Int))
   ·refine⟨bytesI (((a++litBytes)++hxL (Dt.S d 2).data.toList)++litEnd),by simp only[cond_false,i11_j1,a1,a2,a3,Option.bind_some,i11_j0],fun _=>by simp only[List.append_assoc]⟩
   ·exact⟨[],rfl,fun h0=>by cases h0⟩
  ·have a1:app (bytesI a) [Dt.int 123,Dt.int 34,Dt.int 36,Dt.int 105,Dt.int 100,Dt.int 34,Dt.int 58,Dt.int 34]=_:=c litId (by simp[litId];omega)
   have a2:=hex (a++litId) (by simp[litId];omega)
   have a3:app (bytesI ((a++litId)++hxL (Dt.S d 2).data.toList)) [Dt.int 34,Dt.int 125]=some (bytesI (((a++litId)++hxL (Dt.S d 2).data.toList)++litEnd)):=apI _ litEnd (by simp[litId,litEnd];omega)
   rw[e]
   refine⟨bytesI (((a++litId)++hxL (Dt.S d 2).data.toList)++litEnd),?_,fun _=>by show bytesI _=bytesI (a++(litId++(hxL (Dt.S d 2).data.toList++litEnd)));simp only[List.append_assoc]⟩
   show ((app (bytesI a) [Dt.int 123,Dt.int 34,Dt.int 36,Dt.int 105,Dt.int 100,Dt.int 34,Dt.int 58,Dt.int 34]).bind fun v10=>(i16 (m+3) (Dt.S d 2) v10).bind fun r11=>(app r11 [Dt.int 34,Dt.int 125]).bind fun v12=>i11_j0 (m+3) (i17 (m+3)) (i18 (m+3)) v12)=_
   simp only[a1,a2,a3,Option.bind_some,i11_j0]
   rfl
  ·have a1:=appBool_eq (m+1) (Dt.I d 1==1) a (by omega)
   rw[e]
   refine⟨bytesI (a++bif Dt.I d 1==1 then litTrue else litFalse),?_,fun _=>rfl⟩
   show ((i12 (m+3) (Dt.I d 1==1) (bytesI a)).bind _)=_
   rw[a1];rfl
  ·have a1:app (bytesI a) [Dt.int 123,Dt.int 34,Dt.int 36,Dt.int 116,Dt.int 105,Dt.int 109,Dt.int 101,Dt.int 34,Dt.int 58]=_:=c litTime (by simp[litTime];omega)
   have a2:=appInt_eq _ r1.1 r1.2 (a++litTime) (by simp[litTime];omega)
   have a3:app (bytesI ((a++litTime)++Lib.itoa (Dt.I d 1))) [Dt.int 125]=some (bytesI (((a++litTime)++Lib.itoa (Dt.I d 1))++[125])):=apI _ [125] (by simp[litTime];omega)
   rw[e]
   refine⟨bytesI (((a++litTime)++Lib.itoa (Dt.I d 1))++[125]),?_,fun _=>by show bytesI _=bytesI (a++(litTime++(Lib.itoa (Dt.I d 1)++[125])));simp only[List.append_assoc]⟩
   show ((app (bytesI a) [Dt.int 123,Dt.int 34,Dt.int 36,Dt.int 116,Dt.int 105,Dt.int 109,Dt.int 101,Dt.int 34,Dt.int 58]).bind fun v5=>(strconv_AppendInt (Dt.I d 1) 10 v5).bind fun r6=>(app r6 [Dt.int 125]).bind fun v7=>i11_j0 (m+3) (i17 (m+3)) (i18 (m+3)) v7)=_
   simp only[a1,a2,a3,Option.bind_some,i11_j0]
   rfl
  ·have a1:app (bytesI a) [Dt.int 123,Dt.int 34,Dt.int 36,Dt.int 109,Dt.int 97,Dt.int 120,Dt.int 34,Dt.int 58,Dt.int 49,Dt.int 125]=_:=c litMax (by simp[litMax];omega)
   rw[e]
   refine⟨bytesI (a++litMax),?_,fun _=>rfl⟩
   show ((app (bytesI a) [Dt.int 123,Dt.int 34,Dt.int 36,Dt.int 109,Dt.int 97,Dt.int 120,Dt.int 34,Dt.int 58,Dt.int 49,Dt.int 125]).bind _)=_
   rw[a1];rfl
  ·omega
end Go.Proofs.YtmejbpmceflcjaaDoor
namespace Go.Proofs.YtmejbpmceflcjaaDoor
open Go.Am
end Go.Proofs.YtmejbpmceflcjaaDoor
