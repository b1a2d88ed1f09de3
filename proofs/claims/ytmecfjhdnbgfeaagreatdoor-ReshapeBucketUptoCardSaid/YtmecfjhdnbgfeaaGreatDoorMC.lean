/- Valid and well-formed values: the program's test and the reference's, in plain Lean.
Values:how many levels a value has;valid and well-formed values:the program and the reference agree.
How much the parts of a datum hold. -/
import Derived.Test.YtmecfjhdnbgfeaaGreatDoorMA
set_option linter.unusedVariables false
set_option linter.unusedSimpArgs false
namespace Go.Proofs.YtmecfjhdnbgfeaaGreatDoor
open Go.Am
def shp (d:Dt):Bool:=
 (Dt.I d 0==3||Dt.I d 0==9||Dt.I d 0==10||Dt.I d 1==0)&&(Dt.I d 0==4||Dt.I d 0==7||Dt.I d 0==8||(Dt.S d 2).toList==[])&&
 (Dt.I d 0==6||!(decide ((0:Int)<((Dt.L d 3).length:Int))))&&(Dt.I d 0==5||!(decide ((0:Int)<((Dt.L d 4).length:Int))))
def fl (p:ByteArray→Bool) (self:Dt→Bool):List ByteArray→List Dt→Bool
 |_,[]=>true
 |seen,f::r=>p (Dt.S f 0)&&!(seen.any (eqb (Dt.S f 0)))&&self (Dt.fld f 1)&&fl p self (seen++[Dt.S f 0]) r
def sndF (p:ByteArray→Bool):Nat→Dt→Bool
 |0,_=>false
 |  n+1,d=>shp d&&(bif Dt.I d 0==9 then(Dt.I d 1==0||Dt.I d 1==1) else bif Dt.I d 0==10 then decide ((0:Int)≤Dt.I d 1) else bif Dt.I d 0==4 then(decide (((Dt.S d 2).size:Int)≤4096)&&Lib.validD (Dt.S d 2).data.toList) else
    bif Dt.I d 0==7 then decide (((Dt.S d 2).size:Int)≤4096) else bif Dt.I d 0==8 then(((Dt.S d 2).size:Int)==12) else bif Dt.I d 0==6 then(Dt.L d 3).all (sndF p n) else bif Dt.I d 0==5 then fl p (sndF p n) [] (Dt.L d 4) else(decide (1≤Dt.I d 0)&&decide (Dt.I d 0≤11)))
theorem alg (k:Int):k=1∨k=2∨k=3∨k=4∨k=5∨k=6∨k=7∨k=8∨k=9∨k=10∨k=11∨(k<1∨11<k):=by omega
theorem kno {k:Int} (h:k<1∨11<k):(k==1)=false∧(k==2)=false∧(k==3)=false∧(k==4)=false∧(k==5)=false∧(k==6)=false∧(k==7)=false∧(k==8)=false∧(k==9)=false∧(k==10)=false∧(k==11)=false:=by
 refine⟨?_,?_,?_,?_,?_,?_,?_,?_,?_,?_,?_⟩<;>rw[beq_eq_false_iff_ne]<;>omega
theorem zh (m:Nat) (s:ByteArray) (hs:s.size<9223372036854775807):∀(M i:Nat),i≤s.size→s.size-i<M→dV m M s (s.size:Int) (i:Int)=some ((s.data.toList.drop i).all okB)
 |0,i,_,h=>by omega
 |M+1,i,hi,h=>by
  simp only[dV,dlt]
  by_cases hlt:i<s.size
  ·rw[S9 s i hlt]
   simp only[hlt,decide_true,cond_true,dU,dW,oK hlt,Option.bind_some,aM (show i<9223372036854775807 by omega),zh m s hs M (i+1) (by omega) (by omega),List.all_cons,okB]
   cases decide (((s[i]).toNat:Int)<33)<;>cases decide ((126:Int)<((s[i]).toNat:Int))<;>cases (((s[i]).toNat:Int)==46)<;>rfl
  ·have:i=s.size:=by omega
   subst this
   rw[List.drop_eq_nil_of_le (by rw[GR];omega)]
   simp[dU,dW]
theorem Ku (m:Nat) (hm:33≤m) (s:ByteArray):lZ (m+1) s=some (nm s):=by
 simp only[lZ]
 by_cases h1:s.size<1
 ·have:decide ((s.size:Int)<1)=true:=by simp;omega
  simp only[this,cond_true,dU,dW,LK s h1]
 have e1:decide ((s.size:Int)<1)=false:=by simp;omega
 by_cases h2:32<s.size
 ·have:decide ((32:Int)<(s.size:Int))=true:=by simp;omega
  simp only[e1,this,cond_true,cond_false,dU,dW,KD s h2]
 have e2:decide ((32:Int)<(s.size:Int))=false:=by simp;omega
 have hx:=oK (s:=s) (i:=0) (by omega)
 have hl:=zh m s (by omega) (m+1) 0 (by omega) (by omega)
 rw[List.drop_zero] at hl
 have hl':dV m (Nat.succ m) s (s.size:Int) 0=some (s.data.toList.all okB):=hl
 simp only[e1,e2,cond_false,show idxS s 0=_ from hx,Option.bind_some,dU,dW,hl',LJ s (by omega) (by omega)]
 cases (((s[0]).toNat:Int)==36)<;>rfl
def okW (c:UInt8):Bool:=!(decide ((c.toNat:Int)<32)||decide ((126:Int)<c.toNat))
def wd (s:ByteArray):Bool:=decide (1≤s.size)&&decide (s.size≤128)&&s.data.toList.all okW
theorem Ru (m:Nat) (s:ByteArray) (hs:s.size<9223372036854775807):∀(M i:Nat),i≤s.size→s.size-i<M→iF m M s (i:Int)=some ((s.data.toList.drop i).all okW)
 |0,i,_,h=>by omega
 |M+1,i,hi,h=>by
  simp only[iF,dlt]
  by_cases hlt:i<s.size
  ·rw[S9 s i hlt]
   simp only[hlt,decide_true,cond_true,iE,iG,oK hlt,Option.bind_some,aM (show i<9223372036854775807 by omega),Ru m s hs M (i+1) (by omega) (by omega),List.all_cons,okW]
   cases decide (((s[i]).toNat:Int)<32)<;>cases decide ((126:Int)<((s[i]).toNat:Int))<;>rfl
  ·have:i=s.size:=by omega
   subst this
   rw[List.drop_eq_nil_of_le (by rw[GR];omega)]
   simp[iE,iG]
theorem akz (m:Nat) (hm:129≤m) (s:ByteArray):lV (m+1) s=some (wd s):=by
 simp only[lV,wd]
 by_cases h1:s.size<1
 ·have:decide ((s.size:Int)<1)=true:=by simp;omega
  have e:decide (1≤s.size)=false:=decide_eq_false (by omega)
  simp only[this,cond_true,iE,iG,e,Bool.false_and]
 have e1:decide ((s.size:Int)<1)=false:=by simp;omega
 have f1:decide (1≤s.size)=true:=by simp;omega
 by_cases h2:128<s.size
 ·have:decide ((128:Int)<(s.size:Int))=true:=by simp;omega
  have e:decide (s.size≤128)=false:=by simp;omega
  simp only[e1,f1,this,cond_true,cond_false,iE,iG,e,Bool.false_and,Bool.and_false]
 have e2:decide ((128:Int)<(s.size:Int))=false:=by simp;omega
 have f2:decide (s.size≤128)=true:=by simp;omega
 have hl:=Ru m s (by omega) (m+1) 0 (by omega) (by omega)
 rw[List.drop_zero] at hl
 have hl':iF m (Nat.succ m) s 0=some (s.data.toList.all okW):=hl
 simp only[e1,e2,f1,f2,cond_false,iE,iG,hl',Bool.true_and]
theorem acj (m:Nat) (hm:34≤m) (self:Dt→Option Bool) (g:Dt→Bool) (L:List Dt) (hl:L.length<9223372036854775807) (hs:∀f∈L,self (Dt.fld f 1)=some (g (Dt.fld f 1))):∀(M i:Nat) (mp:List Dt),i≤L.length→L.length-i<M→afM mp ((L.take i).map fun f=>Dt.S f 0)→
  bU m self M L (L.length:Int) (i:Int) mp=some (fl nm g ((L.take i).map fun f=>Dt.S f 0) (L.drop i))
 |0,i,_,_,h,_=>by omega
 |M+    1,i,mp,hi,h,hmp=>by
  obtain⟨m,rfl⟩:∃q,m=q+1:=⟨m-1,by omega⟩
  simp only[bU,dlt]
  by_cases hlt:i<L.length
  ·have hr:=hs _ (List.getElem_mem hlt)
   have hp:=hmp (Dt.S L[i] 0)
   have hmp':=VR hmp (Dt.S L[i] 0)
   have et:(L.take (i+1)).map (fun f=>Dt.S f 0)=((L.take i).map fun f=>Dt.S f 0)++[Dt.S L[i] 0]:=by
        rw[List.take_succ_eq_append_getElem hlt,List.map_append];rfl
   rw[←et] at hmp'
   have ih:=acj (m+1) hm self g L hl hs M (i+1) _ (by omega) (by omega) hmp'
   rw[List.drop_eq_getElem_cons hlt,fl,←et]
   simp only[hlt,decide_true,cond_true,dz,aC hlt,Option.bind_some,hr,hp,Ku m (by omega),aM (show i<9223372036854775807 by omega),ih]
   cases nm (Dt.S L[i] 0)<;>cases ((L.take i).map fun f=>Dt.S f 0).any (eqb (Dt.S L[i] 0))<;>cases g (Dt.fld L[i] 1)<;>rfl
  ·have:i=L.length:=by omega
   subst this
   simp[dz,fl]
theorem aco (m:Nat) (self:Dt→Option Bool) (self2:List Dt→Option Bool) (g:Dt→Bool) (L:List Dt) (hl:L.length<9223372036854775807) (hs:∀e∈L,self e=some (g e)):∀(M i:Nat),i≤L.length→L.length-i<M→
  kZ m self self2 M L (L.length:Int) (i:Int)=some ((L.drop i).all g)
 |0,i,_,h=>by omega
 |M+1,i,hi,h=>by
  simp only[kZ,dlt]
  by_cases hlt:i<L.length
  ·have hr:=hs _ (List.getElem_mem hlt)
   have ih:=aco m self self2 g L hl hs M (i+1) (by omega) (by omega)
   rw[List.drop_eq_getElem_cons hlt,List.all_cons]
   simp only[hlt,decide_true,cond_true,qF,dO,lg,eX,lq,eY,eZ,fq,aC hlt,Option.bind_some,hr,aM (show i<9223372036854775807 by omega),ih]
   cases g L[i]<;>rfl
  ·have:i=L.length:=by omega
   subst this
   simp[qF,dO,lg,eX,lq,eY,eZ,fq]
theorem ant (m:Nat) (d:Dt):aI (m+1) d=bif shp d then dO m (aI m) (aH m) (Dt.I d 0) (Dt.I d 0==1||Dt.I d 0==2||Dt.I d 0==11||Dt.I d 0==3) d else some false:=by
 have e5:∀s1 s2,lg m s1 s2 d=dO m s1 s2 (Dt.I d 0) (Dt.I d 0==1||Dt.I d 0==2||Dt.I d 0==11||Dt.I d 0==3) d:=fun s1 s2=>by
  simp only[lg]
  cases (Dt.I d 0==1)<;>cases (Dt.I d 0==2)<;>cases (Dt.I d 0==11)<;>rfl
 have e3:∀s1 s2,lq m s1 s2 d=bif (Dt.I d 0==6||!(decide ((0:Int)<((Dt.L d 3).length:Int))))&&(Dt.I d 0==5||!(decide ((0:Int)<((Dt.L d 4).length:Int)))) then lg m s1 s2 d else some false:=fun s1 s2=>by
  simp only[lq,eX,bne]
  cases (Dt.I d 0==6)<;>cases (Dt.I d 0==5)<;>cases decide ((0:Int)<((Dt.L d 3).length:Int))<;>cases decide ((0:Int)<((Dt.L d 4).length:Int))<;>rfl
 have e1:∀s1 s2 x0 x1,eZ m s1 s2 x0 x1 d=bif (x0||Dt.I d 1==0)&&(x1||(Dt.S d 2).toList==[]) then lq m s1 s2 d else some false:=fun s1 s2 x0 x1=>by
  simp only[eZ,eY,bne]
  cases x0<;>cases x1<;>cases (Dt.I d 1==0)<;>cases ((Dt.S d 2).toList==[])<;>rfl
 have e0:∀s1 s2 x0,fq m s1 s2 x0 d=eZ m s1 s2 x0 (Dt.I d 0==4||Dt.I d 0==7||Dt.I d 0==8) d:=fun s1 s2 x0=>by
  simp only[fq]
  cases (Dt.I d 0==4)<;>cases (Dt.I d 0==7)<;>rfl
 have e:aI (m+1) d=fq m (aI m) (aH m) (Dt.I d 0==3||Dt.I d 0==9||Dt.I d 0==10) d:=by
  simp only[aI]
  cases (Dt.I d 0==3)<;>cases (Dt.I d 0==9)<;>rfl
 rw[e,e0,e1,e3,e5]
 unfold shp
 cases (Dt.I d 0==3||Dt.I d 0==9||Dt.I d 0==10||Dt.I d 1==0)<;>cases (Dt.I d 0==4||Dt.I d 0==7||Dt.I d 0==8||(Dt.S d 2).toList==[])<;>cases (Dt.I d 0==6||!(decide ((0:Int)<((Dt.L d 3).length:Int))))<;>cases (Dt.I d 0==5||!(decide ((0:Int)<((Dt.L d 4).length:Int))))<;>rfl
theorem Rv:∀(N:Nat) (d:Dt),d.bulk≤N→N≤137438953472→WV d→∀m,2*N+40≤m→aI (m+1) d=some (sndF nm N d)
 |0,d,h,_,_,_,_=>by have:=fH d;omega
 |N+1,d,h,hN,hw,m,hm=>by
  obtain⟨m,rfl⟩:∃q,m=q+2:=⟨m-2,by omega⟩
  obtain⟨p1,p2,p3,p4⟩:=AX hw
  have ih:∀e:Dt,WV e→e.bulk≤N→∀q,2*N+40≤q→aI (q+1) e=some (sndF nm N e):=fun e hwe hbe q hq=>Rv N e hbe (by omega) hwe q hq
  have k1:=aco (m+2) (aI (m+2)) (aH (m+2)) (sndF nm N) (Dt.L d 3) (by omega) (fun e he=>ih e (p3 e he).1 (by have:=(p3 e he).2;omega) (m+1) (by omega)) (m+3) 0 (Nat.zero_le _) (by omega)
  have k2:=acj (m+1) (by omega) (aI (m+1)) (sndF nm N) (Dt.L d 4) (by omega) (fun f hf=>ih _ (p4 f hf).1 (by have:=(p4 f hf).2;omega) m (by omega)) (m+2) 0 [] (Nat.zero_le _) (by omega) VQ
  rw[List.drop_zero] at k1 k2
  have k1':kZ (m+2) (aI (m+2)) (aH (m+2)) (Nat.succ (m+2)) (Dt.L d 3) ((Dt.L d 3).length:Int) 0=some ((Dt.L d 3).all (sndF nm N)):=k1
  have k2':aH (m+2) (Dt.L d 4)=some (fl nm (sndF nm N) [] (Dt.L d 4)):=by
   simp only[aH,dz]
   exact k2
  rw[ant]
  have hj:qF (m+2) (aI (m+2)) (aH (m+2)) (Dt.L d 3) ((Dt.L d 3).length:Int) 0=some ((Dt.L d 3).all (sndF nm N)):=k1'
  simp only[dO,hj,k2',Option.bind_some,utf8_ValidString,sndF]
  cases shp d
  ·rfl
  simp only[cond_true,Bool.true_and]
  generalize (Dt.L d 3).all (sndF nm N)=a1
  generalize fl nm (sndF nm N) [] (Dt.L d 4)=a2
  generalize Lib.validD (Dt.S d 2).data.toList=a3
  generalize Dt.I d 0=k
  generalize ((Dt.S d 2).size:Int)=sz
  generalize Dt.I d 1=n
  rcases alg k with rfl|rfl|rfl|rfl|rfl|rfl|rfl|rfl|rfl|rfl|rfl|hk
  case inr.inr.inr.inr.inr.inr.inr.inr.inr.inr.inr=>
   obtain⟨q1,q2,q3,q4,q5,q6,q7,q8,q9,q10,q11⟩:=kno hk
   simp only[q1,q2,q3,q4,q5,q6,q7,q8,q9,q10,q11,Bool.or_self,cond_false]
   have:(decide (1≤k)&&decide (k≤11))=false:=by rw[Bool.and_eq_false_iff];simp;omega
   rw[this]
  all_goals first|rfl|(cases (n==0)<;>rfl)|(show (bif decide (sz≤4096) then some a3 else some false)=some (decide (sz≤4096)&&a3);cases decide (sz≤4096)<;>rfl)
def nmP (names:Bool) (s:ByteArray):Bool:=bif names then nm s else wd s
theorem alh (m:Nat) (self:Dt→Bool→Option Bool) (names:Bool) (rec1:Bool→Int→Dt→Option Bool) (d f:Dt) (i:Nat) (hi:i<(Dt.L d 4).length) (hl:(Dt.L d 4).length<9223372036854775807):∀(M k:Nat),k≤i→i-k<M→
  jw m self rec1 M names (i:Int) (k:Int) d f=bif ((((Dt.L d 4).take i).drop k).map fun e=>Dt.S e 0).any (eqb (Dt.S f 0)) then some false else rec1 names ((i+1:Nat):Int) d
 |0,k,_,h=>by omega
 |M+1,k,hk,h=>by
  simp only[jw,dlt]
  by_cases hlt:k<i
  ·have hk2:k<((Dt.L d 4).take i).length:=by rw[List.length_take];omega
   have ih:=alh m self names rec1 d f i hi hl M (k+1) (by omega) (by omega)
   rw[List.drop_eq_getElem_cons hk2,List.map_cons,List.any_cons,List.getElem_take]
   simp only[hlt,decide_true,cond_true,bL,aC (show k<(Dt.L d 4).length by omega),Option.bind_some,aM (show k<9223372036854775807 by omega),ih]
   rw[Fa (Dt.S f 0)]
   unfold eqb
   cases ((Dt.S (Dt.L d 4)[k] 0).toList==(Dt.S f 0).toList)<;>rfl
  ·have:k=i:=by omega
   subst this
   rw[List.drop_eq_nil_of_le (by rw[List.length_take];omega)]
   simp only[hlt,decide_false,cond_false,bL,aM (show k<9223372036854775807 by omega)]
   rfl
theorem acp (m:Nat) (hm:140≤m) (self:Dt→Bool→Option Bool) (g:Dt→Bool) (names:Bool) (d:Dt) (hl:(Dt.L d 4).length<m) (hl2:m<9223372036854775807) (hs:∀f∈Dt.L d 4,self (Dt.fld f 1) names=some (g (Dt.fld f 1))):∀(M i:Nat),i≤(Dt.L d 4).length→(Dt.L d 4).length-i<M→
  bA m self M names (i:Int) d=some (fl (nmP names) g (((Dt.L d 4).take i).map fun f=>Dt.S f 0) ((Dt.L d 4).drop i))
 |0,i,_,h=>by omega
 |M+    1,i,hi,h=>by
  obtain⟨m,rfl⟩:∃q,m=q+1:=⟨m-1,by omega⟩
  simp only[bA,dlt]
  by_cases hlt:i<(Dt.L d 4).length
  ·have hr:=hs _ (List.getElem_mem hlt)
   have et:((Dt.L d 4).take (i+1)).map (fun f=>Dt.S f 0)=(((Dt.L d 4).take i).map fun f=>Dt.S f 0)++[Dt.S (Dt.L d 4)[i] 0]:=by
        rw[List.take_succ_eq_append_getElem hlt,List.map_append];rfl
   have ih:=acp (m+1) hm self g names d hl hl2 hs M (i+1) (by omega) (by omega)
   have hin:=alh (m+1) self names (bA (m+1) self M) d (Dt.L d 4)[i] i hlt (by omega) (m+2) 0 (by omega) (by omega)
   rw[List.drop_zero,ih] at hin
   have hin':jw (m+1) self (bA (m+1) self M) (Nat.succ (m+1)) names (i:Int) 0 d (Dt.L d 4)[i]=_:=hin
   rw[List.drop_eq_getElem_cons hlt,fl,←et]
   simp only[hlt,decide_true,cond_true,bL,aC hlt,Option.bind_some,KE m (by omega),akz m (by omega),hr,hin',nmP]
   cases names<;>cases nm (Dt.S (Dt.L d 4)[i] 0)<;>cases wd (Dt.S (Dt.L d 4)[i] 0)<;>cases (((Dt.L d 4).take i).map fun f=>Dt.S f 0).any (eqb (Dt.S (Dt.L d 4)[i] 0))<;>cases g (Dt.fld (Dt.L d 4)[i] 1)<;>rfl
  ·have:i=(Dt.L d 4).length:=by omega
   subst this
   simp[bL,fl]
theorem XG (m:Nat) (self self2:Dt→Bool→Option Bool) (g:Dt→Bool) (names:Bool) (d:Dt) (hl:(Dt.L d 3).length<9223372036854775807) (hs:∀e∈Dt.L d 3,self e names=some (g e)) (r:Bool) (hr:self2 d names=some r):∀(M i:Nat),i≤(Dt.L d 3).length→(Dt.L d 3).length-i<M→
  mq m self self2 M names (i:Int) d=some (((Dt.L d 3).drop i).all g&&r)
 |0,i,_,h=>by omega
 |M+1,i,hi,h=>by
  simp only[mq,dlt]
  by_cases hlt:i<(Dt.L d 3).length
  ·have hr2:=hs _ (List.getElem_mem hlt)
   have ih:=XG m self self2 g names d hl hs r hr M (i+1) (by omega) (by omega)
   rw[List.drop_eq_getElem_cons hlt,List.all_cons]
   simp only[hlt,decide_true,cond_true,aC hlt,Option.bind_some,hr2,aM (show i<9223372036854775807 by omega),ih]
   cases g (Dt.L d 3)[i]<;>rfl
  ·have:i=(Dt.L d 3).length:=by omega
   subst this
   simp[hr]
theorem anu (m:Nat) (d:Dt) (names:Bool):aD (m+1) d names=bif shp d&&(decide (1≤Dt.I d 0)&&decide (Dt.I d 0≤11)) then pG m (aD m) (bg m) names d else some false:=by
 have e3:∀s1 s2 x1 x2,gQ m s1 s2 names x1 x2 d=bif (x1||(Dt.S d 2).toList==[])&&(x2||Dt.I d 1==0)&&(!(decide (Dt.I d 0<1))&&!(decide (11<Dt.I d 0))) then pG m s1 s2 names d else some false:=fun s1 s2 x1 x2=>by
  simp only[gQ,bE,bne]
  cases x1<;>cases x2<;>cases (Dt.I d 1==0)<;>cases ((Dt.S d 2).toList==[])<;>cases decide (Dt.I d 0<1)<;>cases decide (11<Dt.I d 0)<;>rfl
 have e2:∀s1 s2 x1,gT m s1 s2 names x1 d=gQ m s1 s2 names x1 (Dt.I d 0==3||Dt.I d 0==9||Dt.I d 0==10) d:=fun s1 s2 x1=>by
  simp only[gT]
  cases (Dt.I d 0==3)<;>cases (Dt.I d 0==9)<;>rfl
 have e1:∀s1 s2,pI m s1 s2 names d=gT m s1 s2 names (Dt.I d 0==4||Dt.I d 0==7||Dt.I d 0==8) d:=fun s1 s2=>by
  simp only[pI]
  cases (Dt.I d 0==4)<;>cases (Dt.I d 0==7)<;>rfl
 have e:aD (m+1) d names=bif (Dt.I d 0==6||!(decide ((0:Int)<((Dt.L d 3).length:Int))))&&(Dt.I d 0==5||!(decide ((0:Int)<((Dt.L d 4).length:Int)))) then pI m (aD m) (bg m) names d else some false:=by
  simp only[aD,gU,bne]
  cases (Dt.I d 0==6)<;>cases (Dt.I d 0==5)<;>cases decide ((0:Int)<((Dt.L d 3).length:Int))<;>cases decide ((0:Int)<((Dt.L d 4).length:Int))<;>rfl
 have d1:(!(decide (Dt.I d 0<1)))=decide (1≤Dt.I d 0):=by rw[Bool.eq_iff_iff];simp
 have d2:(!(decide (11<Dt.I d 0)))=decide (Dt.I d 0≤11):=by rw[Bool.eq_iff_iff];simp
 rw[e,e1,e2,e3,d1,d2]
 unfold shp
 cases (Dt.I d 0==3||Dt.I d 0==9||Dt.I d 0==10||Dt.I d 1==0)<;>cases (Dt.I d 0==4||Dt.I d 0==7||Dt.I d 0==8||(Dt.S d 2).toList==[])<;>cases (Dt.I d 0==6||!(decide ((0:Int)<((Dt.L d 3).length:Int))))<;>cases (Dt.I d 0==5||!(decide ((0:Int)<((Dt.L d 4).length:Int))))<;>rfl
theorem aqw {l:List Dt} (h:(!(decide ((0:Int)<(l.length:Int))))=true):l=[]:=by
 refine List.eq_nil_of_length_eq_zero ?_
 have:decide ((0:Int)<(l.length:Int))=false:=by simpa using h
 have:=of_decide_eq_false this
 omega
theorem Od (names:Bool):∀(N:Nat) (d:Dt),d.bulk≤N→N≤100000000000→WV d→∀m,2*N+200≤m→m<9223372036854775807→aD (m+1) d names=some (sndF (nmP names) N d)
 |0,d,h,_,_,_,_,_=>by have:=fH d;omega
 |N+1,d,h,hN,hw,m,hm,hm2=>by
  obtain⟨m,rfl⟩:∃q,m=q+2:=⟨m-2,by omega⟩
  obtain⟨p1,p2,p3,p4⟩:=AX hw
  have ih:∀e:Dt,WV e→e.bulk≤N→∀q,2*N+200≤q→q<9223372036854775807→aD (q+1) e names=some (sndF (nmP names) N e):=fun e hwe hbe q hq hq2=>Od names N e hbe (by omega) hwe q hq hq2
  have k2:=acp (m+1) (by omega) (aD (m+1)) (sndF (nmP names) N) names d (by omega) (by omega) (fun f hf=>ih _ (p4 f hf).1 (by have:=(p4 f hf).2;omega) m (by omega) (by omega)) (m+2) 0 (Nat.zero_le _) (by omega)
  rw[List.drop_zero] at k2
  have k2':bg (m+2) d names=some (fl (nmP names) (sndF (nmP names) N) [] (Dt.L d 4)):=by
   simp only[bg]
   exact k2
  have k1:=XG (m+2) (aD (m+2)) (bg (m+2)) (sndF (nmP names) N) names d (by omega) (fun e he=>ih e (p3 e he).1 (by have:=(p3 e he).2;omega) (m+1) (by omega) (by omega)) _ k2' (m+3) 0 (Nat.zero_le _) (by omega)
  rw[List.drop_zero] at k1
  have k1':zH (m+2) (aD (m+2)) (bg (m+2)) names d=some ((Dt.L d 3).all (sndF (nmP names) N)&&fl (nmP names) (sndF (nmP names) N) [] (Dt.L d 4)):=k1
  rw[anu]
  have hsz:(Dt.S d 2).size≤d.bulk:=by
   cases hw with
   | @mk k i t l ds hl hd=>rw[mO];show t.size≤_;omega
  have hu:pU (m+2) (Dt.S d 2)=some (Lib.validD (Dt.S d 2).data.toList):=al8 (m+1) _ (by omega) (by omega)
  simp only[pG,k1',hu,Option.bind_some,sndF]
  cases hsh:shp d
  ·simp only[Bool.false_and,cond_false]
  have hsp:=hsh
  unfold shp at hsp
  have s6:(Dt.I d 0==6||!(decide ((0:Int)<((Dt.L d 3).length:Int))))=true:=by
   rw[Bool.and_eq_true_iff,Bool.and_eq_true_iff] at hsp;exact hsp.1.2
  have s5:(Dt.I d 0==5||!(decide ((0:Int)<((Dt.L d 4).length:Int))))=true:=by
   rw[Bool.and_eq_true_iff] at hsp;exact hsp.2
  have n3:Dt.I d 0≠6→Dt.L d 3=[]:=fun hne=>by
   rcases Bool.or_eq_true_iff.1 s6 with h|h
   ·exact absurd (by simpa using h) hne
   ·exact aqw h
  have n4:Dt.I d 0≠5→Dt.L d 4=[]:=fun hne=>by
   rcases Bool.or_eq_true_iff.1 s5 with h|h
   ·exact absurd (by simpa using h) hne
   ·exact aqw h
  simp only[Bool.true_and]
  generalize Dt.L d 3=l3 at*
  generalize Dt.L d 4=l4 at*
  generalize Lib.validD (Dt.S d 2).data.toList=a3
  generalize Dt.I d 0=k at*
  generalize ((Dt.S d 2).size:Int)=sz
  generalize Dt.I d 1=n
  rcases alg k with rfl|rfl|rfl|rfl|rfl|rfl|rfl|rfl|rfl|rfl|rfl|hk
  case inr.inr.inr.inr.inr.inr.inr.inr.inr.inr.inr=>
   obtain⟨q1,q2,q3,q4,q5,q6,q7,q8,q9,q10,q11⟩:=kno hk
   have:(decide (1≤k)&&decide (k≤11))=false:=by rw[Bool.and_eq_false_iff];simp;omega
   simp only[q1,q2,q3,q4,q5,q6,q7,q8,q9,q10,q11,this,cond_false]
  all_goals first
   |(have e3:=n3 (by decide);have e4:=n4 (by decide);subst e3 e4;rfl)
   |(have e4:=n4 (by decide);subst e4;show some (l3.all (sndF (nmP names) N)&&true)=some (l3.all (sndF (nmP names) N));rw[Bool.and_true])
   |(have e3:=n3 (by decide);subst e3;rfl)
   |(cases (n==0)<;>rfl)
   |(show (bif decide (sz≤4096) then some a3 else some false)=some (decide (sz≤4096)&&a3);cases decide (sz≤4096)<;>rfl)
end Go.Proofs.YtmecfjhdnbgfeaaGreatDoor
namespace Go.Proofs.YtmecfjhdnbgfeaaGreatDoor
open Go.Am
def mx (f:Dt→Nat):List Dt→Nat
 | []=>0
 |e::r=>max (f e) (mx f r)
theorem Oe {f g:Dt→Nat}:∀{L:List Dt},(∀e∈L,f e=g e)→mx f L=mx g L
 | [],_=>rfl
 |e::r,h=>by simp only[mx,h e (List.mem_cons_self ..),Oe fun x hx=>h x (List.mem_cons_of_mem _ hx)]
theorem aix (f:Dt→Nat) (k:Dt→Dt):∀L:List Dt,mx f (L.map k)=mx (fun x=>f (k x)) L
 | []=>rfl
 |e::r=>by simp only[List.map_cons,mx,aix f k r]
theorem Ux (f:Dt→Nat) {L:List Dt} {i:Nat} (h:i<L.length):mx f (L.drop i)=max (f L[i]) (mx f (L.drop (i+1))):=by rw[List.drop_eq_getElem_cons h];rfl
def adU:Nat→Dt→Nat
 |0,_=>1
 |n+1,d=>1+mx (adU n) (qx d)
theorem Rw:∀(n n':Nat) (d:Dt),WV d→d.bulk≤n→d.bulk≤n'→adU n d=adU n' d
 |0,_,d,_,h,_=>by have:=fH d;omega
 |_+1,0,d,_,_,h=>by have:=fH d;omega
 |n+1,n'+1,d,hw,h,h'=>by
  simp only[adU]
  congr 1
  refine Oe fun e he=>?_
  have:=BS hw e he
  exact Rw n n' e this.1 (by omega) (by omega)
def dpt (d:Dt):Nat:=adU d.bulk d
theorem aac {d:Dt} (hw:WV d):dpt d=1+mx dpt (qx d):=by
 obtain⟨k,hk⟩:∃k,d.bulk=k+1:=⟨d.bulk-1,by have:=fH d;omega⟩
 unfold dpt
 rw[hk]
 simp only[adU]
 congr 1
 refine Oe fun e he=>?_
 have:=BS hw e he
 exact Rw _ _ e this.1 (by omega) (Nat.le_refl _)
theorem acr (a b:Nat):(bif decide ((a:Int)<(b:Int)) then(b:Int) else(a:Int))=((max a b:Nat):Int):=by
 rw[dlt]
 by_cases h:a<b
 ·simp only[h,decide_true,cond_true];omega
 ·simp only[h,decide_false,cond_false];omega
theorem XH (m:Nat) (self:Dt→Int→Option Int) (L:List Dt) (hl:L.length<9223372036854775807) (most:Nat) (h2:2≤most) (h3:most<1000000) (hs:∀e∈L,self e ((most-1:Nat):Int)=some ((min (dpt e) (most-1):Nat):Int)):∀(M i best:Nat),i≤L.length→L.length-i<M→best≤most→
  jv m self M (most:Int) L (best:Int) (i:Int)=some ((max best (min (mx dpt (L.drop i)) (most-1))+1:Nat):Int)
 |0,i,_,_,h,_=>by omega
 |M+1,i,best,hi,h,hb=>by
  simp only[jv,dlt]
  by_cases hlt:i<L.length
  ·have hr:=hs _ (List.getElem_mem hlt)
   have hw:IntKind.wrap IntKind.i64 ((most:Int)-1)=((most-1:Nat):Int):=by rw[wrap64 (by omega) (by omega)];omega
   simp only[hlt,decide_true,cond_true,fC,aC hlt,Option.bind_some,hw,hr,acr,aM (show i<9223372036854775807 by omega),XH m self L hl most h2 h3 hs M (i+1) (max best (min (dpt L[i]) (most-1))) (by omega) (by omega) (by omega),Ux dpt hlt]
   congr 2
   omega
  ·rw[List.drop_eq_nil_of_le (by omega)]
   simp only[hlt,decide_false,cond_false,fC,mx]
   rw[wrap64 (by omega) (by omega)]
   congr 1
   omega
theorem Rx:∀(N:Nat) (d:Dt),d.bulk≤N→N≤137438953472→WV d→∀m,N≤m→∀most:Nat,1≤most→most<1000000→cK (m+2) d (most:Int)=some ((min (dpt d) most:Nat):Int)
 |0,d,h,_,_,_,_,_,_,_=>by have:=fH d;omega
 |N+    1,d,h,hN,hw,m,hm,most,h1,h3=>by
  obtain⟨m,rfl⟩:∃q,m=q+1:=⟨m-1,by omega⟩
  rw[cK,parts_eq d hw (m+1) (by omega) (by omega),Option.bind_some]
  have hd:=aac hw
  by_cases h2:most<2
  ·have:decide ((most:Int)<2)=true:=by simp;omega
   simp only[this,cond_true,fC]
   congr 1
   omega
  ·have e2:decide ((most:Int)<2)=false:=by rw[decide_eq_false_iff_not];omega
   by_cases h0:(qx d).length=0
   ·    have e0:((((qx d).length:Nat):Int)==0)=true:=by simp;exact List.length_eq_zero_iff.1 h0
        rw[List.length_eq_zero_iff.1 h0] at hd
        simp only[mx] at hd
        simp only[e2,cond_false,e0,cond_true,fC]
        congr 1
        omega
   ·    have e0:((((qx d).length:Nat):Int)==0)=false:=by rw[beq_eq_false_iff_ne];omega
        have hlen:=VK hw
        have:=XH (m+2) (cK (m+2)) (qx d) (by omega) most (by omega) h3 (fun e he=>by
         obtain⟨hwe,hbe⟩:=BS hw e he
         exact Rx N e (by omega) (by omega) hwe m (by omega) (most-1) (by omega) (by omega)) (m+3) 0 0 (Nat.zero_le _) (by omega) (by omega)
        rw[List.drop_zero] at this
        have h':jv (m+2) (cK (m+2)) (Nat.succ (m+2)) (most:Int) (qx d) 0 0=_:=this
        have e9:max 0 (min (mx dpt (qx d)) (most-1))+1=min (dpt d) most:=by omega
        simp only[e2,cond_false,e0,fC,h',e9]
theorem adV {d:Dt} (hw:WV d) (hb:d.bulk≤137438953472) (m:Nat) (hm:d.bulk≤m):lJ (m+3) d=some ((min (dpt d) 17:Nat):Int):=by
 simp only[lJ]
 rw[show ((17:Int))=((17:Nat):Int) from rfl,Rx d.bulk d (Nat.le_refl _) hb hw m hm 17 (by omega) (by omega)]
 rfl
theorem acs (m:Nat) (self:Dt→Int→Int→Option (Bool×Int×Int)) (L:List Dt) (hl:L.length<9223372036854775807) (most:Nat) (hs:∀e∈L,∀k:Nat,k<most-1→self e (k:Int) (most:Int)=some (decide (((max k (min (dpt e) (most-1)):Nat):Int)<((most-1:Nat):Int)),((max k (min (dpt e) (most-1)):Nat):Int),(most:Int))):∀(M i acc:Nat),i≤L.length→L.length-i<M→acc<most-1→
  BP m self M L (L.length:Int) (i:Int) (acc:Int) (most:Int)=some (((max acc (min (mx dpt (L.drop i)) (most-1)):Nat):Int),(most:Int))
 |0,i,_,_,h,_=>by omega
 |M+    1,i,acc,hi,h,ha=>by
  simp only[BP,dlt]
  by_cases hlt:i<L.length
  ·have hr:=hs _ (List.getElem_mem hlt) acc ha
   simp only[hlt,decide_true,cond_true,aC hlt,Option.bind_some,hr,dlt,aM (show i<9223372036854775807 by omega),Ux dpt hlt]
   by_cases hm:max acc (min (dpt L[i]) (most-1))<most-1
   ·    simp only[hm,decide_true,Bool.not_true,cond_false,acs m self L hl most hs M (i+1) (max acc (min (dpt L[i]) (most-1))) (by omega) (by omega) hm]
        congr 3
        omega
   ·    simp only[hm,decide_false,Bool.not_false,cond_true]
        congr 3
        omega
  ·rw[List.drop_eq_nil_of_le (by omega)]
   simp only[hlt,decide_false,cond_false,mx]
   congr 3
   omega
theorem acu (m:Nat) (self:Dt→Int→Int→Option (Bool×Int×Int)) (L:List Dt) (hl:L.length<9223372036854775807) (most:Nat) (hs:∀e∈L,∀k:Nat,k<most-1→self (Dt.fld e 1) (k:Int) (most:Int)=some (decide (((max k (min (dpt (Dt.fld e 1)) (most-1)):Nat):Int)<((most-1:Nat):Int)),((max k (min (dpt (Dt.fld e 1)) (most-1)):Nat):Int),(most:Int))):∀(M i acc:Nat),i≤L.length→L.length-i<M→acc<most-1→
  BQ m self M L (L.length:Int) (i:Int) (acc:Int) (most:Int)=some (((max acc (min (mx (fun f=>dpt (Dt.fld f 1)) (L.drop i)) (most-1)):Nat):Int),(most:Int))
 |0,i,_,_,h,_=>by omega
 |M+    1,i,acc,hi,h,ha=>by
  simp only[BQ,dlt]
  by_cases hlt:i<L.length
  ·have hr:=hs _ (List.getElem_mem hlt) acc ha
   simp only[hlt,decide_true,cond_true,aC hlt,Option.bind_some,hr,dlt,aM (show i<9223372036854775807 by omega),Ux (fun f=>dpt (Dt.fld f 1)) hlt]
   by_cases hm:max acc (min (dpt (Dt.fld L[i] 1)) (most-1))<most-1
   ·    simp only[hm,decide_true,Bool.not_true,cond_false,acu m self L hl most hs M (i+1) (max acc (min (dpt (Dt.fld L[i] 1)) (most-1))) (by omega) (by omega) hm]
        congr 3
        omega
   ·    simp only[hm,decide_false,Bool.not_false,cond_true]
        congr 3
        omega
  ·rw[List.drop_eq_nil_of_le (by omega)]
   simp only[hlt,decide_false,cond_false,mx]
   congr 3
   omega
theorem Ry:∀(N:Nat) (d:Dt),d.bulk≤N→N≤137438953472→WV d→∀m,3*N≤m→∀most:Nat,1≤most→most<1000000→jH (m+1) d (most:Int)=some ((min (dpt d) most:Nat):Int)
 |0,d,h,_,_,_,_,_,_,_=>by have:=fH d;omega
 |N+    1,d,h,hN,hw,m,hm,most,h1,h2=>by
  obtain⟨m,rfl⟩:∃q,m=q+3:=⟨m-3,by omega⟩
  simp only[jH]
  have hd:=aac hw
  by_cases e1:most=1
  ·subst e1
   have:((((1:Nat):Int))==(1:Int))=true:=rfl
   simp only[this,cond_true]
   congr 1
   omega
  ·have e2:(((most:Int))==(1:Int))=false:=by rw[beq_eq_false_iff_ne];omega
   have hc:∀e:Dt,WV e→e.bulk≤N→∀k:Nat,k<most-1→Du (m+2) e (k:Int) (most:Int)=some (decide (((max k (min (dpt e) (most-1)):Nat):Int)<((most-1:Nat):Int)),((max k (min (dpt e) (most-1)):Nat):Int),(most:Int)):=fun e hwe hbe k hk=>by
        have hw1:IntKind.wrap IntKind.i64 ((most:Int)-1)=((most-1:Nat):Int):=by rw[wrap64 (by omega) (by omega)];omega
        have hr:=Ry N e hbe (by omega) hwe m (by omega) (most-1) (by omega) (by omega)
        simp only[Du,hw1,hr,Option.bind_some,acr]
   obtain⟨p1,p2,p3,p4⟩:=AX hw
   have k1:=acs (m+2) (Du (m+2)) (Dt.L d 3) (by omega) most (fun e he=>hc e (p3 e he).1 (by have:=(p3 e he).2;omega)) (m+3) 0 0 (Nat.zero_le _) (by omega) (by omega)
   have k2:=acu (m+2) (Du (m+2)) (Dt.L d 4) (by omega) most (fun e he=>hc _ (p4 e he).1 (by have:=(p4 e he).2;omega)) (m+3) 0 0 (Nat.zero_le _) (by omega) (by omega)
   rw[List.drop_zero] at k1 k2
   unfold qx at hd
   have fin:∀x:Nat,x<most→IntKind.wrap IntKind.i64 ((1:Int)+(x:Int))=((1+x:Nat):Int):=fun x hx=>by rw[wrap64 (by omega) (by omega)];omega
   simp only[e2,cond_false,acV]
   cases h6:(Dt.I d 0==6)
   ·    rw[h6] at hd
        cases h5:(Dt.I d 0==5)
        ·rw[h5] at hd
         simp only[cond_false,mx] at hd
         simp only[cond_false,Option.bind_some]
         rw[show ((0:Int))=((0:Nat):Int) from rfl,fin 0 (by omega),hd]
         congr 2
         omega
        ·rw[h5] at hd
         simp only[cond_false,cond_true,aix] at hd
         have k2':BQ (m+2) (Du (m+2)) (Nat.succ (m+2)) (Dt.L d 4) ((Dt.L d 4).length:Int) 0 0 (most:Int)=_:=k2
         simp only[cond_false,cond_true,k2',Option.bind_some]
         rw[fin _ (by omega),hd]
         congr 2
         omega
   ·    rw[h6] at hd
        simp only[cond_true] at hd
        have k1':BP (m+2) (Du (m+2)) (Nat.succ (m+2)) (Dt.L d 3) ((Dt.L d 3).length:Int) 0 0 (most:Int)=_:=k1
        simp only[cond_true,k1',Option.bind_some]
        rw[fin _ (by omega),hd]
        congr 2
        omega
theorem adW {d:Dt} (hw:WV d) (hb:d.bulk≤137438953472) (m:Nat) (hm:3*d.bulk≤m):lQ (m+2) d=some ((min (dpt d) 17:Nat):Int):=by
 simp only[lQ]
 rw[show ((17:Int))=((17:Nat):Int) from rfl,Ry d.bulk d (Nat.le_refl _) hb hw m hm 17 (by omega) (by omega)]
 rfl
def okV (d:Dt):Bool:=decide (nds d≤1024)&&decide (dpt d≤16)&&sndF nm d.bulk d
theorem lim (n k:Nat) (h:k<1000000):decide (((min n (k+1):Nat):Int)≤((k:Nat):Int))=decide (n≤k):=by
 rw[dle,Bool.eq_iff_iff];simp only[decide_eq_true_eq];omega
theorem Rz {d:Dt} (hw:WV d) (m:Nat) (hm:3*d.bulk+300≤m) (hb:d.bulk≤100000000000):jN (m+3) d=some (okV d):=by
 have h1:lN (m+2) d=some ((min (nds d) (1024+1):Nat):Int):=adb hw (by omega) m (by omega)
 have h2:lQ (m+2) d=some ((min (dpt d) (16+1):Nat):Int):=adW hw (by omega) m (by omega)
 have h3:aI (m+2) d=some (sndF nm d.bulk d):=Rv d.bulk d (Nat.le_refl _) (by omega) hw (m+1) (by omega)
 have l1:decide (((min (nds d) (1024+1):Nat):Int)≤1024)=decide (nds d≤1024):=lim _ 1024 (by omega)
 have l2:decide (((min (dpt d) (16+1):Nat):Int)≤16)=decide (dpt d≤16):=lim _ 16 (by omega)
 simp only[jN,h1,h2,h3,Option.bind_some,l1,l2,okV]
 cases decide (nds d≤1024)<;>cases decide (dpt d≤16)<;>rfl
theorem Cc {d:Dt} (hw:WV d) (m:Nat) (hm:2*d.bulk+300≤m) (hm2:m<9223372036854775000) (hb:d.bulk≤100000000000):eF (m+4) d=some (okV d):=by
 have h1:lK (m+3) d=some ((min (nds d) (1024+1):Nat):Int):=ada hw (by omega) m (by omega)
 have h2:lJ (m+3) d=some ((min (dpt d) (16+1):Nat):Int):=adV hw (by omega) m (by omega)
 have h3:aD (m+3) d true=some (sndF nm d.bulk d):=Od true d.bulk d (Nat.le_refl _) (by omega) hw (m+2) (by omega) (by omega)
 have l1:decide (((min (nds d) (1024+1):Nat):Int)≤1024)=decide (nds d≤1024):=lim _ 1024 (by omega)
 have l2:decide (((min (dpt d) (16+1):Nat):Int)≤16)=decide (dpt d≤16):=lim _ 16 (by omega)
 simp only[eF,h1,h2,h3,Option.bind_some,l1,l2,okV]
 cases decide (nds d≤1024)<;>cases decide (dpt d≤16)<;>rfl
end Go.Proofs.YtmecfjhdnbgfeaaGreatDoor
namespace Go.Proofs.YtmecfjhdnbgfeaaGreatDoor
open Go.Am
theorem nA (d:Dt):1≤d.bulk:=by cases d<;>simp[Dt.bulk]
theorem Jh {e:Dt}:∀{l:List Dt},e∈l→e.bulk≤Dt.bulkL l
 |a::r,h=>by
  simp only[Dt.bulkL]
  rcases List.mem_cons.1 h with rfl|h
  ·omega
  ·have:=Jh h;omega
theorem qw:∀l:List Dt,l.length≤Dt.bulkL l
 | []=>by simp[Dt.bulkL]
 |a::r=>by have:=qw r;have:=nA a;simp only[Dt.bulkL,List.length_cons];omega
theorem mR (d:Dt) (i:Nat):(Dt.fld d i).bulk≤d.bulk:=by
 cases d with
 |agg ds=>
  simp only[Dt.fld,Dt.bulk,List.getD]
  cases h:ds[i]? with
  |none=>simp[Dt.bulk]
  |some e=>have:=Jh (List.mem_of_getElem? h);simp;omega
 |_=>simp only[Dt.fld,Dt.bulk];omega
theorem ED (d:Dt) (i:Nat):Dt.bulkL (Dt.L d i)<d.bulk:=by
 have h:=mR d i
 unfold Dt.L
 cases e:Dt.fld d i with
 |lst es=>rw[e] at h;simp only[Dt.bulk] at h;simp only[Dt.toLst];omega
 |_=>have:=nA d;simp only[Dt.toLst,Dt.bulkL];omega
theorem nK {d e:Dt} {i:Nat} (h:e∈Dt.L d i):e.bulk<d.bulk:=by
 have:=ED d i
 have:=Jh h
 omega
theorem fI (d:Dt) (i:Nat):(Dt.L d i).length<d.bulk:=by
 have:=ED d i
 have:=qw (Dt.L d i)
 omega
theorem tZ (d:Dt) (i:Nat):(Dt.S d i).size<d.bulk:=by
 have h:=mR d i
 unfold Dt.S
 cases e:Dt.fld d i with
 |str s=>rw[e] at h;simp only[Dt.bulk] at h;simp only[Dt.toStr];omega
 |_=>have:=nA d;simp only[Dt.toStr];exact Nat.lt_of_lt_of_le (by decide) this
end Go.Proofs.YtmecfjhdnbgfeaaGreatDoor
