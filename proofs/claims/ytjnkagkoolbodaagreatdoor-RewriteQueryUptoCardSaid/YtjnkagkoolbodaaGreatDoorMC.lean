/- Valid and well-formed values: the program's test and the reference's, in plain Lean.
Values:how many levels a value has;valid and well-formed values:the program and the reference agree.
How much the parts of a datum hold. -/
import Derived.Test.YtjnkagkoolbodaaGreatDoorMA
set_option linter.unusedVariables false
set_option linter.unusedSimpArgs false
namespace Go.Proofs.YtjnkagkoolbodaaGreatDoor
open Go.Am
def shp (d:Dt):Bool:=
 (Dt.I d 0==3||Dt.I d 0==9||Dt.I d 0==10||Dt.I d 1==0)&&(Dt.I d 0==4||Dt.I d 0==7||Dt.I d 0==8||(Dt.S d 2).toList==[])&&
 (Dt.I d 0==6||!(decide ((0:Int)<((Dt.L d 3).length:Int))))&&(Dt.I d 0==5||!(decide ((0:Int)<((Dt.L d 4).length:Int))))
def fl (p:ByteArray→Bool) (self:Dt→Bool):List ByteArray→List Dt→Bool
 |_,[]=>true
 |seen,f::r=>p (Dt.S f 0)&&!(seen.any (eqb (Dt.S f 0)))&&self (Dt.fld f 1)&&fl p self (seen++[Dt.S f 0]) r
def Ew (p:ByteArray→Bool):Nat→Dt→Bool
 |0,_=>false
 |  n+1,d=>shp d&&(bif Dt.I d 0==9 then(Dt.I d 1==0||Dt.I d 1==1) else bif Dt.I d 0==10 then decide ((0:Int)≤Dt.I d 1) else bif Dt.I d 0==4 then(decide (((Dt.S d 2).size:Int)≤4096)&&Lib.validD (Dt.S d 2).data.toList) else
    bif Dt.I d 0==7 then decide (((Dt.S d 2).size:Int)≤4096) else bif Dt.I d 0==8 then(((Dt.S d 2).size:Int)==12) else bif Dt.I d 0==6 then(Dt.L d 3).all (Ew p n) else bif Dt.I d 0==5 then fl p (Ew p n) [] (Dt.L d 4) else(decide (1≤Dt.I d 0)&&decide (Dt.I d 0≤11)))
theorem aRc (k:Int):k=1∨k=2∨k=3∨k=4∨k=5∨k=6∨k=7∨k=8∨k=9∨k=10∨k=11∨(k<1∨11<k):=by omega
theorem kno {k:Int} (h:k<1∨11<k):(k==1)=false∧(k==2)=false∧(k==3)=false∧(k==4)=false∧(k==5)=false∧(k==6)=false∧(k==7)=false∧(k==8)=false∧(k==9)=false∧(k==10)=false∧(k==11)=false:=by
 refine⟨?_,?_,?_,?_,?_,?_,?_,?_,?_,?_,?_⟩<;>rw[beq_eq_false_iff_ne]<;>omega
theorem Oy (m:Nat) (s:ByteArray) (hs:s.size<9223372036854775807):∀(M i:Nat),i≤s.size→s.size-i<M→kQ m M s (s.size:Int) (i:Int)=some ((s.data.toList.drop i).all okB)
 |0,i,_,h=>by omega
 |M+1,i,hi,h=>by
  simp only[kQ,dlt]
  by_cases hlt:i<s.size
  ·rw[asn s i hlt]
   simp only[hlt,decide_true,cond_true,kL,kM,kN,iW,kP,kR,kS,kU,yY hlt,Option.bind_some,aT (show i<9223372036854775807 by omega),Oy m s hs M (i+1) (by omega) (by omega),List.all_cons,okB]
   cases decide (((s[i]).toNat:Int)<33)<;>cases decide ((126:Int)<((s[i]).toNat:Int))<;>cases (((s[i]).toNat:Int)==46)<;>rfl
  ·have:i=s.size:=by omega
   subst this
   rw[List.drop_eq_nil_of_le (by rw[akb];omega)]
   simp[kL,kM,kN,iW,kP,kR,kS,kU]
theorem ajI (m:Nat) (hm:33≤m) (s:ByteArray):wN (m+1) s=some (nm s):=by
 simp only[wN,Nn]
 by_cases h1:s.size<1
 ·have:decide ((s.size:Int)<1)=true:=by simp;omega
  simp only[this,cond_true,kL,kM,kN,iW,kP,kR,kS,kU,anv s h1]
 have e1:decide ((s.size:Int)<1)=false:=by simp;omega
 by_cases h2:32<s.size
 ·have:decide ((32:Int)<(s.size:Int))=true:=by simp;omega
  simp only[e1,this,cond_true,cond_false,kL,kM,kN,iW,kP,kR,kS,kU,aso s h2]
 have e2:decide ((32:Int)<(s.size:Int))=false:=by simp;omega
 have hx:=yY (s:=s) (i:=0) (by omega)
 have hl:=Oy m s (by omega) (m+1) 0 (by omega) (by omega)
 rw[List.drop_zero] at hl
 have hl':kQ m (Nat.succ m) s (s.size:Int) 0=some (s.data.toList.all okB):=hl
 simp only[e1,e2,cond_false,show idxS s 0=_ from hx,Option.bind_some,kL,kM,kN,iW,kP,kR,kS,kU,hl',anu s (by omega) (by omega)]
 cases (((s[0]).toNat:Int)==36)<;>rfl
def okW (c:UInt8):Bool:=!(decide ((c.toNat:Int)<32)||decide ((126:Int)<c.toNat))
def wd (s:ByteArray):Bool:=decide (1≤s.size)&&decide (s.size≤128)&&s.data.toList.all okW
theorem aqG (m:Nat) (s:ByteArray) (hs:s.size<9223372036854775807):∀(M i:Nat),i≤s.size→s.size-i<M→pO m M s (i:Int)=some ((s.data.toList.drop i).all okW)
 |0,i,_,h=>by omega
 |M+1,i,hi,h=>by
  simp only[pO,dlt]
  by_cases hlt:i<s.size
  ·rw[asn s i hlt]
   simp only[hlt,decide_true,cond_true,pG,pI,pJ,nD,pK,pQ,pR,pU,yY hlt,Option.bind_some,aT (show i<9223372036854775807 by omega),aqG m s hs M (i+1) (by omega) (by omega),List.all_cons,okW]
   cases decide (((s[i]).toNat:Int)<32)<;>cases decide ((126:Int)<((s[i]).toNat:Int))<;>rfl
  ·have:i=s.size:=by omega
   subst this
   rw[List.drop_eq_nil_of_le (by rw[akb];omega)]
   simp[pG,pI,pJ,nD,pK,pQ,pR,pU]
theorem aM8 (m:Nat) (hm:129≤m) (s:ByteArray):zD (m+1) s=some (wd s):=by
 simp only[zD,U4,wd]
 by_cases h1:s.size<1
 ·have:decide ((s.size:Int)<1)=true:=by simp;omega
  have e:decide (1≤s.size)=false:=decide_eq_false (by omega)
  simp only[this,cond_true,pG,pI,pJ,nD,pK,pQ,pR,pU,e,Bool.false_and]
 have e1:decide ((s.size:Int)<1)=false:=by simp;omega
 have f1:decide (1≤s.size)=true:=by simp;omega
 by_cases h2:128<s.size
 ·have:decide ((128:Int)<(s.size:Int))=true:=by simp;omega
  have e:decide (s.size≤128)=false:=by simp;omega
  simp only[e1,f1,this,cond_true,cond_false,pG,pI,pJ,nD,pK,pQ,pR,pU,e,Bool.false_and,Bool.and_false]
 have e2:decide ((128:Int)<(s.size:Int))=false:=by simp;omega
 have f2:decide (s.size≤128)=true:=by simp;omega
 have hl:=aqG m s (by omega) (m+1) 0 (by omega) (by omega)
 rw[List.drop_zero] at hl
 have hl':pO m (Nat.succ m) s 0=some (s.data.toList.all okW):=hl
 simp only[e1,e2,f1,f2,cond_false,pG,pI,pJ,nD,pK,pQ,pR,pU,hl',Bool.true_and]
theorem az8 (m:Nat) (hm:34≤m) (self:Dt→Option Bool) (g:Dt→Bool) (L:List Dt) (hl:L.length<9223372036854775807) (hs:∀f∈L,self (Dt.fld f 1)=some (g (Dt.fld f 1))):∀(M i:Nat) (mp:List Dt),i≤L.length→L.length-i<M→aJr mp ((L.take i).map fun f=>Dt.S f 0)→
  gI m self M L (L.length:Int) (i:Int) mp=some (fl nm g ((L.take i).map fun f=>Dt.S f 0) (L.drop i))
 |0,i,_,_,h,_=>by omega
 |M+    1,i,mp,hi,h,hmp=>by
  obtain⟨m,rfl⟩:∃q,m=q+1:=⟨m-1,by omega⟩
  simp only[gI,dlt]
  by_cases hlt:i<L.length
  ·have hr:=hs _ (List.getElem_mem hlt)
   have hp:=hmp (Dt.S L[i] 0)
   have hmp':=avQ hmp (Dt.S L[i] 0)
   have et:(L.take (i+1)).map (fun f=>Dt.S f 0)=((L.take i).map fun f=>Dt.S f 0)++[Dt.S L[i] 0]:=by
        rw[List.take_succ_eq_append_getElem hlt,List.map_append];rfl
   rw[←et] at hmp'
   have ih:=az8 (m+1) hm self g L hl hs M (i+1) _ (by omega) (by omega) hmp'
   rw[List.drop_eq_getElem_cons hlt,fl,←et]
   simp only[hlt,decide_true,cond_true,jo,jq,jr,jv,iI,jw,jy,ay hlt,Option.bind_some,hr,hp,ajI m (by omega),aT (show i<9223372036854775807 by omega),ih]
   cases nm (Dt.S L[i] 0)<;>cases ((L.take i).map fun f=>Dt.S f 0).any (eqb (Dt.S L[i] 0))<;>cases g (Dt.fld L[i] 1)<;>rfl
  ·have:i=L.length:=by omega
   subst this
   simp[jo,jq,jr,jv,iI,jw,jy,fl]
theorem az9 (m:Nat) (self:Dt→Option Bool) (self2:List Dt→Option Bool) (g:Dt→Bool) (L:List Dt) (hl:L.length<9223372036854775807) (hs:∀e∈L,self e=some (g e)):∀(M i:Nat),i≤L.length→L.length-i<M→
  nK m self self2 M L (L.length:Int) (i:Int)=some ((L.drop i).all g)
 |0,i,_,h=>by omega
 |M+1,i,hi,h=>by
  simp only[nK,dlt]
  by_cases hlt:i<L.length
  ·have hr:=hs _ (List.getElem_mem hlt)
   have ih:=az9 m self self2 g L hl hs M (i+1) (by omega) (by omega)
   rw[List.drop_eq_getElem_cons hlt,List.all_cons]
   simp only[hlt,decide_true,cond_true,yV,BK,yX,wm,tT,nL,tV,nM,tX,wo,nN,tY,wu,nO,tZ,nP,uf,ay hlt,Option.bind_some,hr,aT (show i<9223372036854775807 by omega),ih]
   cases g L[i]<;>rfl
  ·have:i=L.length:=by omega
   subst this
   simp[yV,BK,yX,wm,tT,nL,tV,nM,tX,wo,nN,tY,wu,nO,tZ,nP,uf]
theorem aUM (m:Nat) (d:Dt):aI (m+1) d=bif shp d then nL m (aI m) (aG m) (Dt.I d 0) (Dt.I d 0==1||Dt.I d 0==2||Dt.I d 0==11||Dt.I d 0==3) d else some false:=by
 have e5:∀s1 s2,nM m s1 s2 d=nL m s1 s2 (Dt.I d 0) (Dt.I d 0==1||Dt.I d 0==2||Dt.I d 0==11||Dt.I d 0==3) d:=fun s1 s2=>by
  simp only[nM,tX]
  cases (Dt.I d 0==1)<;>cases (Dt.I d 0==2)<;>cases (Dt.I d 0==11)<;>rfl
 have e3:∀s1 s2,nN m s1 s2 d=bif (Dt.I d 0==6||!(decide ((0:Int)<((Dt.L d 3).length:Int))))&&(Dt.I d 0==5||!(decide ((0:Int)<((Dt.L d 4).length:Int)))) then nM m s1 s2 d else some false:=fun s1 s2=>by
  simp only[nN,tY,wo,bne]
  cases (Dt.I d 0==6)<;>cases (Dt.I d 0==5)<;>cases decide ((0:Int)<((Dt.L d 3).length:Int))<;>cases decide ((0:Int)<((Dt.L d 4).length:Int))<;>rfl
 have e1:∀s1 s2 x0 x1,nO m s1 s2 x0 x1 d=bif (x0||Dt.I d 1==0)&&(x1||(Dt.S d 2).toList==[]) then nN m s1 s2 d else some false:=fun s1 s2 x0 x1=>by
  simp only[nO,tZ,wu,bne]
  cases x0<;>cases x1<;>cases (Dt.I d 1==0)<;>cases ((Dt.S d 2).toList==[])<;>rfl
 have e0:∀s1 s2 x0,nP m s1 s2 x0 d=nO m s1 s2 x0 (Dt.I d 0==4||Dt.I d 0==7||Dt.I d 0==8) d:=fun s1 s2 x0=>by
  simp only[nP,uf]
  cases (Dt.I d 0==4)<;>cases (Dt.I d 0==7)<;>rfl
 have e:aI (m+1) d=nP m (aI m) (aG m) (Dt.I d 0==3||Dt.I d 0==9||Dt.I d 0==10) d:=by
  simp only[aI,Qp]
  cases (Dt.I d 0==3)<;>cases (Dt.I d 0==9)<;>rfl
 rw[e,e0,e1,e3,e5]
 unfold shp
 cases (Dt.I d 0==3||Dt.I d 0==9||Dt.I d 0==10||Dt.I d 1==0)<;>cases (Dt.I d 0==4||Dt.I d 0==7||Dt.I d 0==8||(Dt.S d 2).toList==[])<;>cases (Dt.I d 0==6||!(decide ((0:Int)<((Dt.L d 3).length:Int))))<;>cases (Dt.I d 0==5||!(decide ((0:Int)<((Dt.L d 4).length:Int))))<;>rfl
theorem aqH:∀(N:Nat) (d:Dt),d.bulk≤N→N≤137438953472→WV d→∀m,2*N+40≤m→aI (m+1) d=some (Ew nm N d)
 |0,d,h,_,_,_,_=>by have:=bQ d;omega
 |N+1,d,h,hN,hw,m,hm=>by
  obtain⟨m,rfl⟩:∃q,m=q+2:=⟨m-2,by omega⟩
  obtain⟨p1,p2,p3,p4⟩:=afh hw
  have ih:∀e:Dt,WV e→e.bulk≤N→∀q,2*N+40≤q→aI (q+1) e=some (Ew nm N e):=fun e hwe hbe q hq=>aqH N e hbe (by omega) hwe q hq
  have k1:=az9 (m+2) (aI (m+2)) (aG (m+2)) (Ew nm N) (Dt.L d 3) (by omega) (fun e he=>ih e (p3 e he).1 (by have:=(p3 e he).2;omega) (m+1) (by omega)) (m+3) 0 (Nat.zero_le _) (by omega)
  have k2:=az8 (m+1) (by omega) (aI (m+1)) (Ew nm N) (Dt.L d 4) (by omega) (fun f hf=>ih _ (p4 f hf).1 (by have:=(p4 f hf).2;omega) m (by omega)) (m+2) 0 [] (Nat.zero_le _) (by omega) avP
  rw[List.drop_zero] at k1 k2
  have k1':nK (m+2) (aI (m+2)) (aG (m+2)) (Nat.succ (m+2)) (Dt.L d 3) ((Dt.L d 3).length:Int) 0=some ((Dt.L d 3).all (Ew nm N)):=k1
  have k2':aG (m+2) (Dt.L d 4)=some (fl nm (Ew nm N) [] (Dt.L d 4)):=by
   simp only[aG,jo,jq,jr,jv,iI,jw,jy]
   exact k2
  rw[aUM]
  have hj:wm (m+2) (aI (m+2)) (aG (m+2)) (Dt.L d 3) ((Dt.L d 3).length:Int) 0=some ((Dt.L d 3).all (Ew nm N)):=k1'
  simp only[nL,tV,tT,hj,k2',Option.bind_some,utf8_ValidString,Ew]
  cases shp d
  ·rfl
  simp only[cond_true,Bool.true_and]
  generalize (Dt.L d 3).all (Ew nm N)=a1
  generalize fl nm (Ew nm N) [] (Dt.L d 4)=a2
  generalize Lib.validD (Dt.S d 2).data.toList=a3
  generalize Dt.I d 0=k
  generalize ((Dt.S d 2).size:Int)=sz
  generalize Dt.I d 1=n
  rcases aRc k with rfl|rfl|rfl|rfl|rfl|rfl|rfl|rfl|rfl|rfl|rfl|hk
  case inr.inr.inr.inr.inr.inr.inr.inr.inr.inr.inr=>
   obtain⟨q1,q2,q3,q4,q5,q6,q7,q8,q9,q10,q11⟩:=kno hk
   simp only[q1,q2,q3,q4,q5,q6,q7,q8,q9,q10,q11,Bool.or_self,cond_false]
   have:(decide (1≤k)&&decide (k≤11))=false:=by rw[Bool.and_eq_false_iff];simp;omega
   rw[this]
  all_goals first|rfl|(cases (n==0)<;>rfl)|(show (bif decide (sz≤4096) then some a3 else some false)=some (decide (sz≤4096)&&a3);cases decide (sz≤4096)<;>rfl)
def nmP (names:Bool) (s:ByteArray):Bool:=bif names then nm s else wd s
theorem aRd (m:Nat) (self:Dt→Bool→Option Bool) (names:Bool) (rec1:Bool→Int→Dt→Option Bool) (d f:Dt) (i:Nat) (hi:i<(Dt.L d 4).length) (hl:(Dt.L d 4).length<9223372036854775807):∀(M k:Nat),k≤i→i-k<M→
  kF m self rec1 M names (i:Int) (k:Int) d f=bif ((((Dt.L d 4).take i).drop k).map fun e=>Dt.S e 0).any (eqb (Dt.S f 0)) then some false else rec1 names ((i+1:Nat):Int) d
 |0,k,_,h=>by omega
 |M+1,k,hk,h=>by
  simp only[kF,dlt]
  by_cases hlt:k<i
  ·have hk2:k<((Dt.L d 4).take i).length:=by rw[List.length_take];omega
   have ih:=aRd m self names rec1 d f i hi hl M (k+1) (by omega) (by omega)
   rw[List.drop_eq_getElem_cons hk2,List.map_cons,List.any_cons,List.getElem_take]
   simp only[hlt,decide_true,cond_true,oh,om,mM,oo,oq,ou,ow,oz,mO,mP,kG,ay (show k<(Dt.L d 4).length by omega),Option.bind_some,aT (show k<9223372036854775807 by omega),ih]
   rw[anw (Dt.S f 0)]
   unfold eqb
   cases ((Dt.S (Dt.L d 4)[k] 0).toList==(Dt.S f 0).toList)<;>rfl
  ·have:k=i:=by omega
   subst this
   rw[List.drop_eq_nil_of_le (by rw[List.length_take];omega)]
   simp only[hlt,decide_false,cond_false,oh,om,mM,oo,oq,ou,ow,oz,mO,mP,kG,aT (show k<9223372036854775807 by omega)]
   rfl
theorem aAa (m:Nat) (hm:140≤m) (self:Dt→Bool→Option Bool) (g:Dt→Bool) (names:Bool) (d:Dt) (hl:(Dt.L d 4).length<m) (hl2:m<9223372036854775807) (hs:∀f∈Dt.L d 4,self (Dt.fld f 1) names=some (g (Dt.fld f 1))):∀(M i:Nat),i≤(Dt.L d 4).length→(Dt.L d 4).length-i<M→
  iH m self M names (i:Int) d=some (fl (nmP names) g (((Dt.L d 4).take i).map fun f=>Dt.S f 0) ((Dt.L d 4).drop i))
 |0,i,_,h=>by omega
 |M+    1,i,hi,h=>by
  obtain⟨m,rfl⟩:∃q,m=q+1:=⟨m-1,by omega⟩
  simp only[iH,dlt]
  by_cases hlt:i<(Dt.L d 4).length
  ·have hr:=hs _ (List.getElem_mem hlt)
   have et:((Dt.L d 4).take (i+1)).map (fun f=>Dt.S f 0)=(((Dt.L d 4).take i).map fun f=>Dt.S f 0)++[Dt.S (Dt.L d 4)[i] 0]:=by
        rw[List.take_succ_eq_append_getElem hlt,List.map_append];rfl
   have ih:=aAa (m+1) hm self g names d hl hl2 hs M (i+1) (by omega) (by omega)
   have hin:=aRd (m+1) self names (iH (m+1) self M) d (Dt.L d 4)[i] i hlt (by omega) (m+2) 0 (by omega) (by omega)
   rw[List.drop_zero,ih] at hin
   have hin':kF (m+1) self (iH (m+1) self M) (Nat.succ (m+1)) names (i:Int) 0 d (Dt.L d 4)[i]=_:=hin
   rw[List.drop_eq_getElem_cons hlt,fl,←et]
   simp only[hlt,decide_true,cond_true,oh,om,mM,oo,oq,ou,ow,oz,mO,mP,kG,ay hlt,Option.bind_some,Wz m (by omega),aM8 m (by omega),hr,hin',nmP]
   cases names<;>cases nm (Dt.S (Dt.L d 4)[i] 0)<;>cases wd (Dt.S (Dt.L d 4)[i] 0)<;>cases (((Dt.L d 4).take i).map fun f=>Dt.S f 0).any (eqb (Dt.S (Dt.L d 4)[i] 0))<;>cases g (Dt.fld (Dt.L d 4)[i] 1)<;>rfl
  ·have:i=(Dt.L d 4).length:=by omega
   subst this
   simp[oh,om,mM,oo,oq,ou,ow,oz,mO,mP,kG,fl]
theorem auQ (m:Nat) (self self2:Dt→Bool→Option Bool) (g:Dt→Bool) (names:Bool) (d:Dt) (hl:(Dt.L d 3).length<9223372036854775807) (hs:∀e∈Dt.L d 3,self e names=some (g e)) (r:Bool) (hr:self2 d names=some r):∀(M i:Nat),i≤(Dt.L d 3).length→(Dt.L d 3).length-i<M→
  og m self self2 M names (i:Int) d=some (((Dt.L d 3).drop i).all g&&r)
 |0,i,_,h=>by omega
 |M+1,i,hi,h=>by
  simp only[og,dlt]
  by_cases hlt:i<(Dt.L d 3).length
  ·have hr2:=hs _ (List.getElem_mem hlt)
   have ih:=auQ m self self2 g names d hl hs r hr M (i+1) (by omega) (by omega)
   rw[List.drop_eq_getElem_cons hlt,List.all_cons]
   simp only[hlt,decide_true,cond_true,Fj,CZ,ay hlt,Option.bind_some,hr2,aT (show i<9223372036854775807 by omega),ih]
   cases g (Dt.L d 3)[i]<;>rfl
  ·have:i=(Dt.L d 3).length:=by omega
   subst this
   simp[C8,hr]
theorem aUN (m:Nat) (d:Dt) (names:Bool):aB (m+1) d names=bif shp d&&(decide (1≤Dt.I d 0)&&decide (Dt.I d 0≤11)) then tH m (aB m) (bf m) names d else some false:=by
 have e3:∀s1 s2 x1 x2,tJ m s1 s2 names x1 x2 d=bif (x1||(Dt.S d 2).toList==[])&&(x2||Dt.I d 1==0)&&(!(decide (Dt.I d 0<1))&&!(decide (11<Dt.I d 0))) then tH m s1 s2 names d else some false:=fun s1 s2 x1 x2=>by
  simp only[tJ,Da,Fq,bne]
  cases x1<;>cases x2<;>cases (Dt.I d 1==0)<;>cases ((Dt.S d 2).toList==[])<;>cases decide (Dt.I d 0<1)<;>cases decide (11<Dt.I d 0)<;>rfl
 have e2:∀s1 s2 x1,tK m s1 s2 names x1 d=tJ m s1 s2 names x1 (Dt.I d 0==3||Dt.I d 0==9||Dt.I d 0==10) d:=fun s1 s2 x1=>by
  simp only[tK,Db]
  cases (Dt.I d 0==3)<;>cases (Dt.I d 0==9)<;>rfl
 have e1:∀s1 s2,tL m s1 s2 names d=tK m s1 s2 names (Dt.I d 0==4||Dt.I d 0==7||Dt.I d 0==8) d:=fun s1 s2=>by
  simp only[tL,Dc]
  cases (Dt.I d 0==4)<;>cases (Dt.I d 0==7)<;>rfl
 have e:aB (m+1) d names=bif (Dt.I d 0==6||!(decide ((0:Int)<((Dt.L d 3).length:Int))))&&(Dt.I d 0==5||!(decide ((0:Int)<((Dt.L d 4).length:Int)))) then tL m (aB m) (bf m) names d else some false:=by
  simp only[aB,MN,Fu,bne]
  cases (Dt.I d 0==6)<;>cases (Dt.I d 0==5)<;>cases decide ((0:Int)<((Dt.L d 3).length:Int))<;>cases decide ((0:Int)<((Dt.L d 4).length:Int))<;>rfl
 have d1:(!(decide (Dt.I d 0<1)))=decide (1≤Dt.I d 0):=by rw[Bool.eq_iff_iff];simp
 have d2:(!(decide (11<Dt.I d 0)))=decide (Dt.I d 0≤11):=by rw[Bool.eq_iff_iff];simp
 rw[e,e1,e2,e3,d1,d2]
 unfold shp
 cases (Dt.I d 0==3||Dt.I d 0==9||Dt.I d 0==10||Dt.I d 1==0)<;>cases (Dt.I d 0==4||Dt.I d 0==7||Dt.I d 0==8||(Dt.S d 2).toList==[])<;>cases (Dt.I d 0==6||!(decide ((0:Int)<((Dt.L d 3).length:Int))))<;>cases (Dt.I d 0==5||!(decide ((0:Int)<((Dt.L d 4).length:Int))))<;>rfl
theorem aWg {l:List Dt} (h:(!(decide ((0:Int)<(l.length:Int))))=true):l=[]:=by
 refine List.eq_nil_of_length_eq_zero ?_
 have:decide ((0:Int)<(l.length:Int))=false:=by simpa using h
 have:=of_decide_eq_false this
 omega
theorem alO (names:Bool):∀(N:Nat) (d:Dt),d.bulk≤N→N≤100000000000→WV d→∀m,2*N+200≤m→m<9223372036854775807→aB (m+1) d names=some (Ew (nmP names) N d)
 |0,d,h,_,_,_,_,_=>by have:=bQ d;omega
 |N+1,d,h,hN,hw,m,hm,hm2=>by
  obtain⟨m,rfl⟩:∃q,m=q+2:=⟨m-2,by omega⟩
  obtain⟨p1,p2,p3,p4⟩:=afh hw
  have ih:∀e:Dt,WV e→e.bulk≤N→∀q,2*N+200≤q→q<9223372036854775807→aB (q+1) e names=some (Ew (nmP names) N e):=fun e hwe hbe q hq hq2=>alO names N e hbe (by omega) hwe q hq hq2
  have k2:=aAa (m+1) (by omega) (aB (m+1)) (Ew (nmP names) N) names d (by omega) (by omega) (fun f hf=>ih _ (p4 f hf).1 (by have:=(p4 f hf).2;omega) m (by omega) (by omega)) (m+2) 0 (Nat.zero_le _) (by omega)
  rw[List.drop_zero] at k2
  have k2':bf (m+2) d names=some (fl (nmP names) (Ew (nmP names) N) [] (Dt.L d 4)):=by
   simp only[bf,kG]
   exact k2
  have k1:=auQ (m+2) (aB (m+2)) (bf (m+2)) (Ew (nmP names) N) names d (by omega) (fun e he=>ih e (p3 e he).1 (by have:=(p3 e he).2;omega) (m+1) (by omega) (by omega)) _ k2' (m+3) 0 (Nat.zero_le _) (by omega)
  rw[List.drop_zero] at k1
  have k1':Fp (m+2) (aB (m+2)) (bf (m+2)) names d=some ((Dt.L d 3).all (Ew (nmP names) N)&&fl (nmP names) (Ew (nmP names) N) [] (Dt.L d 4)):=k1
  rw[aUN]
  have hsz:(Dt.S d 2).size≤d.bulk:=by
   cases hw with
   | @mk k i t l ds hl hd=>rw[Ch];show t.size≤_;omega
  have hu:CY (m+2) (Dt.S d 2)=some (Lib.validD (Dt.S d 2).data.toList):=aVc (m+1) _ (by omega) (by omega)
  simp only[tH,C9,k1',hu,Option.bind_some,Ew]
  cases hsh:shp d
  ·simp only[Bool.false_and,cond_false]
  have hsp:=hsh
  unfold shp at hsp
  have s6:(Dt.I d 0==6||!(decide ((0:Int)<((Dt.L d 3).length:Int))))=true:=by
   rw[Bool.and_eq_true_iff,Bool.and_eq_true_iff] at hsp;exact hsp.1.2
  have s5:(Dt.I d 0==5||!(decide ((0:Int)<((Dt.L d 4).length:Int))))=true:=by
   rw[Bool.and_eq_true_iff] at hsp;exact hsp.2
  have n3:Dt.I d 0≠6→Dt.L d 3=[]:=fun hne=>by
   rcases Bool.or_eq_true_iff.1 s6 with h|h
   ·exact absurd (by simpa using h) hne
   ·exact aWg h
  have n4:Dt.I d 0≠5→Dt.L d 4=[]:=fun hne=>by
   rcases Bool.or_eq_true_iff.1 s5 with h|h
   ·exact absurd (by simpa using h) hne
   ·exact aWg h
  simp only[Bool.true_and]
  generalize Dt.L d 3=l3 at*
  generalize Dt.L d 4=l4 at*
  generalize Lib.validD (Dt.S d 2).data.toList=a3
  generalize Dt.I d 0=k at*
  generalize ((Dt.S d 2).size:Int)=sz
  generalize Dt.I d 1=n
  rcases aRc k with rfl|rfl|rfl|rfl|rfl|rfl|rfl|rfl|rfl|rfl|rfl|hk
  case inr.inr.inr.inr.inr.inr.inr.inr.inr.inr.inr=>
   obtain⟨q1,q2,q3,q4,q5,q6,q7,q8,q9,q10,q11⟩:=kno hk
   have:(decide (1≤k)&&decide (k≤11))=false:=by rw[Bool.and_eq_false_iff];simp;omega
   simp only[q1,q2,q3,q4,q5,q6,q7,q8,q9,q10,q11,this,cond_false]
  all_goals first
   |(have e3:=n3 (by decide);have e4:=n4 (by decide);subst e3 e4;rfl)
   |(have e4:=n4 (by decide);subst e4;show some (l3.all (Ew (nmP names) N)&&true)=some (l3.all (Ew (nmP names) N));rw[Bool.and_true])
   |(have e3:=n3 (by decide);subst e3;rfl)
   |(cases (n==0)<;>rfl)
   |(show (bif decide (sz≤4096) then some a3 else some false)=some (decide (sz≤4096)&&a3);cases decide (sz≤4096)<;>rfl)
end Go.Proofs.YtjnkagkoolbodaaGreatDoor
namespace Go.Proofs.YtjnkagkoolbodaaGreatDoor
open Go.Am
def mx (f:Dt→Nat):List Dt→Nat
 | []=>0
 |e::r=>max (f e) (mx f r)
theorem alP {f g:Dt→Nat}:∀{L:List Dt},(∀e∈L,f e=g e)→mx f L=mx g L
 | [],_=>rfl
 |e::r,h=>by simp only[mx,h e (List.mem_cons_self ..),alP fun x hx=>h x (List.mem_cons_of_mem _ hx)]
theorem aGH (f:Dt→Nat) (k:Dt→Dt):∀L:List Dt,mx f (L.map k)=mx (fun x=>f (k x)) L
 | []=>rfl
 |e::r=>by simp only[List.map_cons,mx,aGH f k r]
theorem arz (f:Dt→Nat) {L:List Dt} {i:Nat} (h:i<L.length):mx f (L.drop i)=max (f L[i]) (mx f (L.drop (i+1))):=by rw[List.drop_eq_getElem_cons h];rfl
def aCQ:Nat→Dt→Nat
 |0,_=>1
 |n+1,d=>1+mx (aCQ n) (Qr d)
theorem aqI:∀(n n':Nat) (d:Dt),WV d→d.bulk≤n→d.bulk≤n'→aCQ n d=aCQ n' d
 |0,_,d,_,h,_=>by have:=bQ d;omega
 |_+1,0,d,_,_,h=>by have:=bQ d;omega
 |n+1,n'+1,d,hw,h,h'=>by
  simp only[aCQ]
  congr 1
  refine alP fun e he=>?_
  have:=Wy hw e he
  exact aqI n n' e this.1 (by omega) (by omega)
def dpt (d:Dt):Nat:=aCQ d.bulk d
theorem aGI {d:Dt} (hw:WV d):dpt d=1+mx dpt (Qr d):=by
 obtain⟨k,hk⟩:∃k,d.bulk=k+1:=⟨d.bulk-1,by have:=bQ d;omega⟩
 unfold dpt
 rw[hk]
 simp only[aCQ]
 congr 1
 refine alP fun e he=>?_
 have:=Wy hw e he
 exact aqI _ _ e this.1 (by omega) (Nat.le_refl _)
theorem aAb (a b:Nat):(bif decide ((a:Int)<(b:Int)) then(b:Int) else(a:Int))=((max a b:Nat):Int):=by
 rw[dlt]
 by_cases h:a<b
 ·simp only[h,decide_true,cond_true];omega
 ·simp only[h,decide_false,cond_false];omega
theorem auR (m:Nat) (self:Dt→Int→Option Int) (L:List Dt) (hl:L.length<9223372036854775807) (most:Nat) (h2:2≤most) (h3:most<1000000) (hs:∀e∈L,self e ((most-1:Nat):Int)=some ((min (dpt e) (most-1):Nat):Int)):∀(M i best:Nat),i≤L.length→L.length-i<M→best≤most→
  ku m self M (most:Int) L (best:Int) (i:Int)=some ((max best (min (mx dpt (L.drop i)) (most-1))+1:Nat):Int)
 |0,i,_,_,h,_=>by omega
 |M+1,i,best,hi,h,hb=>by
  simp only[ku,dlt]
  by_cases hlt:i<L.length
  ·have hr:=hs _ (List.getElem_mem hlt)
   have hw:IntKind.wrap IntKind.i64 ((most:Int)-1)=((most-1:Nat):Int):=by rw[wrap64 (by omega) (by omega)];omega
   simp only[hlt,decide_true,cond_true,kg,ko,kr,kC,kD,kE,ay hlt,Option.bind_some,hw,hr,aAb,aT (show i<9223372036854775807 by omega),auR m self L hl most h2 h3 hs M (i+1) (max best (min (dpt L[i]) (most-1))) (by omega) (by omega) (by omega),arz dpt hlt]
   congr 2
   omega
  ·rw[List.drop_eq_nil_of_le (by omega)]
   simp only[hlt,decide_false,cond_false,kg,ko,kr,kC,kD,kE,mx]
   rw[wrap64 (by omega) (by omega)]
   congr 1
   omega
theorem aqJ:∀(N:Nat) (d:Dt),d.bulk≤N→N≤137438953472→WV d→∀m,N≤m→∀most:Nat,1≤most→most<1000000→bV (m+2) d (most:Int)=some ((min (dpt d) most:Nat):Int)
 |0,d,h,_,_,_,_,_,_,_=>by have:=bQ d;omega
 |N+    1,d,h,hN,hw,m,hm,most,h1,h3=>by
  obtain⟨m,rfl⟩:∃q,m=q+1:=⟨m-1,by omega⟩
  rw[bV,MG,parts_eq d hw (m+1) (by omega) (by omega),Option.bind_some]
  have hd:=aGI hw
  by_cases h2:most<2
  ·have:decide ((most:Int)<2)=true:=by simp;omega
   simp only[this,cond_true,kg,ko,kr,kC,kD,kE]
   congr 1
   omega
  ·have e2:decide ((most:Int)<2)=false:=by rw[decide_eq_false_iff_not];omega
   by_cases h0:(Qr d).length=0
   ·    have e0:((((Qr d).length:Nat):Int)==0)=true:=by simp;exact List.length_eq_zero_iff.1 h0
        rw[List.length_eq_zero_iff.1 h0] at hd
        simp only[mx] at hd
        simp only[e2,cond_false,e0,cond_true,kg,ko,kr,kC,kD,kE]
        congr 1
        omega
   ·    have e0:((((Qr d).length:Nat):Int)==0)=false:=by rw[beq_eq_false_iff_ne];omega
        have hlen:=avK hw
        have:=auR (m+2) (bV (m+2)) (Qr d) (by omega) most (by omega) h3 (fun e he=>by
         obtain⟨hwe,hbe⟩:=Wy hw e he
         exact aqJ N e (by omega) (by omega) hwe m (by omega) (most-1) (by omega) (by omega)) (m+3) 0 0 (Nat.zero_le _) (by omega) (by omega)
        rw[List.drop_zero] at this
        have h':ku (m+2) (bV (m+2)) (Nat.succ (m+2)) (most:Int) (Qr d) 0 0=_:=this
        have e9:max 0 (min (mx dpt (Qr d)) (most-1))+1=min (dpt d) most:=by omega
        simp only[e2,cond_false,e0,kg,ko,kr,kC,kD,kE,h',e9]
theorem aCR {d:Dt} (hw:WV d) (hb:d.bulk≤137438953472) (m:Nat) (hm:d.bulk≤m):rG (m+3) d=some ((min (dpt d) 17:Nat):Int):=by
 simp only[rG]
 rw[show ((17:Int))=((17:Nat):Int) from rfl,aqJ d.bulk d (Nat.le_refl _) hb hw m hm 17 (by omega) (by omega)]
 rfl
theorem aAc (m:Nat) (self:Dt→Int→Int→Option (Bool×Int×Int)) (L:List Dt) (hl:L.length<9223372036854775807) (most:Nat) (hs:∀e∈L,∀k:Nat,k<most-1→self e (k:Int) (most:Int)=some (decide (((max k (min (dpt e) (most-1)):Nat):Int)<((most-1:Nat):Int)),((max k (min (dpt e) (most-1)):Nat):Int),(most:Int))):∀(M i acc:Nat),i≤L.length→L.length-i<M→acc<most-1→
  Qb m self M L (L.length:Int) (i:Int) (acc:Int) (most:Int)=some (((max acc (min (mx dpt (L.drop i)) (most-1)):Nat):Int),(most:Int))
 |0,i,_,_,h,_=>by omega
 |M+    1,i,acc,hi,h,ha=>by
  simp only[Qb,dlt]
  by_cases hlt:i<L.length
  ·have hr:=hs _ (List.getElem_mem hlt) acc ha
   simp only[hlt,decide_true,cond_true,Ws,Wt,Wu,Wv,Ww,OT,Wx,ay hlt,Option.bind_some,hr,dlt,aT (show i<9223372036854775807 by omega),arz dpt hlt]
   by_cases hm:max acc (min (dpt L[i]) (most-1))<most-1
   ·    simp only[hm,decide_true,Bool.not_true,cond_false,aAc m self L hl most hs M (i+1) (max acc (min (dpt L[i]) (most-1))) (by omega) (by omega) hm]
        congr 3
        omega
   ·    simp only[hm,decide_false,Bool.not_false,cond_true]
        congr 3
        omega
  ·rw[List.drop_eq_nil_of_le (by omega)]
   simp only[hlt,decide_false,cond_false,mx]
   congr 3
   omega
theorem aAd (m:Nat) (self:Dt→Int→Int→Option (Bool×Int×Int)) (L:List Dt) (hl:L.length<9223372036854775807) (most:Nat) (hs:∀e∈L,∀k:Nat,k<most-1→self (Dt.fld e 1) (k:Int) (most:Int)=some (decide (((max k (min (dpt (Dt.fld e 1)) (most-1)):Nat):Int)<((most-1:Nat):Int)),((max k (min (dpt (Dt.fld e 1)) (most-1)):Nat):Int),(most:Int))):∀(M i acc:Nat),i≤L.length→L.length-i<M→acc<most-1→
  Qc m self M L (L.length:Int) (i:Int) (acc:Int) (most:Int)=some (((max acc (min (mx (fun f=>dpt (Dt.fld f 1)) (L.drop i)) (most-1)):Nat):Int),(most:Int))
 |0,i,_,_,h,_=>by omega
 |M+    1,i,acc,hi,h,ha=>by
  simp only[Qc,dlt]
  by_cases hlt:i<L.length
  ·have hr:=hs _ (List.getElem_mem hlt) acc ha
   simp only[hlt,decide_true,cond_true,Ws,Wt,Wu,Wv,Ww,OT,Wx,ay hlt,Option.bind_some,hr,dlt,aT (show i<9223372036854775807 by omega),arz (fun f=>dpt (Dt.fld f 1)) hlt]
   by_cases hm:max acc (min (dpt (Dt.fld L[i] 1)) (most-1))<most-1
   ·    simp only[hm,decide_true,Bool.not_true,cond_false,aAd m self L hl most hs M (i+1) (max acc (min (dpt (Dt.fld L[i] 1)) (most-1))) (by omega) (by omega) hm]
        congr 3
        omega
   ·    simp only[hm,decide_false,Bool.not_false,cond_true]
        congr 3
        omega
  ·rw[List.drop_eq_nil_of_le (by omega)]
   simp only[hlt,decide_false,cond_false,mx]
   congr 3
   omega
theorem aqK:∀(N:Nat) (d:Dt),d.bulk≤N→N≤137438953472→WV d→∀m,3*N≤m→∀most:Nat,1≤most→most<1000000→vQ (m+1) d (most:Int)=some ((min (dpt d) most:Nat):Int)
 |0,d,h,_,_,_,_,_,_,_=>by have:=bQ d;omega
 |N+    1,d,h,hN,hw,m,hm,most,h1,h2=>by
  obtain⟨m,rfl⟩:∃q,m=q+3:=⟨m-3,by omega⟩
  simp only[vQ]
  have hd:=aGI hw
  by_cases e1:most=1
  ·subst e1
   have:((((1:Nat):Int))==(1:Int))=true:=rfl
   simp only[this,cond_true]
   congr 1
   omega
  ·have e2:(((most:Int))==(1:Int))=false:=by rw[beq_eq_false_iff_ne];omega
   have hc:∀e:Dt,WV e→e.bulk≤N→∀k:Nat,k<most-1→GK (m+2) e (k:Int) (most:Int)=some (decide (((max k (min (dpt e) (most-1)):Nat):Int)<((most-1:Nat):Int)),((max k (min (dpt e) (most-1)):Nat):Int),(most:Int)):=fun e hwe hbe k hk=>by
        have hw1:IntKind.wrap IntKind.i64 ((most:Int)-1)=((most-1:Nat):Int):=by rw[wrap64 (by omega) (by omega)];omega
        have hr:=aqK N e hbe (by omega) hwe m (by omega) (most-1) (by omega) (by omega)
        simp only[GK,hw1,hr,Option.bind_some,aAb]
   obtain⟨p1,p2,p3,p4⟩:=afh hw
   have k1:=aAc (m+2) (GK (m+2)) (Dt.L d 3) (by omega) most (fun e he=>hc e (p3 e he).1 (by have:=(p3 e he).2;omega)) (m+3) 0 0 (Nat.zero_le _) (by omega) (by omega)
   have k2:=aAd (m+2) (GK (m+2)) (Dt.L d 4) (by omega) most (fun e he=>hc _ (p4 e he).1 (by have:=(p4 e he).2;omega)) (m+3) 0 0 (Nat.zero_le _) (by omega) (by omega)
   rw[List.drop_zero] at k1 k2
   unfold Qr at hd
   have fin:∀x:Nat,x<most→IntKind.wrap IntKind.i64 ((1:Int)+(x:Int))=((1+x:Nat):Int):=fun x hx=>by rw[wrap64 (by omega) (by omega)];omega
   simp only[e2,cond_false,Bj,i160]
   cases h6:(Dt.I d 0==6)
   ·    rw[h6] at hd
        cases h5:(Dt.I d 0==5)
        ·rw[h5] at hd
         simp only[cond_false,mx] at hd
         simp only[cond_false,Option.bind_some]
         rw[show ((0:Int))=((0:Nat):Int) from rfl,fin 0 (by omega),hd]
         congr 2
         omega
        ·rw[h5] at hd
         simp only[cond_false,cond_true,aGH] at hd
         have k2':Qc (m+2) (GK (m+2)) (Nat.succ (m+2)) (Dt.L d 4) ((Dt.L d 4).length:Int) 0 0 (most:Int)=_:=k2
         simp only[cond_false,cond_true,Ws,Wt,Wu,Wv,Ww,OT,Wx,k2',Option.bind_some]
         rw[fin _ (by omega),hd]
         congr 2
         omega
   ·    rw[h6] at hd
        simp only[cond_true] at hd
        have k1':Qb (m+2) (GK (m+2)) (Nat.succ (m+2)) (Dt.L d 3) ((Dt.L d 3).length:Int) 0 0 (most:Int)=_:=k1
        simp only[cond_true,Ws,Wt,Wu,Wv,Ww,OT,Wx,k1',Option.bind_some]
        rw[fin _ (by omega),hd]
        congr 2
        omega
theorem aCS {d:Dt} (hw:WV d) (hb:d.bulk≤137438953472) (m:Nat) (hm:3*d.bulk≤m):rz (m+2) d=some ((min (dpt d) 17:Nat):Int):=by
 simp only[rz]
 rw[show ((17:Int))=((17:Nat):Int) from rfl,aqK d.bulk d (Nat.le_refl _) hb hw m hm 17 (by omega) (by omega)]
 rfl
def okV (d:Dt):Bool:=decide (nds d≤1024)&&decide (dpt d≤16)&&Ew nm d.bulk d
theorem lim (n k:Nat) (h:k<1000000):decide (((min n (k+1):Nat):Int)≤((k:Nat):Int))=decide (n≤k):=by
 rw[dle,Bool.eq_iff_iff];simp only[decide_eq_true_eq];omega
theorem aqL {d:Dt} (hw:WV d) (m:Nat) (hm:3*d.bulk+300≤m) (hb:d.bulk≤100000000000):jA (m+3) d=some (okV d):=by
 have h1:ru (m+2) d=some ((min (nds d) (1024+1):Nat):Int):=aDl hw (by omega) m (by omega)
 have h2:rz (m+2) d=some ((min (dpt d) (16+1):Nat):Int):=aCS hw (by omega) m (by omega)
 have h3:aI (m+2) d=some (Ew nm d.bulk d):=aqH d.bulk d (Nat.le_refl _) (by omega) hw (m+1) (by omega)
 have l1:decide (((min (nds d) (1024+1):Nat):Int)≤1024)=decide (nds d≤1024):=lim _ 1024 (by omega)
 have l2:decide (((min (dpt d) (16+1):Nat):Int)≤16)=decide (dpt d≤16):=lim _ 16 (by omega)
 simp only[jA,h1,h2,h3,Option.bind_some,l1,l2,okV]
 cases decide (nds d≤1024)<;>cases decide (dpt d≤16)<;>rfl
theorem ahd {d:Dt} (hw:WV d) (m:Nat) (hm:2*d.bulk+300≤m) (hm2:m<9223372036854775000) (hb:d.bulk≤100000000000):dJ (m+4) d=some (okV d):=by
 have h1:rH (m+3) d=some ((min (nds d) (1024+1):Nat):Int):=aDk hw (by omega) m (by omega)
 have h2:rG (m+3) d=some ((min (dpt d) (16+1):Nat):Int):=aCR hw (by omega) m (by omega)
 have h3:aB (m+3) d true=some (Ew nm d.bulk d):=alO true d.bulk d (Nat.le_refl _) (by omega) hw (m+2) (by omega) (by omega)
 have l1:decide (((min (nds d) (1024+1):Nat):Int)≤1024)=decide (nds d≤1024):=lim _ 1024 (by omega)
 have l2:decide (((min (dpt d) (16+1):Nat):Int)≤16)=decide (dpt d≤16):=lim _ 16 (by omega)
 simp only[dJ,h1,h2,h3,Option.bind_some,l1,l2,okV]
 cases decide (nds d≤1024)<;>cases decide (dpt d≤16)<;>rfl
end Go.Proofs.YtjnkagkoolbodaaGreatDoor
namespace Go.Proofs.YtjnkagkoolbodaaGreatDoor
open Go.Am
theorem G5 (d:Dt):1≤d.bulk:=by cases d<;>simp[Dt.bulk]
theorem ahe {e:Dt}:∀{l:List Dt},e∈l→e.bulk≤Dt.bulkL l
 |a::r,h=>by
  simp only[Dt.bulkL]
  rcases List.mem_cons.1 h with rfl|h
  ·omega
  ·have:=ahe h;omega
theorem aqM:∀l:List Dt,l.length≤Dt.bulkL l
 | []=>by simp[Dt.bulkL]
 |a::r=>by have:=aqM r;have:=G5 a;simp only[Dt.bulkL,List.length_cons];omega
theorem aA (d:Dt) (i:Nat):(Dt.fld d i).bulk≤d.bulk:=by
 cases d with
 |agg ds=>
  simp only[Dt.fld,Dt.bulk,List.getD]
  cases h:ds[i]? with
  |none=>simp[Dt.bulk]
  |some e=>have:=ahe (List.mem_of_getElem? h);simp;omega
 |_=>simp only[Dt.fld,Dt.bulk];omega
theorem aGJ (d:Dt) (i:Nat):Dt.bulkL (Dt.L d i)<d.bulk:=by
 have h:=aA d i
 unfold Dt.L
 cases e:Dt.fld d i with
 |lst es=>rw[e] at h;simp only[Dt.bulk] at h;simp only[Dt.toLst];omega
 |_=>have:=G5 d;simp only[Dt.toLst,Dt.bulkL];omega
theorem bA {d e:Dt} {i:Nat} (h:e∈Dt.L d i):e.bulk<d.bulk:=by
 have:=aGJ d i
 have:=ahe h
 omega
theorem aO (d:Dt) (i:Nat):(Dt.L d i).length<d.bulk:=by
 have:=aGJ d i
 have:=aqM (Dt.L d i)
 omega
theorem aGK (d:Dt) (i:Nat):(Dt.S d i).size<d.bulk:=by
 have h:=aA d i
 unfold Dt.S
 cases e:Dt.fld d i with
 |str s=>rw[e] at h;simp only[Dt.bulk] at h;simp only[Dt.toStr];omega
 |_=>have:=G5 d;simp only[Dt.toStr];exact Nat.lt_of_lt_of_le (by decide) this
end Go.Proofs.YtjnkagkoolbodaaGreatDoor
