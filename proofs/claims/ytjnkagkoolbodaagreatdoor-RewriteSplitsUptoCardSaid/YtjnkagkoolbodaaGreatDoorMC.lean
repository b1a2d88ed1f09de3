/- Valid and well-formed values: the program's test and the reference's, in plain Lean.
Values:how many levels a value has;valid and well-formed values:the program and the reference agree.
How much the parts of a datum hold. -/
import Derived.Test.YtjnkagkoolbodaaGreatDoorMA
import Derived.Test.YtjnkagkoolbodaaGreatDoorMB
set_option linter.unusedVariables false
set_option linter.unusedSimpArgs false
namespace Go.Proofs.YtjnkagkoolbodaaGreatDoor
open Go.Am
def shp (d:Dt):Bool:=
 (Dt.I d 0==3||Dt.I d 0==9||Dt.I d 0==10||Dt.I d 1==0)&&(Dt.I d 0==4||Dt.I d 0==7||Dt.I d 0==8||(Dt.S d 2).toList==[])&&
 (Dt.I d 0==6||!(decide ((0:Int)<((Dt.L d 3).length:Int))))&&(Dt.I d 0==5||!(decide ((0:Int)<((Dt.L d 4).length:Int))))
def fl (p:ByteArray→Bool) (self:Dt→Bool):List ByteArray→List Dt→Bool
 |_,[]=>true
 |seen,f::r=>p (Dt.S f 0)&&!(seen.any (eqb (Dt.S f 0)))&&self (Dt.fld f 1)&&fl p self (seen++[Dt.S f 0]) r
def qm (p:ByteArray→Bool):Nat→Dt→Bool
 |0,_=>false
 |  n+1,d=>shp d&&(bif Dt.I d 0==9 then(Dt.I d 1==0||Dt.I d 1==1) else bif Dt.I d 0==10 then decide ((0:Int)≤Dt.I d 1) else bif Dt.I d 0==4 then(decide (((Dt.S d 2).size:Int)≤4096)&&Lib.validD (Dt.S d 2).data.toList) else
    bif Dt.I d 0==7 then decide (((Dt.S d 2).size:Int)≤4096) else bif Dt.I d 0==8 then(((Dt.S d 2).size:Int)==12) else bif Dt.I d 0==6 then(Dt.L d 3).all (qm p n) else bif Dt.I d 0==5 then fl p (qm p n) [] (Dt.L d 4) else(decide (1≤Dt.I d 0)&&decide (Dt.I d 0≤11)))
theorem aCM (k:Int):k=1∨k=2∨k=3∨k=4∨k=5∨k=6∨k=7∨k=8∨k=9∨k=10∨k=11∨(k<1∨11<k):=by omega
theorem kno {k:Int} (h:k<1∨11<k):(k==1)=false∧(k==2)=false∧(k==3)=false∧(k==4)=false∧(k==5)=false∧(k==6)=false∧(k==7)=false∧(k==8)=false∧(k==9)=false∧(k==10)=false∧(k==11)=false:=by
 refine⟨?_,?_,?_,?_,?_,?_,?_,?_,?_,?_,?_⟩<;>rw[beq_eq_false_iff_ne]<;>omega
def okW (c:UInt8):Bool:=!(decide ((c.toNat:Int)<32)||decide ((126:Int)<c.toNat))
def wd (s:ByteArray):Bool:=decide (1≤s.size)&&decide (s.size≤128)&&s.data.toList.all okW
theorem Fa (m:Nat) (s:ByteArray) (hs:s.size<9223372036854775807):∀(M i:Nat),i≤s.size→s.size-i<M→Ck m M s (i:Int)=some ((s.data.toList.drop i).all okW)
 |0,i,_,h=>by omega
 |M+1,i,hi,h=>by
  simp only[Ck,dlt]
  by_cases hlt:i<s.size
  ·rw[Qw s i hlt]
   simp only[hlt,decide_true,cond_true,Ch,uR,Ci,Cj,Cm,Co,uS,ig hlt,Option.bind_some,aF (show i<9223372036854775807 by omega),Fa m s hs M (i+1) (by omega) (by omega),List.all_cons,okW]
   cases decide (((s[i]).toNat:Int)<32)<;>cases decide ((126:Int)<((s[i]).toNat:Int))<;>rfl
  ·have:i=s.size:=by omega
   subst this
   rw[List.drop_eq_nil_of_le (by rw[DI];omega)]
   simp[Ch,uR,Ci,Cj,Cm,Co,uS]
theorem arS (m:Nat) (hm:129≤m) (s:ByteArray):zK (m+1) s=some (wd s):=by
 simp only[zK,wd]
 by_cases h1:s.size<1
 ·have:decide ((s.size:Int)<1)=true:=by simp;omega
  have e:decide (1≤s.size)=false:=decide_eq_false (by omega)
  simp only[this,cond_true,Ch,uR,Ci,Cj,Cm,Co,uS,e,Bool.false_and]
 have e1:decide ((s.size:Int)<1)=false:=by simp;omega
 have f1:decide (1≤s.size)=true:=by simp;omega
 by_cases h2:128<s.size
 ·have:decide ((128:Int)<(s.size:Int))=true:=by simp;omega
  have e:decide (s.size≤128)=false:=by simp;omega
  simp only[e1,f1,this,cond_true,cond_false,Ch,uR,Ci,Cj,Cm,Co,uS,e,Bool.false_and,Bool.and_false]
 have e2:decide ((128:Int)<(s.size:Int))=false:=by simp;omega
 have f2:decide (s.size≤128)=true:=by simp;omega
 have hl:=Fa m s (by omega) (m+1) 0 (by omega) (by omega)
 rw[List.drop_zero] at hl
 have hl':Ck m (Nat.succ m) s 0=some (s.data.toList.all okW):=hl
 simp only[e1,e2,f1,f2,cond_false,Ch,uR,Ci,Cj,Cm,Co,uS,hl',Bool.true_and]
def nmP (names:Bool) (s:ByteArray):Bool:=bif names then nm s else wd s
theorem av0 (m:Nat) (self:Dt→Bool→Option Bool) (names:Bool) (rec1:Bool→Int→Dt→Option Bool) (d f:Dt) (i:Nat) (hi:i<(Dt.L d 4).length) (hl:(Dt.L d 4).length<9223372036854775807):∀(M k:Nat),k≤i→i-k<M→
  Cu m self rec1 M names (i:Int) (k:Int) d f=bif ((((Dt.L d 4).take i).drop k).map fun e=>Dt.S e 0).any (eqb (Dt.S f 0)) then some false else rec1 names ((i+1:Nat):Int) d
 |0,k,_,h=>by omega
 |M+1,k,hk,h=>by
  simp only[Cu,dlt]
  by_cases hlt:k<i
  ·have hk2:k<((Dt.L d 4).take i).length:=by rw[List.length_take];omega
   have ih:=av0 m self names rec1 d f i hi hl M (k+1) (by omega) (by omega)
   rw[List.drop_eq_getElem_cons hk2,List.map_cons,List.any_cons,List.getElem_take]
   simp only[hlt,decide_true,cond_true,GZ,G5,G6,G7,G8,jP,G9,tO,Cw,aA (show k<(Dt.L d 4).length by omega),Option.bind_some,aF (show k<9223372036854775807 by omega),ih]
   rw[Kv (Dt.S f 0)]
   unfold eqb
   cases ((Dt.S (Dt.L d 4)[k] 0).toList==(Dt.S f 0).toList)<;>rfl
  ·have:k=i:=by omega
   subst this
   rw[List.drop_eq_nil_of_le (by rw[List.length_take];omega)]
   simp only[hlt,decide_false,cond_false,GZ,G5,G6,G7,G8,jP,G9,tO,Cw,aF (show k<9223372036854775807 by omega)]
   rfl
theorem Vd (m:Nat) (hm:140≤m) (self:Dt→Bool→Option Bool) (g:Dt→Bool) (names:Bool) (d:Dt) (hl:(Dt.L d 4).length<m) (hl2:m<9223372036854775807) (hs:∀f∈Dt.L d 4,self (Dt.fld f 1) names=some (g (Dt.fld f 1))):∀(M i:Nat),i≤(Dt.L d 4).length→(Dt.L d 4).length-i<M→
  uU m self M names (i:Int) d=some (fl (nmP names) g (((Dt.L d 4).take i).map fun f=>Dt.S f 0) ((Dt.L d 4).drop i))
 |0,i,_,h=>by omega
 |M+    1,i,hi,h=>by
  obtain⟨m,rfl⟩:∃q,m=q+1:=⟨m-1,by omega⟩
  simp only[uU,dlt]
  by_cases hlt:i<(Dt.L d 4).length
  ·have hr:=hs _ (List.getElem_mem hlt)
   have et:((Dt.L d 4).take (i+1)).map (fun f=>Dt.S f 0)=(((Dt.L d 4).take i).map fun f=>Dt.S f 0)++[Dt.S (Dt.L d 4)[i] 0]:=by
        rw[List.take_succ_eq_append_getElem hlt,List.map_append];rfl
   have ih:=Vd (m+1) hm self g names d hl hl2 hs M (i+1) (by omega) (by omega)
   have hin:=av0 (m+1) self names (uU (m+1) self M) d (Dt.L d 4)[i] i hlt (by omega) (m+2) 0 (by omega) (by omega)
   rw[List.drop_zero,ih] at hin
   have hin':Cu (m+1) self (uU (m+1) self M) (Nat.succ (m+1)) names (i:Int) 0 d (Dt.L d 4)[i]=_:=hin
   rw[List.drop_eq_getElem_cons hlt,fl,←et]
   simp only[hlt,decide_true,cond_true,GZ,G5,G6,G7,G8,jP,G9,tO,Cw,aA hlt,Option.bind_some,lS m (by omega),arS m (by omega),hr,hin',nmP]
   cases names<;>cases nm (Dt.S (Dt.L d 4)[i] 0)<;>cases wd (Dt.S (Dt.L d 4)[i] 0)<;>cases (((Dt.L d 4).take i).map fun f=>Dt.S f 0).any (eqb (Dt.S (Dt.L d 4)[i] 0))<;>cases g (Dt.fld (Dt.L d 4)[i] 1)<;>rfl
  ·have:i=(Dt.L d 4).length:=by omega
   subst this
   simp[GZ,G5,G6,G7,G8,jP,G9,tO,Cw,fl]
theorem Me (m:Nat) (self self2:Dt→Bool→Option Bool) (g:Dt→Bool) (names:Bool) (d:Dt) (hl:(Dt.L d 3).length<9223372036854775807) (hs:∀e∈Dt.L d 3,self e names=some (g e)) (r:Bool) (hr:self2 d names=some r):∀(M i:Nat),i≤(Dt.L d 3).length→(Dt.L d 3).length-i<M→
  GY m self self2 M names (i:Int) d=some (((Dt.L d 3).drop i).all g&&r)
 |0,i,_,h=>by omega
 |M+1,i,hi,h=>by
  simp only[GY,dlt]
  by_cases hlt:i<(Dt.L d 3).length
  ·have hr2:=hs _ (List.getElem_mem hlt)
   have ih:=Me m self self2 g names d hl hs r hr M (i+1) (by omega) (by omega)
   rw[List.drop_eq_getElem_cons hlt,List.all_cons]
   simp only[hlt,decide_true,cond_true,ajn,Rs,aA hlt,Option.bind_some,hr2,aF (show i<9223372036854775807 by omega),ih]
   cases g (Dt.L d 3)[i]<;>rfl
  ·have:i=(Dt.L d 3).length:=by omega
   subst this
   simp[Rt,hr]
theorem aAt (m:Nat) (d:Dt) (names:Bool):qE (m+1) d names=bif shp d&&(decide (1≤Dt.I d 0)&&decide (Dt.I d 0≤11)) then Od m (qE m) (qG m) names d else some false:=by
 have e3:∀s1 s2 x1 x2,Cq m s1 s2 names x1 x2 d=bif (x1||(Dt.S d 2).toList==[])&&(x2||Dt.I d 1==0)&&(!(decide (Dt.I d 0<1))&&!(decide (11<Dt.I d 0))) then Od m s1 s2 names d else some false:=fun s1 s2 x1 x2=>by
  simp only[Cq,jm,bne]
  cases x1<;>cases x2<;>cases (Dt.I d 1==0)<;>cases ((Dt.S d 2).toList==[])<;>cases decide (Dt.I d 0<1)<;>cases decide (11<Dt.I d 0)<;>rfl
 have e2:∀s1 s2 x1,Cr m s1 s2 names x1 d=Cq m s1 s2 names x1 (Dt.I d 0==3||Dt.I d 0==9||Dt.I d 0==10) d:=fun s1 s2 x1=>by
  simp only[Cr]
  cases (Dt.I d 0==3)<;>cases (Dt.I d 0==9)<;>rfl
 have e1:∀s1 s2,Oe m s1 s2 names d=Cr m s1 s2 names (Dt.I d 0==4||Dt.I d 0==7||Dt.I d 0==8) d:=fun s1 s2=>by
  simp only[Oe]
  cases (Dt.I d 0==4)<;>cases (Dt.I d 0==7)<;>rfl
 have e:qE (m+1) d names=bif (Dt.I d 0==6||!(decide ((0:Int)<((Dt.L d 3).length:Int))))&&(Dt.I d 0==5||!(decide ((0:Int)<((Dt.L d 4).length:Int)))) then Oe m (qE m) (qG m) names d else some false:=by
  simp only[qE,Ct,bne]
  cases (Dt.I d 0==6)<;>cases (Dt.I d 0==5)<;>cases decide ((0:Int)<((Dt.L d 3).length:Int))<;>cases decide ((0:Int)<((Dt.L d 4).length:Int))<;>rfl
 have d1:(!(decide (Dt.I d 0<1)))=decide (1≤Dt.I d 0):=by rw[Bool.eq_iff_iff];simp
 have d2:(!(decide (11<Dt.I d 0)))=decide (Dt.I d 0≤11):=by rw[Bool.eq_iff_iff];simp
 rw[e,e1,e2,e3,d1,d2]
 unfold shp
 cases (Dt.I d 0==3||Dt.I d 0==9||Dt.I d 0==10||Dt.I d 1==0)<;>cases (Dt.I d 0==4||Dt.I d 0==7||Dt.I d 0==8||(Dt.S d 2).toList==[])<;>cases (Dt.I d 0==6||!(decide ((0:Int)<((Dt.L d 3).length:Int))))<;>cases (Dt.I d 0==5||!(decide ((0:Int)<((Dt.L d 4).length:Int))))<;>rfl
theorem aCN {l:List Dt} (h:(!(decide ((0:Int)<(l.length:Int))))=true):l=[]:=by
 refine List.eq_nil_of_length_eq_zero ?_
 have:decide ((0:Int)<(l.length:Int))=false:=by simpa using h
 have:=of_decide_eq_false this
 omega
theorem xD (names:Bool):∀(N:Nat) (d:Dt),d.bulk≤N→N≤100000000000→WV d→∀m,2*N+200≤m→m<9223372036854775807→qE (m+1) d names=some (qm (nmP names) N d)
 |0,d,h,_,_,_,_,_=>by have:=aR d;omega
 |N+1,d,h,hN,hw,m,hm,hm2=>by
  obtain⟨m,rfl⟩:∃q,m=q+2:=⟨m-2,by omega⟩
  obtain⟨p1,p2,p3,p4⟩:=akp hw
  have ih:∀e:Dt,WV e→e.bulk≤N→∀q,2*N+200≤q→q<9223372036854775807→qE (q+1) e names=some (qm (nmP names) N e):=fun e hwe hbe q hq hq2=>xD names N e hbe (by omega) hwe q hq hq2
  have k2:=Vd (m+1) (by omega) (qE (m+1)) (qm (nmP names) N) names d (by omega) (by omega) (fun f hf=>ih _ (p4 f hf).1 (by have:=(p4 f hf).2;omega) m (by omega) (by omega)) (m+2) 0 (Nat.zero_le _) (by omega)
  rw[List.drop_zero] at k2
  have k2':qG (m+2) d names=some (fl (nmP names) (qm (nmP names) N) [] (Dt.L d 4)):=by
   simp only[qG,Cw]
   exact k2
  have k1:=Me (m+2) (qE (m+2)) (qG (m+2)) (qm (nmP names) N) names d (by omega) (fun e he=>ih e (p3 e he).1 (by have:=(p3 e he).2;omega) (m+1) (by omega) (by omega)) _ k2' (m+3) 0 (Nat.zero_le _) (by omega)
  rw[List.drop_zero] at k1
  have k1':ajo (m+2) (qE (m+2)) (qG (m+2)) names d=some ((Dt.L d 3).all (qm (nmP names) N)&&fl (nmP names) (qm (nmP names) N) [] (Dt.L d 4)):=k1
  rw[aAt]
  have hsz:(Dt.S d 2).size≤d.bulk:=by
   cases hw with
   | @mk k i t l ds hl hd=>rw[eB];show t.size≤_;omega
  have hu:qZ (m+2) (Dt.S d 2)=some (Lib.validD (Dt.S d 2).data.toList):=ayw (m+1) _ (by omega) (by omega)
  simp only[Od,k1',hu,Option.bind_some,qm]
  cases hsh:shp d
  ·simp only[Bool.false_and,cond_false]
  have hsp:=hsh
  unfold shp at hsp
  have s6:(Dt.I d 0==6||!(decide ((0:Int)<((Dt.L d 3).length:Int))))=true:=by
   rw[Bool.and_eq_true_iff,Bool.and_eq_true_iff] at hsp;exact hsp.1.2
  have s5:(Dt.I d 0==5||!(decide ((0:Int)<((Dt.L d 4).length:Int))))=true:=by
   rw[Bool.and_eq_true_iff] at hsp;exact hsp.2
  have n3:Dt.I d 0≠6→Dt.L d 3=[]:=fun hne=>by
   rcases Bool.or_eq_true_iff.1 s6 with h|h
   ·exact absurd (by simpa using h) hne
   ·exact aCN h
  have n4:Dt.I d 0≠5→Dt.L d 4=[]:=fun hne=>by
   rcases Bool.or_eq_true_iff.1 s5 with h|h
   ·exact absurd (by simpa using h) hne
   ·exact aCN h
  simp only[Bool.true_and]
  generalize Dt.L d 3=l3 at*
  generalize Dt.L d 4=l4 at*
  generalize Lib.validD (Dt.S d 2).data.toList=a3
  generalize Dt.I d 0=k at*
  generalize ((Dt.S d 2).size:Int)=sz
  generalize Dt.I d 1=n
  rcases aCM k with rfl|rfl|rfl|rfl|rfl|rfl|rfl|rfl|rfl|rfl|rfl|hk
  case inr.inr.inr.inr.inr.inr.inr.inr.inr.inr.inr=>
   obtain⟨q1,q2,q3,q4,q5,q6,q7,q8,q9,q10,q11⟩:=kno hk
   have:(decide (1≤k)&&decide (k≤11))=false:=by rw[Bool.and_eq_false_iff];simp;omega
   simp only[q1,q2,q3,q4,q5,q6,q7,q8,q9,q10,q11,this,cond_false]
  all_goals first
   |(have e3:=n3 (by decide);have e4:=n4 (by decide);subst e3 e4;rfl)
   |(have e4:=n4 (by decide);subst e4;show some (l3.all (qm (nmP names) N)&&true)=some (l3.all (qm (nmP names) N));rw[Bool.and_true])
   |(have e3:=n3 (by decide);subst e3;rfl)
   |(cases (n==0)<;>rfl)
   |(show (bif decide (sz≤4096) then some a3 else some false)=some (decide (sz≤4096)&&a3);cases decide (sz≤4096)<;>rfl)
end Go.Proofs.YtjnkagkoolbodaaGreatDoor
namespace Go.Proofs.YtjnkagkoolbodaaGreatDoor
open Go.Am
def mx (f:Dt→Nat):List Dt→Nat
 | []=>0
 |e::r=>max (f e) (mx f r)
theorem xE {f g:Dt→Nat}:∀{L:List Dt},(∀e∈L,f e=g e)→mx f L=mx g L
 | [],_=>rfl
 |e::r,h=>by simp only[mx,h e (List.mem_cons_self ..),xE fun x hx=>h x (List.mem_cons_of_mem _ hx)]
theorem arT (f:Dt→Nat) {L:List Dt} {i:Nat} (h:i<L.length):mx f (L.drop i)=max (f L[i]) (mx f (L.drop (i+1))):=by rw[List.drop_eq_getElem_cons h];rfl
def Y0:Nat→Dt→Nat
 |0,_=>1
 |n+1,d=>1+mx (Y0 n) (kW d)
theorem Fb:∀(n n':Nat) (d:Dt),WV d→d.bulk≤n→d.bulk≤n'→Y0 n d=Y0 n' d
 |0,_,d,_,h,_=>by have:=aR d;omega
 |_+1,0,d,_,_,h=>by have:=aR d;omega
 |n+1,n'+1,d,hw,h,h'=>by
  simp only[Y0]
  congr 1
  refine xE fun e he=>?_
  have:=lX hw e he
  exact Fb n n' e this.1 (by omega) (by omega)
def dpt (d:Dt):Nat:=Y0 d.bulk d
theorem aAu {d:Dt} (hw:WV d):dpt d=1+mx dpt (kW d):=by
 obtain⟨k,hk⟩:∃k,d.bulk=k+1:=⟨d.bulk-1,by have:=aR d;omega⟩
 unfold dpt
 rw[hk]
 simp only[Y0]
 congr 1
 refine xE fun e he=>?_
 have:=lX hw e he
 exact Fb _ _ e this.1 (by omega) (Nat.le_refl _)
theorem arU (a b:Nat):(bif decide ((a:Int)<(b:Int)) then(b:Int) else(a:Int))=((max a b:Nat):Int):=by
 rw[dlt]
 by_cases h:a<b
 ·simp only[h,decide_true,cond_true];omega
 ·simp only[h,decide_false,cond_false];omega
theorem Mg (m:Nat) (self:Dt→Int→Option Int) (L:List Dt) (hl:L.length<9223372036854775807) (most:Nat) (h2:2≤most) (h3:most<1000000) (hs:∀e∈L,self e ((most-1:Nat):Int)=some ((min (dpt e) (most-1):Nat):Int)):∀(M i best:Nat),i≤L.length→L.length-i<M→best≤most→
  Ca m self M (most:Int) L (best:Int) (i:Int)=some ((max best (min (mx dpt (L.drop i)) (most-1))+1:Nat):Int)
 |0,i,_,_,h,_=>by omega
 |M+1,i,best,hi,h,hb=>by
  simp only[Ca,dlt]
  by_cases hlt:i<L.length
  ·have hr:=hs _ (List.getElem_mem hlt)
   have hw:IntKind.wrap IntKind.i64 ((most:Int)-1)=((most-1:Nat):Int):=by rw[wrap64 (by omega) (by omega)];omega
   simp only[hlt,decide_true,cond_true,BU,BX,BZ,Cb,Cc,uQ,aA hlt,Option.bind_some,hw,hr,arU,aF (show i<9223372036854775807 by omega),Mg m self L hl most h2 h3 hs M (i+1) (max best (min (dpt L[i]) (most-1))) (by omega) (by omega) (by omega),arT dpt hlt]
   congr 2
   omega
  ·rw[List.drop_eq_nil_of_le (by omega)]
   simp only[hlt,decide_false,cond_false,BU,BX,BZ,Cb,Cc,uQ,mx]
   rw[wrap64 (by omega) (by omega)]
   congr 1
   omega
theorem Fe:∀(N:Nat) (d:Dt),d.bulk≤N→N≤137438953472→WV d→∀m,N≤m→∀most:Nat,1≤most→most<1000000→qX (m+2) d (most:Int)=some ((min (dpt d) most:Nat):Int)
 |0,d,h,_,_,_,_,_,_,_=>by have:=aR d;omega
 |N+    1,d,h,hN,hw,m,hm,most,h1,h3=>by
  obtain⟨m,rfl⟩:∃q,m=q+1:=⟨m-1,by omega⟩
  rw[qX,parts_eq d hw (m+1) (by omega) (by omega),Option.bind_some]
  have hd:=aAu hw
  by_cases h2:most<2
  ·have:decide ((most:Int)<2)=true:=by simp;omega
   simp only[this,cond_true,BU,BX,BZ,Cb,Cc,uQ]
   congr 1
   omega
  ·have e2:decide ((most:Int)<2)=false:=by rw[decide_eq_false_iff_not];omega
   by_cases h0:(kW d).length=0
   ·    have e0:((((kW d).length:Nat):Int)==0)=true:=by simp;exact List.length_eq_zero_iff.1 h0
        rw[List.length_eq_zero_iff.1 h0] at hd
        simp only[mx] at hd
        simp only[e2,cond_false,e0,cond_true,BU,BX,BZ,Cb,Cc,uQ]
        congr 1
        omega
   ·    have e0:((((kW d).length:Nat):Int)==0)=false:=by rw[beq_eq_false_iff_ne];omega
        have hlen:=OG hw
        have:=Mg (m+2) (qX (m+2)) (kW d) (by omega) most (by omega) h3 (fun e he=>by
         obtain⟨hwe,hbe⟩:=lX hw e he
         exact Fe N e (by omega) (by omega) hwe m (by omega) (most-1) (by omega) (by omega)) (m+3) 0 0 (Nat.zero_le _) (by omega) (by omega)
        rw[List.drop_zero] at this
        have h':Ca (m+2) (qX (m+2)) (Nat.succ (m+2)) (most:Int) (kW d) 0 0=_:=this
        have e9:max 0 (min (mx dpt (kW d)) (most-1))+1=min (dpt d) most:=by omega
        simp only[e2,cond_false,e0,BU,BX,BZ,Cb,Cc,uQ,h',e9]
theorem Y1 {d:Dt} (hw:WV d) (hb:d.bulk≤137438953472) (m:Nat) (hm:d.bulk≤m):vJ (m+3) d=some ((min (dpt d) 17:Nat):Int):=by
 simp only[vJ]
 rw[show ((17:Int))=((17:Nat):Int) from rfl,Fe d.bulk d (Nat.le_refl _) hb hw m hm 17 (by omega) (by omega)]
 rfl
def okV (d:Dt):Bool:=decide (nds d≤1024)&&decide (dpt d≤16)&&qm nm d.bulk d
theorem lim (n k:Nat) (h:k<1000000):decide (((min n (k+1):Nat):Int)≤((k:Nat):Int))=decide (n≤k):=by
 rw[dle,Bool.eq_iff_iff];simp only[decide_eq_true_eq];omega
theorem Fg {d:Dt} (hw:WV d) (m:Nat) (hm:2*d.bulk+300≤m) (hm2:m<9223372036854775000) (hb:d.bulk≤100000000000):y3 (m+4) d=some (okV d):=by
 have h1:vK (m+3) d=some ((min (nds d) (1024+1):Nat):Int):=Zp hw (by omega) m (by omega)
 have h2:vJ (m+3) d=some ((min (dpt d) (16+1):Nat):Int):=Y1 hw (by omega) m (by omega)
 have h3:qE (m+3) d true=some (qm nm d.bulk d):=xD true d.bulk d (Nat.le_refl _) (by omega) hw (m+2) (by omega) (by omega)
 have l1:decide (((min (nds d) (1024+1):Nat):Int)≤1024)=decide (nds d≤1024):=lim _ 1024 (by omega)
 have l2:decide (((min (dpt d) (16+1):Nat):Int)≤16)=decide (dpt d≤16):=lim _ 16 (by omega)
 simp only[y3,h1,h2,h3,Option.bind_some,l1,l2,okV]
 cases decide (nds d≤1024)<;>cases decide (dpt d≤16)<;>rfl
end Go.Proofs.YtjnkagkoolbodaaGreatDoor
namespace Go.Proofs.YtjnkagkoolbodaaGreatDoor
open Go.Am
theorem fU (d:Dt):1≤d.bulk:=by cases d<;>simp[Dt.bulk]
theorem sN {e:Dt}:∀{l:List Dt},e∈l→e.bulk≤Dt.bulkL l
 |a::r,h=>by
  simp only[Dt.bulkL]
  rcases List.mem_cons.1 h with rfl|h
  ·omega
  ·have:=sN h;omega
theorem Fh:∀l:List Dt,l.length≤Dt.bulkL l
 | []=>by simp[Dt.bulkL]
 |a::r=>by have:=Fh r;have:=fU a;simp only[Dt.bulkL,List.length_cons];omega
theorem aB (d:Dt) (i:Nat):(Dt.fld d i).bulk≤d.bulk:=by
 cases d with
 |agg ds=>
  simp only[Dt.fld,Dt.bulk,List.getD]
  cases h:ds[i]? with
  |none=>simp[Dt.bulk]
  |some e=>have:=sN (List.mem_of_getElem? h);simp;omega
 |_=>simp only[Dt.fld,Dt.bulk];omega
theorem ahb (d:Dt) (i:Nat):Dt.bulkL (Dt.L d i)<d.bulk:=by
 have h:=aB d i
 unfold Dt.L
 cases e:Dt.fld d i with
 |lst es=>rw[e] at h;simp only[Dt.bulk] at h;simp only[Dt.toLst];omega
 |_=>have:=fU d;simp only[Dt.toLst,Dt.bulkL];omega
theorem aL {d e:Dt} {i:Nat} (h:e∈Dt.L d i):e.bulk<d.bulk:=by
 have:=ahb d i
 have:=sN h
 omega
theorem aD (d:Dt) (i:Nat):(Dt.L d i).length<d.bulk:=by
 have:=ahb d i
 have:=Fh (Dt.L d i)
 omega
theorem ahc (d:Dt) (i:Nat):(Dt.S d i).size<d.bulk:=by
 have h:=aB d i
 unfold Dt.S
 cases e:Dt.fld d i with
 |str s=>rw[e] at h;simp only[Dt.bulk] at h;simp only[Dt.toStr];omega
 |_=>have:=fU d;simp only[Dt.toStr];exact Nat.lt_of_lt_of_le (by decide) this
end Go.Proofs.YtjnkagkoolbodaaGreatDoor
