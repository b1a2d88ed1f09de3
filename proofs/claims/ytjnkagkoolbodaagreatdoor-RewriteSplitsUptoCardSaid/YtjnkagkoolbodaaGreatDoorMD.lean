/- Comparing values: the program's function, in plain Lean (parts numbered as since session 5).
Comparing values:the reference's function (parts numbered as since session 5).
Equal lists of strings,in plain Lean.
Valid paths:the program's test and the reference's. -/
import Derived.Test.YtjnkagkoolbodaaGreatDoorSh
import Derived.Test.YtjnkagkoolbodaaGreatDoorMA
import Derived.Test.YtjnkagkoolbodaaGreatDoorMC
import Derived.Test.YtjnkagkoolbodaaGreatDoorMTpo
import Derived.Test.YtjnkagkoolbodaaGreatDoorMB
set_option linter.unusedVariables false
set_option linter.unusedSimpArgs false
namespace Go.Proofs.YtjnkagkoolbodaaGreatDoor
open Go.Am
theorem Qq {c c':Dt→Dt→Int} {f g:Dt} (h:c (Dt.fld f 1) (Dt.fld g 1)=c' (Dt.fld f 1) (Dt.fld g 1)):LJ c f g=LJ c' f g:=by unfold LJ;rw[h]
theorem sH:∀(n n':Nat) (a b:Dt),a.bulk≤n→a.bulk≤n'→qd n a b=qd n' a b
 |0,_,a,_,h,_=>by have:=fU a;omega
 |_,0,a,_,_,h=>by have:=fU a;omega
 |n+1,n'+1,a,b,h,h'=>by
  simp only[qd]
  congr 1
  unfold ayT
  rw[oz (l:=Dt.L a 3) (c:=qd n) (c':=qd n') fun x hx y _=>sH n n' x y (by have:=aL hx;omega) (by have:=aL hx;omega),
   oz (l:=Dt.L a 4) (c:=LJ (qd n)) (c':=LJ (qd n')) fun x hx y _=>Qq (sH n n' _ _ (by have:=aL hx;have:=aB x 1;omega) (by have:=aL hx;have:=aB x 1;omega))]
def aBv (a b:Dt):Int:=qd (a.bulk+b.bulk) a b
theorem ayq {n:Nat} {a b:Dt} (h:a.bulk≤n):qd n a b=aBv a b:=sH _ _ _ _ h (by omega)
theorem ayr {A:Type} {c:A→A→Int}:∀{l r:List A},(l=[]∨r=[])→cmpL c l r=sM (l.length:Int) (r.length:Int)
 | [],[],_=>rfl
 | [],_::r,_=>by
   show (-1:Int)=_
   rcases dS (([]:List A).length:Int) ((‹A› ::r).length:Int) with⟨_,e⟩| ⟨h,e⟩| ⟨h,e⟩
   ·rw[e]
   ·simp at h;omega
   ·simp at h;omega
 | _::l,[],_=>by
   show (1:Int)=_
   rcases dS ((‹A› ::l).length:Int) (([]:List A).length:Int) with⟨h,e⟩| ⟨h,e⟩| ⟨_,e⟩
   ·simp at h;omega
   ·simp at h;omega
   ·rw[e]
 |_::_,_::_,h=>by simp at h
theorem Qr (a b k:Int):sM (a+k) (b+k)=sM a b:=by
 rcases dS a b with⟨h,e⟩| ⟨h,e⟩| ⟨h,e⟩<;>rcases dS (a+k) (b+k) with⟨g,f⟩| ⟨g,f⟩| ⟨g,f⟩<;>omega
theorem lQ {A:Type} {c:A→A→Int} {l r:List A} {i:Nat} (hl:i≤l.length) (hr:i≤r.length) (h:i=l.length∨i=r.length):cmpL c (l.drop i) (r.drop i)=sM (l.length:Int) (r.length:Int):=by
 rw[ayr]
 ·rw[List.length_drop,List.length_drop,show ((l.length:Nat):Int)=((l.length-i:Nat):Int)+i by omega,show ((r.length:Nat):Int)=((r.length-i:Nat):Int)+i by omega,Qr]
 ·rcases h with h|h
  ·exact .inl (List.drop_eq_nil_of_le (by omega))
  ·exact .inr (List.drop_eq_nil_of_le (by omega))
end Go.Proofs.YtjnkagkoolbodaaGreatDoor
namespace Go.Proofs.YtjnkagkoolbodaaGreatDoor
open Go.Am
theorem gQ (m:Nat) (a b:Int):yO (m+1) a b=some (sM a b):=by
 simp only[yO,aiV,aiU,sM]
 cases decide (a<b)<;>cases decide (b<a)<;>rfl
theorem wF (m:Nat) (a b:ByteArray) (ha:a.size<1000000000000):∀(M i:Nat),i≤a.size→i≤b.size→a.size-i<M→GI (m+1) M a b (i:Int)=some (cmpL Iq (a.data.toList.drop i) (b.data.toList.drop i))
 |0,i,_,_,h=>by omega
 |M+    1,i,hi,hi2,h=>by
  have la:a.data.toList.length=a.size:=by rw[Array.length_toList];rfl
  have lb:b.data.toList.length=b.size:=by rw[Array.length_toList];rfl
  simp only[GI,dlt]
  by_cases h1:i<a.size
  ·by_cases h2:i<b.size
   ·    have e1:a.data.toList.drop i=a[i]::a.data.toList.drop (i+1):=by rw[List.drop_eq_getElem_cons (by omega)];rfl
        have e2:b.data.toList.drop i=b[i]::b.data.toList.drop (i+1):=by rw[List.drop_eq_getElem_cons (by omega)];rfl
        have hwr:∀u:UInt8,IntKind.wrap IntKind.i64 (u.toNat:Int)=(u.toNat:Int):=fun u=>wrap64 (by omega) (by have:=u.toNat_lt;omega)
        simp only[h1,h2,decide_true,cond_true,aiX,aiW,ig h1,ig h2,Option.bind_some,hwr,gQ,aF (show i<9223372036854775807 by omega)]
        rw[wF m a b ha M (i+1) (by omega) (by omega) (by omega),e1,e2]
        simp only[cmpL]
        by_cases e:((a[i].toNat:Int))=(b[i].toNat:Int)
        ·have e3:Iq a[i] b[i]=0:=by
          rcases dS (a[i].toNat:Int) (b[i].toNat:Int) with⟨g,f⟩| ⟨g,f⟩| ⟨g,f⟩
          ·omega
          ·exact f
          ·omega
         rw[LH e,LH e3]
        ·have e3:Iq a[i] b[i]≠0:=by
          rcases dS (a[i].toNat:Int) (b[i].toNat:Int) with⟨g,f⟩| ⟨g,f⟩| ⟨g,f⟩
          ·intro x;rw[show Iq a[i] b[i]= -1 from f] at x;omega
          ·omega
          ·intro x;rw[show Iq a[i] b[i]=1 from f] at x;omega
         rw[wX e,wX e3]
         rfl
   ·    have:i=b.size:=by omega
        simp only[h1,h2,decide_true,decide_false,cond_true,cond_false,NS,gQ,Option.bind_some]
        rw[lQ (by omega) (by omega) (.inr (by omega)),la,lb]
  ·simp only[h1,decide_false,cond_false,NS,gQ,Option.bind_some]
   rw[lQ (by omega) (by omega) (.inl (by omega)),la,lb]
theorem Kj (m:Nat) (a b:ByteArray) (hm:a.size≤m) (hm2:m<1000000000000):yA (m+2) a b=some (Ir a b):=by
 have:=wF m a b (by omega) (m+2) 0 (by omega) (by omega) (by omega)
 rw[Ir,UY]
 exact this
theorem Ue (m:Nat) (self:Dt→Dt→Option Int) (c:Dt→Dt→Int) (a b:Dt) (hl:(Dt.L a 3).length<1000000000000) (hs:∀x∈Dt.L a 3,∀y,self x y=some (c x y)):∀(M i:Nat),i≤(Dt.L a 3).length→i≤(Dt.L b 3).length→(Dt.L a 3).length-i<M→
  GJ (m+1) self M (i:Int) a b=some (cmpL c ((Dt.L a 3).drop i) ((Dt.L b 3).drop i))
 |0,i,_,_,h=>by omega
 |M+    1,i,hi,hi2,h=>by
  simp only[GJ,dlt]
  by_cases ha:i<(Dt.L a 3).length
  ·by_cases hb:i<(Dt.L b 3).length
   ·    simp only[ha,hb,decide_true,cond_true,aiZ,aiY,aA ha,aA hb,Option.bind_some,hs _ (List.getElem_mem ha),aF (show i<9223372036854775807 by omega)]
        rw[Ue m self c a b hl hs M (i+1) (by omega) (by omega) (by omega),List.drop_eq_getElem_cons ha,List.drop_eq_getElem_cons hb]
        simp only[cmpL]
        cases (c (Dt.L a 3)[i] (Dt.L b 3)[i] !=0)<;>rfl
   ·    simp only[ha,hb,decide_true,decide_false,cond_true,cond_false,NT,gQ,Option.bind_some]
        rw[lQ hi hi2 (by omega)]
  ·simp only[ha,decide_false,cond_false,NT,gQ,Option.bind_some]
   rw[lQ hi hi2 (by omega)]
theorem Uf (m:Nat) (hm:1≤m) (self:Dt→Dt→Option Int) (c:Dt→Dt→Int) (a b:Dt) (hl:(Dt.L a 4).length<1000000000000) (ht:∀x∈Dt.L a 4,∀y,yA (m+1) (Dt.S x 0) (Dt.S y 0)=some (Ir (Dt.S x 0) (Dt.S y 0))) (hs:∀x∈Dt.L a 4,∀y,self (Dt.fld x 1) (Dt.fld y 1)=some (c (Dt.fld x 1) (Dt.fld y 1))):∀(M i:Nat),i≤(Dt.L a 4).length→i≤(Dt.L b 4).length→(Dt.L a 4).length-i<M→
  GK (m+1) self M (i:Int) a b=some (cmpL (LJ c) ((Dt.L a 4).drop i) ((Dt.L b 4).drop i))
 |0,i,_,_,h=>by omega
 |M+    1,i,hi,hi2,h=>by
  simp only[GK,dlt]
  by_cases ha:i<(Dt.L a 4).length
  ·by_cases hb:i<(Dt.L b 4).length
   ·    simp only[ha,hb,decide_true,cond_true,Ro,I8,Rn,aA ha,aA hb,Option.bind_some,ht _ (List.getElem_mem ha),hs _ (List.getElem_mem ha),aF (show i<9223372036854775807 by omega)]
        rw[Uf m hm self c a b hl ht hs M (i+1) (by omega) (by omega) (by omega),List.drop_eq_getElem_cons ha,List.drop_eq_getElem_cons hb]
        simp only[cmpL,LJ]
        by_cases e:Ir (Dt.S (Dt.L a 4)[i] 0) (Dt.S (Dt.L b 4)[i] 0)=0
        ·have e1:(Ir (Dt.S (Dt.L a 4)[i] 0) (Dt.S (Dt.L b 4)[i] 0)==0)=true:=by simpa using e
         rw[e1]
         simp only[cond_true]
         rw[LH e]
         by_cases e2:c (Dt.fld (Dt.L a 4)[i] 1) (Dt.fld (Dt.L b 4)[i] 1)=0
         ·rw[LH e2,LH e2]
         ·rw[wX e2,wX e2]
        ·have e1:(Ir (Dt.S (Dt.L a 4)[i] 0) (Dt.S (Dt.L b 4)[i] 0)==0)=false:=by simpa using e
         rw[e1]
         simp only[cond_false]
         rw[wX e,wX e,wX e]
   ·    simp only[ha,hb,decide_true,decide_false,cond_true,cond_false,BP,gQ,Option.bind_some]
        rw[lQ hi hi2 (by omega)]
  ·simp only[ha,decide_false,cond_false,BP,gQ,Option.bind_some]
   rw[lQ hi hi2 (by omega)]
theorem aqP (m:Nat) (self:Dt→Dt→Option Int) (a b:Dt):NW m self a b=
  bif (Dt.I a 0==3||Dt.I a 0==9||Dt.I a 0==10) then yO m (Dt.I a 1) (Dt.I b 1)
  else bif (Dt.I a 0==4||Dt.I a 0==7||Dt.I a 0==8) then yA m (Dt.S a 2) (Dt.S b 2)
  else bif Dt.I a 0==6 then VF m self 0 a b
  else bif Dt.I a 0==5 then VG m self 0 a b else Rp m self:=by
 have hb:∀x:Option Int,(x.bind fun r=>some r)=x:=fun x=>by cases x<;>rfl
 simp only[NW,NV,NU,hb]
 cases (Dt.I a 0==3)<;>cases (Dt.I a 0==9)<;>cases (Dt.I a 0==10)<;>cases (Dt.I a 0==4)<;>cases (Dt.I a 0==7)<;>cases (Dt.I a 0==8)<;>rfl
theorem Ii:∀(n:Nat) (a b:Dt),a.bulk≤n→n<900000000000→∀m,n≤m→m<900000000000→qD (m+3) a b=some (qd n a b)
 |0,a,_,h,_,_,_,_=>by have:=fU a;omega
 |n+    1,a,b,h,hn,m,hm,hm2=>by
  obtain⟨m,rfl⟩:∃k,m=k+1:=⟨m-1,by omega⟩
  have h3:=aD a 3
  have h4:=aD a 4
  have e3:=Ue (m+2) (qD (m+3)) (qd n) a b (by omega) (fun x hx y=>Ii n x y (by have:=aL hx;omega) (by omega) m (by omega) (by omega)) (m+4) 0 (Nat.zero_le _) (Nat.zero_le _) (by omega)
  have e4:=Uf (m+2) (by omega) (qD (m+3)) (qd n) a b (by omega) (fun x hx y=>Kj (m+1) _ _ (by have:=aL hx;have:=ahc x 0;omega) (by omega)) (fun x hx y=>Ii n _ _ (by have:=aL hx;have:=aB x 1;omega) (by omega) m (by omega) (by omega)) (m+4) 0 (Nat.zero_le _) (Nat.zero_le _) (by omega)
  rw[List.drop_zero,List.drop_zero] at e3 e4
  have e3':VF (m+3) (qD (m+3)) 0 a b=_:=e3
  have e4':VG (m+3) (qD (m+3)) 0 a b=_:=e4
  show (bif (Dt.I a 0 !=Dt.I b 0) then(yO (m+3) (Dt.I a 0) (Dt.I b 0)).bind (fun r=>some r) else NW (m+3) (qD (m+3)) a b)=_
  simp only[aqP,show m+3=(m+2)+1 from rfl,gQ,qd,Option.bind_some]
  cases (Dt.I a 0 !=Dt.I b 0)
  ·simp only[cond_false,ayT]
   cases (Dt.I a 0==3||Dt.I a 0==9||Dt.I a 0==10)
   ·    cases (Dt.I a 0==4||Dt.I a 0==7||Dt.I a 0==8)
        ·cases (Dt.I a 0==6)
         ·cases (Dt.I a 0==5)
          ·rfl
          ·exact e4'
         ·exact e3'
        ·exact Kj (m+1) _ _ (by have:=ahc a 2;omega) (by omega)
   ·rfl
  ·rfl
theorem ays (a b:Dt) (m:Nat) (hm:a.bulk≤m) (hm2:m<900000000000):qD (m+3) a b=some (aBv a b):=by
 rw[Ii a.bulk a b (Nat.le_refl _) (by omega) m hm hm2,ayq (Nat.le_refl _)]
end Go.Proofs.YtjnkagkoolbodaaGreatDoor
namespace Go.Proofs.YtjnkagkoolbodaaGreatDoor
open Go.Am
def eqS (a b:Dt):Bool:=a.toStr.toList==b.toStr.toList
theorem aaS (a b:Dt):eqS a b=eqS b a:=by simp[eqS,Bool.beq_comm]
def pfx:List Dt→List Dt→Bool
 | [],_=>true
 |a::r,b::s=>eqS a b&&pfx r s
 |_::_,[]=>false
theorem Kk:∀{a b:List Dt},a.length=b.length→pfx a b=pfx b a
 | [],[],_=>rfl
 |a::r,b::s,h=>by simp[pfx,aaS a b,Kk (a:=r) (b:=s) (by simpa using h)]
 | [],_::_,h=>by simp at h
 |_::_,[],h=>by simp at h
def eqP (a b:List Dt):Bool:=a.length==b.length&&pfx a b
theorem aaT (a b:List Dt):eqP a b=eqP b a:=by
 unfold eqP
 by_cases h:a.length=b.length
 ·rw[Kk h,h]
 ·have h1:(a.length==b.length)=false:=by simpa using h
  have h2:(b.length==a.length)=false:=by simpa using fun e=>h e.symm
  rw[h1,h2];rfl
end Go.Proofs.YtjnkagkoolbodaaGreatDoor
namespace Go.Proofs.YtjnkagkoolbodaaGreatDoor
open Go.Am
def vld (l:List Dt):Bool:=decide (1≤l.length)&&decide (l.length≤16)&&l.all fun e=>nm e.toStr
theorem wG (m:Nat) (hm:34≤m) (l:List Dt) (hl:l.length<9223372036854775807):∀(M i:Nat),i≤l.length→l.length-i<M→BN m M l (i:Int)=some ((l.drop i).all fun e=>nm e.toStr)
 |0,i,_,h=>by omega
 |M+1,i,hi,h=>by
  obtain⟨m,rfl⟩:∃k,m=k+1:=⟨m-1,by omega⟩
  simp only[BN,dlt]
  by_cases hlt:i<l.length
  ·rw[List.drop_eq_getElem_cons hlt]
   simp only[hlt,decide_true,cond_true,NK,NM,NN,NP,NQ,Gx,aA hlt,Option.bind_some,aF (show i<9223372036854775807 by omega),lS m (by omega),wG (m+1) hm l hl M (i+1) (by omega) (by omega),List.all_cons]
   cases nm (l[i]).toStr<;>rfl
  ·have:i=l.length:=by omega
   subst this
   simp[NK,NM,NN,NP,NQ,Gx]
theorem ku (m:Nat) (hm:40≤m) (l:List Dt):zC (m+1) l=some (vld l):=by
 rw[zC,vld]
 by_cases h1:l.length<1
 ·rw[decide_eq_true (show ((l.length:Nat):Int)<(1:Int) by omega),cond_true,decide_eq_false (show ¬1≤l.length by omega),Bool.false_and,Bool.false_and]
  rfl
 rw[decide_eq_false (show ¬((l.length:Nat):Int)<(1:Int) by omega),cond_false,decide_eq_true (show 1≤l.length by omega),Bool.true_and]
 by_cases h2:16<l.length
 ·rw[decide_eq_true (show (16:Int)<((l.length:Nat):Int) by omega),decide_eq_false (show ¬l.length≤16 by omega),Bool.false_and]
  rfl
 rw[decide_eq_false (show ¬(16:Int)<((l.length:Nat):Int) by omega),decide_eq_true (show l.length≤16 by omega),Bool.true_and]
 have h3:=wG m (by omega) l (by omega) (m+1) 0 (by omega) (by omega)
 have h3':BN m (Nat.succ m) l 0=_:=h3
 simp only[cond_false,NK,NM,NN,NP,NQ,Gx,h3',List.drop_zero]
end Go.Proofs.YtjnkagkoolbodaaGreatDoor
