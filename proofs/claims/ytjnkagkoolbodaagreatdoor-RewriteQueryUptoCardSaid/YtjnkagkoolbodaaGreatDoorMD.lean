/- Total preorders by comparing functions, in plain Lean: products, lists, values.
Comparing values:the program's function,in plain Lean (parts numbered as since session 5).
Comparing values:the reference's function (parts numbered as since session 5).
Equal lists of strings,in plain Lean.
Valid paths:the program's test and the reference's. -/
import Derived.Test.YtjnkagkoolbodaaGreatDoorAm20
import Derived.Lib.Bytealg
import Derived.Test.YtjnkagkoolbodaaGreatDoorSh
import Derived.Test.YtjnkagkoolbodaaGreatDoorMA
import Derived.Test.YtjnkagkoolbodaaGreatDoorMC
import Derived.Test.YtjnkagkoolbodaaGreatDoorFx
set_option linter.unusedVariables false
set_option linter.unusedSimpArgs false
namespace Go.Am
structure TPO {A:Type} (c:A→A→Int):Prop where
 rng:∀a b,c a b= -1∨c a b=0∨c a b=1
 anti:∀a b,c b a= -c a b
 tr:∀a b d,c a b≤0→c b d≤0→c a d≤0
theorem alm {X:Type} {x y:Int} {u v:X} (h:x≠y):(bif x !=y then u else v)=u:=by
 have:(x !=y)=true:=by simpa using h
 rw[this];rfl
theorem atz {X:Type} {x y:Int} {u v:X} (h:x=y):(bif x !=y then u else v)=v:=by subst h;simp
namespace TPO
variable {A B:Type} {c c':A→A→Int}
theorem refl (h:TPO c) (a:A):c a a=0:=by have:=h.anti a a;omega
theorem eql (h:TPO c) {a b d:A} (e:c a b=0):c a d=c b d:=by
 have h1:=h.anti a b
 have h2:=h.anti a d
 have h3:=h.anti b d
 have t1:=h.tr a b d
 have t2:=h.tr b a d
 have t3:=h.tr d a b
 have t4:=h.tr d b a
 have r1:=h.rng a d
 have r2:=h.rng b d
 omega
theorem zero:TPO (fun _ _:A=>0):=⟨fun _ _=> .inr (.inl rfl),fun _ _=>rfl,fun _ _ _ _ _=>Int.le_refl 0⟩
theorem key (h:TPO c) (k:B→A):TPO (fun a b=>c (k a) (k b)):=⟨fun _ _=>h.rng _ _,fun _ _=>h.anti _ _,fun _ _ _=>h.tr _ _ _⟩
theorem neg (h:TPO c):TPO (fun a b=> -c a b):=⟨fun a b=>by have:=h.rng a b;omega,fun a b=>by have:=h.anti a b;omega,fun a b d h1 h2=>by
 have a1:=h.anti a b
 have a2:=h.anti b d
 have a3:=h.anti a d
 have:=h.tr d b a (by omega) (by omega)
 omega⟩
end TPO
def agD (a b:Int):Int:=bif decide (a<b) then -1 else bif decide (b<a) then 1 else 0
theorem y8 (a b:Int):(a<b∧agD a b= -1)∨(a=b∧agD a b=0)∨(b<a∧agD a b=1):=by
 unfold agD
 by_cases h:a<b
 ·exact .inl ⟨h,by simp[h]⟩
 ·by_cases h2:b<a
  ·exact .inr (.inr ⟨h2,by simp[h,h2]⟩)
  ·exact .inr (.inl ⟨by omega,by simp[h,h2]⟩)
def cmpL {A:Type} (c:A→A→Int):List A→List A→Int
 |a::r,b::s=>bif c a b !=0 then c a b else cmpL c r s
 | [],[]=>0
 | [],_::_=> -1
 |_::_,[]=>1
theorem Y7 {A:Type} {c c':A→A→Int}:∀{l r:List A},(∀a∈l,∀b∈r,c a b=c' a b)→cmpL c l r=cmpL c' l r
 | [],[],_=>rfl
 | [],_::_,_=>rfl
 |_::_,[],_=>rfl
 |a::l,b::r,h=>by
  simp only[cmpL,h a (by simp) b (by simp),Y7 (l:=l) (r:=r) fun x hx y hy=>h x (by simp[hx]) y (by simp[hy])]
def arh (a b:UInt8):Int:=agD (a.toNat:Int) (b.toNat:Int)
theorem azg:∀l r:List UInt8,Lib.compareBytes l r=cmpL arh l r
 | [],[]=>rfl
 | [],_::_=>rfl
 |_::_,[]=>rfl
 |a::l,b::r=>by
  simp only[Lib.compareBytes,cmpL,azg l r]
  have hab:a<b↔a.toNat<b.toNat:=UInt8.lt_iff_toNat_lt
  have hba:b<a↔b.toNat<a.toNat:=UInt8.lt_iff_toNat_lt
  rcases y8 (a.toNat:Int) (b.toNat:Int) with⟨h,e⟩| ⟨h,e⟩| ⟨h,e⟩
  ·have h1:a<b:=hab.2 (by omega)
   have e':arh a b= -1:=e
   simp[h1,e']
  ·have h1:¬a<b:=fun x=>by have:=hab.1 x;omega
   have h2:¬b<a:=fun x=>by have:=hba.1 x;omega
   have e':arh a b=0:=e
   simp[h1,h2,e']
  ·have h1:¬a<b:=fun x=>by have:=hab.1 x;omega
   have h2:b<a:=hba.2 (by omega)
   have e':arh a b=1:=e
   simp[h1,h2,e']
def ari (a b:ByteArray):Int:=Lib.compareBytes a.data.toList b.data.toList
def atA (c:Dt→Dt→Int) (f g:Dt):Int:=bif ari (Dt.S f 0) (Dt.S g 0) !=0 then ari (Dt.S f 0) (Dt.S g 0) else c (Dt.fld f 1) (Dt.fld g 1)
def aTW (c:Dt→Dt→Int) (k:Int) (a b:Dt):Int:=
 bif (k==3||k==9||k==10) then agD (Dt.I a 1) (Dt.I b 1)
 else bif (k==4||k==7||k==8) then ari (Dt.S a 2) (Dt.S b 2)
 else bif k==6 then cmpL c (Dt.L a 3) (Dt.L b 3)
 else bif k==5 then cmpL (atA c) (Dt.L a 4) (Dt.L b 4) else 0
def acC:Nat→Dt→Dt→Int
 |0,_,_=>0
 |n+1,a,b=>bif (Dt.I a 0 !=Dt.I b 0) then agD (Dt.I a 0) (Dt.I b 0) else aTW (acC n) (Dt.I a 0) a b
end Go.Am
namespace Go.Am.Srt
variable {A:Type} (lt:A→A→Bool)
structure SWO:Prop where
 irr:∀x,lt x x=false
 tr:∀x y z,lt x y=true→lt y z=true→lt x z=true
 ntr:∀x y z,lt x y=false→lt y z=false→lt x z=false
variable {lt}
end Go.Am.Srt
namespace Go.Proofs.YtjnkagkoolbodaaGreatDoor
open Go.Am
theorem awy {c c':Dt→Dt→Int} {f g:Dt} (h:c (Dt.fld f 1) (Dt.fld g 1)=c' (Dt.fld f 1) (Dt.fld g 1)):atA c f g=atA c' f g:=by unfold atA;rw[h]
theorem agE:∀(n n':Nat) (a b:Dt),a.bulk≤n→a.bulk≤n'→acC n a b=acC n' a b
 |0,_,a,_,h,_=>by have:=G5 a;omega
 |_,0,a,_,_,h=>by have:=G5 a;omega
 |n+1,n'+1,a,b,h,h'=>by
  simp only[acC]
  congr 1
  unfold aTW
  rw[Y7 (l:=Dt.L a 3) (c:=acC n) (c':=acC n') fun x hx y _=>agE n n' x y (by have:=bA hx;omega) (by have:=bA hx;omega),
   Y7 (l:=Dt.L a 4) (c:=atA (acC n)) (c':=atA (acC n')) fun x hx y _=>awy (agE n n' _ _ (by have:=bA hx;have:=aA x 1;omega) (by have:=bA hx;have:=aA x 1;omega))]
def aVY (a b:Dt):Int:=acC (a.bulk+b.bulk) a b
theorem aTX {n:Nat} {a b:Dt} (h:a.bulk≤n):acC n a b=aVY a b:=agE _ _ _ _ h (by omega)
theorem aTY {A:Type} {c:A→A→Int}:∀{l r:List A},(l=[]∨r=[])→cmpL c l r=agD (l.length:Int) (r.length:Int)
 | [],[],_=>rfl
 | [],_::r,_=>by
   show (-1:Int)=_
   rcases y8 (([]:List A).length:Int) ((‹A› ::r).length:Int) with⟨_,e⟩| ⟨h,e⟩| ⟨h,e⟩
   ·rw[e]
   ·simp at h;omega
   ·simp at h;omega
 | _::l,[],_=>by
   show (1:Int)=_
   rcases y8 ((‹A› ::l).length:Int) (([]:List A).length:Int) with⟨h,e⟩| ⟨h,e⟩| ⟨_,e⟩
   ·simp at h;omega
   ·simp at h;omega
   ·rw[e]
 |_::_,_::_,h=>by simp at h
theorem awz (a b k:Int):agD (a+k) (b+k)=agD a b:=by
 rcases y8 a b with⟨h,e⟩| ⟨h,e⟩| ⟨h,e⟩<;>rcases y8 (a+k) (b+k) with⟨g,f⟩| ⟨g,f⟩| ⟨g,f⟩<;>omega
theorem V4 {A:Type} {c:A→A→Int} {l r:List A} {i:Nat} (hl:i≤l.length) (hr:i≤r.length) (h:i=l.length∨i=r.length):cmpL c (l.drop i) (r.drop i)=agD (l.length:Int) (r.length:Int):=by
 rw[aTY]
 ·rw[List.length_drop,List.length_drop,show ((l.length:Nat):Int)=((l.length-i:Nat):Int)+i by omega,show ((r.length:Nat):Int)=((r.length-i:Nat):Int)+i by omega,awz]
 ·rcases h with h|h
  ·exact .inl (List.drop_eq_nil_of_le (by omega))
  ·exact .inr (List.drop_eq_nil_of_le (by omega))
end Go.Proofs.YtjnkagkoolbodaaGreatDoor
namespace Go.Proofs.YtjnkagkoolbodaaGreatDoor
open Go.Am
theorem KA (m:Nat) (a b:Int):gX (m+1) a b=some (agD a b):=by
 simp only[gX,ME,MC,agD]
 cases decide (a<b)<;>cases decide (b<a)<;>rfl
theorem aln (m:Nat) (a b:ByteArray) (ha:a.size<1000000000000):∀(M i:Nat),i≤a.size→i≤b.size→a.size-i<M→qB (m+1) M a b (i:Int)=some (cmpL arh (a.data.toList.drop i) (b.data.toList.drop i))
 |0,i,_,_,h=>by omega
 |M+    1,i,hi,hi2,h=>by
  have la:a.data.toList.length=a.size:=by rw[Array.length_toList];rfl
  have lb:b.data.toList.length=b.size:=by rw[Array.length_toList];rfl
  simp only[qB,dlt]
  by_cases h1:i<a.size
  ·by_cases h2:i<b.size
   ·    have e1:a.data.toList.drop i=a[i]::a.data.toList.drop (i+1):=by rw[List.drop_eq_getElem_cons (by omega)];rfl
        have e2:b.data.toList.drop i=b[i]::b.data.toList.drop (i+1):=by rw[List.drop_eq_getElem_cons (by omega)];rfl
        have hwr:∀u:UInt8,IntKind.wrap IntKind.i64 (u.toNat:Int)=(u.toNat:Int):=fun u=>wrap64 (by omega) (by have:=u.toNat_lt;omega)
        simp only[h1,h2,decide_true,cond_true,Jb,EZ,Ja,yY h1,yY h2,Option.bind_some,hwr,KA,aT (show i<9223372036854775807 by omega)]
        rw[aln m a b ha M (i+1) (by omega) (by omega) (by omega),e1,e2]
        simp only[cmpL]
        by_cases e:((a[i].toNat:Int))=(b[i].toNat:Int)
        ·have e3:arh a[i] b[i]=0:=by
          rcases y8 (a[i].toNat:Int) (b[i].toNat:Int) with⟨g,f⟩| ⟨g,f⟩| ⟨g,f⟩
          ·omega
          ·exact f
          ·omega
         rw[atz e,atz e3]
        ·have e3:arh a[i] b[i]≠0:=by
          rcases y8 (a[i].toNat:Int) (b[i].toNat:Int) with⟨g,f⟩| ⟨g,f⟩| ⟨g,f⟩
          ·intro x;rw[show arh a[i] b[i]= -1 from f] at x;omega
          ·omega
          ·intro x;rw[show arh a[i] b[i]=1 from f] at x;omega
         rw[alm e,alm e3]
         rfl
   ·    have:i=b.size:=by omega
        simp only[h1,h2,decide_true,decide_false,cond_true,cond_false,qA,KA,Option.bind_some]
        rw[V4 (by omega) (by omega) (.inr (by omega)),la,lb]
  ·simp only[h1,decide_false,cond_false,qA,KA,Option.bind_some]
   rw[V4 (by omega) (by omega) (.inl (by omega)),la,lb]
theorem atB (m:Nat) (a b:ByteArray) (hm:a.size≤m) (hm2:m<1000000000000):oK (m+2) a b=some (ari a b):=by
 have:=aln m a b (by omega) (m+2) 0 (by omega) (by omega) (by omega)
 rw[ari,azg]
 exact this
theorem azh (m:Nat) (self:Dt→Dt→Option Int) (c:Dt→Dt→Int) (a b:Dt) (hl:(Dt.L a 3).length<1000000000000) (hs:∀x∈Dt.L a 3,∀y,self x y=some (c x y)):∀(M i:Nat),i≤(Dt.L a 3).length→i≤(Dt.L b 3).length→(Dt.L a 3).length-i<M→
  mJ (m+1) self M (i:Int) a b=some (cmpL c ((Dt.L a 3).drop i) ((Dt.L b 3).drop i))
 |0,i,_,_,h=>by omega
 |M+    1,i,hi,hi2,h=>by
  simp only[mJ,AZ,dlt]
  by_cases ha:i<(Dt.L a 3).length
  ·by_cases hb:i<(Dt.L b 3).length
   ·    simp only[ha,hb,decide_true,cond_true,CO,CK,ay ha,ay hb,Option.bind_some,hs _ (List.getElem_mem ha),aT (show i<9223372036854775807 by omega)]
        rw[azh m self c a b hl hs M (i+1) (by omega) (by omega) (by omega),List.drop_eq_getElem_cons ha,List.drop_eq_getElem_cons hb]
        simp only[cmpL]
        cases (c (Dt.L a 3)[i] (Dt.L b 3)[i] !=0)<;>rfl
   ·    simp only[ha,hb,decide_true,decide_false,cond_true,cond_false,qC,KA,Option.bind_some]
        rw[V4 hi hi2 (by omega)]
  ·simp only[ha,decide_false,cond_false,qC,KA,Option.bind_some]
   rw[V4 hi hi2 (by omega)]
theorem azi (m:Nat) (hm:1≤m) (self:Dt→Dt→Option Int) (c:Dt→Dt→Int) (a b:Dt) (hl:(Dt.L a 4).length<1000000000000) (ht:∀x∈Dt.L a 4,∀y,oK (m+1) (Dt.S x 0) (Dt.S y 0)=some (ari (Dt.S x 0) (Dt.S y 0))) (hs:∀x∈Dt.L a 4,∀y,self (Dt.fld x 1) (Dt.fld y 1)=some (c (Dt.fld x 1) (Dt.fld y 1))):∀(M i:Nat),i≤(Dt.L a 4).length→i≤(Dt.L b 4).length→(Dt.L a 4).length-i<M→
  mK (m+1) self M (i:Int) a b=some (cmpL (atA c) ((Dt.L a 4).drop i) ((Dt.L b 4).drop i))
 |0,i,_,_,h=>by omega
 |M+    1,i,hi,hi2,h=>by
  simp only[mK,Bb,dlt]
  by_cases ha:i<(Dt.L a 4).length
  ·by_cases hb:i<(Dt.L b 4).length
   ·    simp only[ha,hb,decide_true,cond_true,Ba,zB,A9,A8,ay ha,ay hb,Option.bind_some,ht _ (List.getElem_mem ha),hs _ (List.getElem_mem ha),aT (show i<9223372036854775807 by omega)]
        rw[azi m hm self c a b hl ht hs M (i+1) (by omega) (by omega) (by omega),List.drop_eq_getElem_cons ha,List.drop_eq_getElem_cons hb]
        simp only[cmpL,atA]
        by_cases e:ari (Dt.S (Dt.L a 4)[i] 0) (Dt.S (Dt.L b 4)[i] 0)=0
        ·have e1:(ari (Dt.S (Dt.L a 4)[i] 0) (Dt.S (Dt.L b 4)[i] 0)==0)=true:=by simpa using e
         rw[e1]
         simp only[cond_true]
         rw[atz e]
         by_cases e2:c (Dt.fld (Dt.L a 4)[i] 1) (Dt.fld (Dt.L b 4)[i] 1)=0
         ·rw[atz e2,atz e2]
         ·rw[alm e2,alm e2]
        ·have e1:(ari (Dt.S (Dt.L a 4)[i] 0) (Dt.S (Dt.L b 4)[i] 0)==0)=false:=by simpa using e
         rw[e1]
         simp only[cond_false]
         rw[alm e,alm e,alm e]
   ·    simp only[ha,hb,decide_true,decide_false,cond_true,cond_false,oL,KA,Option.bind_some]
        rw[V4 hi hi2 (by omega)]
  ·simp only[ha,decide_false,cond_false,oL,KA,Option.bind_some]
   rw[V4 hi hi2 (by omega)]
theorem aMw (m:Nat) (self:Dt→Dt→Option Int) (a b:Dt):qE m self a b=
  bif (Dt.I a 0==3||Dt.I a 0==9||Dt.I a 0==10) then gX m (Dt.I a 1) (Dt.I b 1)
  else bif (Dt.I a 0==4||Dt.I a 0==7||Dt.I a 0==8) then oK m (Dt.S a 2) (Dt.S b 2)
  else bif Dt.I a 0==6 then wH m self 0 a b
  else bif Dt.I a 0==5 then wI m self 0 a b else Bc m self:=by
 have hb:∀x:Option Int,(x.bind fun r=>some r)=x:=fun x=>by cases x<;>rfl
 simp only[qE,Bf,CQ,Bd,CP,hb]
 cases (Dt.I a 0==3)<;>cases (Dt.I a 0==9)<;>cases (Dt.I a 0==10)<;>cases (Dt.I a 0==4)<;>cases (Dt.I a 0==7)<;>cases (Dt.I a 0==8)<;>rfl
theorem arj:∀(n:Nat) (a b:Dt),a.bulk≤n→n<900000000000→∀m,n≤m→m<900000000000→aJ (m+3) a b=some (acC n a b)
 |0,a,_,h,_,_,_,_=>by have:=G5 a;omega
 |n+    1,a,b,h,hn,m,hm,hm2=>by
  obtain⟨m,rfl⟩:∃k,m=k+1:=⟨m-1,by omega⟩
  have h3:=aO a 3
  have h4:=aO a 4
  have e3:=azh (m+2) (aJ (m+3)) (acC n) a b (by omega) (fun x hx y=>arj n x y (by have:=bA hx;omega) (by omega) m (by omega) (by omega)) (m+4) 0 (Nat.zero_le _) (Nat.zero_le _) (by omega)
  have e4:=azi (m+2) (by omega) (aJ (m+3)) (acC n) a b (by omega) (fun x hx y=>atB (m+1) _ _ (by have:=bA hx;have:=aGK x 0;omega) (by omega)) (fun x hx y=>arj n _ _ (by have:=bA hx;have:=aA x 1;omega) (by omega) m (by omega) (by omega)) (m+4) 0 (Nat.zero_le _) (Nat.zero_le _) (by omega)
  rw[List.drop_zero,List.drop_zero] at e3 e4
  have e3':wH (m+3) (aJ (m+3)) 0 a b=_:=e3
  have e4':wI (m+3) (aJ (m+3)) 0 a b=_:=e4
  show (bif (Dt.I a 0 !=Dt.I b 0) then(gX (m+3) (Dt.I a 0) (Dt.I b 0)).bind (fun r=>some r) else qE (m+3) (aJ (m+3)) a b)=_
  simp only[aMw,show m+3=(m+2)+1 from rfl,KA,acC,Option.bind_some]
  cases (Dt.I a 0 !=Dt.I b 0)
  ·simp only[cond_false,aTW]
   cases (Dt.I a 0==3||Dt.I a 0==9||Dt.I a 0==10)
   ·    cases (Dt.I a 0==4||Dt.I a 0==7||Dt.I a 0==8)
        ·cases (Dt.I a 0==6)
         ·cases (Dt.I a 0==5)
          ·rfl
          ·exact e4'
         ·exact e3'
        ·exact atB (m+1) _ _ (by have:=aGK a 2;omega) (by omega)
   ·rfl
  ·rfl
theorem aTZ (a b:Dt) (m:Nat) (hm:a.bulk≤m) (hm2:m<900000000000):aJ (m+3) a b=some (aVY a b):=by
 rw[arj a.bulk a b (Nat.le_refl _) (by omega) m hm hm2,aTX (Nat.le_refl _)]
end Go.Proofs.YtjnkagkoolbodaaGreatDoor
namespace Go.Proofs.YtjnkagkoolbodaaGreatDoor
open Go.Am
def eqS (a b:Dt):Bool:=a.toStr.toList==b.toStr.toList
theorem aD0 (a b:Dt):eqS a b=eqS b a:=by simp[eqS,Bool.beq_comm]
def pfx:List Dt→List Dt→Bool
 | [],_=>true
 |a::r,b::s=>eqS a b&&pfx r s
 |_::_,[]=>false
theorem atC:∀{a b:List Dt},a.length=b.length→pfx a b=pfx b a
 | [],[],_=>rfl
 |a::r,b::s,h=>by simp[pfx,aD0 a b,atC (a:=r) (b:=s) (by simpa using h)]
 | [],_::_,h=>by simp at h
 |_::_,[],h=>by simp at h
def eqP (a b:List Dt):Bool:=a.length==b.length&&pfx a b
theorem aD1 (a b:List Dt):eqP a b=eqP b a:=by
 unfold eqP
 by_cases h:a.length=b.length
 ·rw[atC h,h]
 ·have h1:(a.length==b.length)=false:=by simpa using h
  have h2:(b.length==a.length)=false:=by simpa using fun e=>h e.symm
  rw[h1,h2];rfl
end Go.Proofs.YtjnkagkoolbodaaGreatDoor
namespace Go.Proofs.YtjnkagkoolbodaaGreatDoor
open Go.Am
def vld (l:List Dt):Bool:=decide (1≤l.length)&&decide (l.length≤16)&&l.all fun e=>nm e.toStr
theorem aqe (m:Nat) (s:ByteArray) (hs:s.size<9223372036854775807):∀(M i:Nat),i≤s.size→s.size-i<M→jY m M s (s.size:Int) (i:Int)=some (!((s.data.toList.drop i).all okB))
 |0,i,_,h=>by omega
 |M+1,i,hi,h=>by
  simp only[jY,dlt]
  by_cases hlt:i<s.size
  ·rw[asn s i hlt]
   simp only[hlt,decide_true,cond_true,Fa,CS,E9,E8,yY hlt,Option.bind_some,aT (show i<9223372036854775807 by omega),aqe m s hs M (i+1) (by omega) (by omega),List.all_cons,okB]
   cases decide (((s[i]).toNat:Int)<33)<;>cases decide ((126:Int)<((s[i]).toNat:Int))<;>cases (((s[i]).toNat:Int)==46)<;>rfl
  ·have:i=s.size:=by omega
   subst this
   rw[List.drop_eq_nil_of_le (by rw[akb];omega)]
   simp[Fb]
theorem awC (m:Nat) (hm:33≤m) (s:ByteArray):wJ (m+1) s=some (!nm s):=by
 rw[wJ,MF]
 by_cases h1:s.size<1
 ·rw[decide_eq_true (show ((s.size:Nat):Int)<1 by omega),cond_true,anv s h1]
  rfl
 rw[decide_eq_false (show ¬((s.size:Nat):Int)<1 by omega),cond_false]
 by_cases h2:32<s.size
 ·rw[decide_eq_true (show (32:Int)<((s.size:Nat):Int) by omega),cond_true,aso s h2]
  rfl
 rw[decide_eq_false (show ¬(32:Int)<((s.size:Nat):Int) by omega),cond_false]
 have hx:idxS s 0=some (s[0].toNat:Int):=yY (s:=s) (i:=0) (by omega)
 have hl:=aqe m s (by omega) (m+1) 0 (by omega) (by omega)
 rw[List.drop_zero] at hl
 have hl':jY m (Nat.succ m) s (s.size:Int) 0=some (!s.data.toList.all okB):=hl
 simp only[hx,Option.bind_some,Fh,Fg,Fe,hl',anu s (by omega) (by omega)]
 cases (((s[0]).toNat:Int)==36)<;>rfl
theorem atD (m:Nat) (hm:34≤m) (l:List Dt) (hl:l.length<9223372036854775807):∀(M i:Nat),i≤l.length→l.length-i<M→∃r,P8 m M l (l.length:Int) (i:Int)=some r∧decide ((0:Int)≤r)=!((l.drop i).all fun e=>nm e.toStr)
 |0,i,_,h=>by omega
 |M+1,i,hi,h=>by
  obtain⟨m,rfl⟩:∃k,m=k+1:=⟨m-1,by omega⟩
  simp only[P8,dlt]
  by_cases hlt:i<l.length
  ·rw[List.drop_eq_getElem_cons hlt]
   obtain⟨r,h1,h2⟩:=atD (m+1) hm l hl M (i+1) (by omega) (by omega)
   simp only[hlt,decide_true,cond_true,ae8,ae9,UY,afa,afb,ay hlt,Option.bind_some,aT (show i<9223372036854775807 by omega),awC m (by omega),h1,List.all_cons]
   cases hn:nm (l[i]).toStr
   ·exact⟨(i:Int),by simp,by simp⟩
   ·exact⟨r,by simp,by simpa using h2⟩
  ·have:i=l.length:=by omega
   subst this
   exact⟨-1,by simp[ae8,ae9,UY,afa,afb],by simp⟩
theorem valid_eq (m:Nat) (hm:40≤m) (l:List Dt):pq (m+3) l=some (vld l):=by
 rw[pq,vld]
 by_cases h1:1≤l.length
 ·rw[decide_eq_true (show (1:Int)≤((l.length:Nat):Int) by omega),cond_true,decide_eq_true h1,Bool.true_and]
  by_cases h2:l.length≤16
  ·rw[decide_eq_true (show ((l.length:Nat):Int)≤(16:Int) by omega),cond_true,decide_eq_true h2,Bool.true_and]
   obtain⟨r,h3,h4⟩:=atD m (by omega) l (by omega) (m+1) 0 (by omega) (by omega)
   have h3':P8 m (Nat.succ m) l (l.length:Int) 0=some r:=h3
   simp only[aDf,i127,ae8,ae9,UY,afa,afb,h3',Option.bind_some,h4,Bool.not_not,List.drop_zero]
  ·rw[decide_eq_false (show ¬((l.length:Nat):Int)≤(16:Int) by omega),cond_false,decide_eq_false h2,Bool.false_and]
 ·rw[decide_eq_false (show ¬(1:Int)≤((l.length:Nat):Int) by omega),cond_false,decide_eq_false h1,Bool.false_and,Bool.false_and]
theorem alo (m:Nat) (hm:34≤m) (l:List Dt) (hl:l.length<9223372036854775807):∀(M i:Nat),i≤l.length→l.length-i<M→nu m M l (i:Int)=some ((l.drop i).all fun e=>nm e.toStr)
 |0,i,_,h=>by omega
 |M+1,i,hi,h=>by
  obtain⟨m,rfl⟩:∃k,m=k+1:=⟨m-1,by omega⟩
  simp only[nu,dlt]
  by_cases hlt:i<l.length
  ·rw[List.drop_eq_getElem_cons hlt]
   simp only[hlt,decide_true,cond_true,vC,vD,vE,vF,vG,vH,ay hlt,Option.bind_some,aT (show i<9223372036854775807 by omega),Wz m (by omega),alo (m+1) hm l hl M (i+1) (by omega) (by omega),List.all_cons]
   cases nm (l[i]).toStr<;>rfl
  ·have:i=l.length:=by omega
   subst this
   simp[vC,vD,vE,vF,vG,vH]
theorem KC (m:Nat) (hm:40≤m) (l:List Dt):bG (m+1) l=some (vld l):=by
 rw[bG,P7,vld]
 by_cases h1:l.length<1
 ·rw[decide_eq_true (show ((l.length:Nat):Int)<(1:Int) by omega),cond_true,decide_eq_false (show ¬1≤l.length by omega),Bool.false_and,Bool.false_and]
  rfl
 rw[decide_eq_false (show ¬((l.length:Nat):Int)<(1:Int) by omega),cond_false,decide_eq_true (show 1≤l.length by omega),Bool.true_and]
 by_cases h2:16<l.length
 ·rw[decide_eq_true (show (16:Int)<((l.length:Nat):Int) by omega),decide_eq_false (show ¬l.length≤16 by omega),Bool.false_and]
  rfl
 rw[decide_eq_false (show ¬(16:Int)<((l.length:Nat):Int) by omega),decide_eq_true (show l.length≤16 by omega),Bool.true_and]
 have h3:=alo m (by omega) l (by omega) (m+1) 0 (by omega) (by omega)
 have h3':nu m (Nat.succ m) l 0=_:=h3
 simp only[cond_false,vC,vD,vE,vF,vG,vH,h3',List.drop_zero]
end Go.Proofs.YtjnkagkoolbodaaGreatDoor
