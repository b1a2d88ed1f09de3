/- Total preorders by comparing functions, in plain Lean: products, lists, values.
Comparing values:the program's function,in plain Lean (parts numbered as since session 5).
Comparing values:the reference's function (parts numbered as since session 5).
Equal lists of strings,in plain Lean.
Valid paths:the program's test and the reference's. -/
import Derived.Test.YtmecfjhdnbgfeaaGreatDoorAm20
import Derived.Lib.Bytealg
import Derived.Test.YtmecfjhdnbgfeaaGreatDoorSh
import Derived.Test.YtmecfjhdnbgfeaaGreatDoorMA
import Derived.Test.YtmecfjhdnbgfeaaGreatDoorMC
import Derived.Test.YtmecfjhdnbgfeaaGreatDoorFx
set_option linter.unusedVariables false
set_option linter.unusedSimpArgs false
namespace Go.Am
structure TPO {A:Type} (c:A→A→Int):Prop where
 rng:∀a b,c a b= -1∨c a b=0∨c a b=1
 anti:∀a b,c b a= -c a b
 tr:∀a b d,c a b≤0→c b d≤0→c a d≤0
theorem uW {X:Type} {x y:Int} {u v:X} (h:x≠y):(bif x !=y then u else v)=u:=by
 have:(x !=y)=true:=by simpa using h
 rw[this];rfl
theorem zL {X:Type} {x y:Int} {u v:X} (h:x=y):(bif x !=y then u else v)=v:=by subst h;simp
namespace TPO
variable {A B:Type} {c c':A→A→Int}
theorem refl (h:TPO c) (a:A):c a a=0:=by have:=h.anti a a;omega
theorem eql (h:TPO c) {a b d:A} (e:c a b=0):c a d=c b d:=by
 have h1:=h.anti a b
 have h2:=h.anti a d
 have h3:=h.anti b d
 have t1:=h.tr a b d
 have t2:=h.tr b a d
 have t3:=h.tr d a b
 have t4:=h.tr d b a
 have r1:=h.rng a d
 have r2:=h.rng b d
 omega
theorem eqr (h:TPO c) {a b d:A} (e:c b d=0):c a b=c a d:=by
 have h1:=h.anti b a
 have h2:=h.anti d a
 have:=h.eql (d:=a) e
 omega
theorem ltl (h:TPO c) {a b d:A} (h1:c a b<0) (h2:c b d≤0):c a d<0:=by
 have t:=h.tr a b d (by omega) h2
 have r:=h.rng a d
 have e:c a d≠0:=fun e=>by
  have:=h.eql (d:=b) e
  have:=h.anti b d
  omega
 omega
theorem ltr (h:TPO c) {a b d:A} (h1:c a b≤0) (h2:c b d<0):c a d<0:=by
 have t:=h.tr a b d h1 (by omega)
 have r:=h.rng a d
 have e:c a d≠0:=fun e=>by
  have:=h.eqr (a:=b) e
  have:=h.anti a b
  omega
 omega
theorem zero:TPO (fun _ _:A=>0):=⟨fun _ _=> .inr (.inl rfl),fun _ _=>rfl,fun _ _ _ _ _=>Int.le_refl 0⟩
theorem key (h:TPO c) (k:B→A):TPO (fun a b=>c (k a) (k b)):=⟨fun _ _=>h.rng _ _,fun _ _=>h.anti _ _,fun _ _ _=>h.tr _ _ _⟩
theorem lex (h:TPO c) (h':TPO c'):TPO (fun a b=>bif c a b !=0 then c a b else c' a b):=by
 have ev:∀a b,(c a b=0∧(bif c a b !=0 then c a b else c' a b)=c' a b)∨(c a b≠0∧(bif c a b !=0 then c a b else c' a b)=c a b):=fun a b=>by
  by_cases e:c a b=0
  ·exact .inl ⟨e,zL e⟩
  ·exact .inr ⟨e,uW e⟩
 refine⟨fun a b=>?_,fun a b=>?_,fun a b d h1 h2=>?_⟩
 ·rcases ev a b with⟨_,e⟩| ⟨_,e⟩
  ·rw[e];exact h'.rng a b
  ·rw[e];exact h.rng a b
 ·have h1:=h.anti a b
  have h2:=h'.anti a b
  rcases ev a b with⟨e0,e⟩| ⟨e0,e⟩<;>rcases ev b a with⟨f0,f⟩| ⟨f0,f⟩<;>rw[e,f]<;>omega
 ·rcases ev a b with⟨e0,e⟩| ⟨e0,e⟩<;>rcases ev b d with⟨f0,f⟩| ⟨f0,f⟩<;>rw[e] at h1<;>rw[f] at h2
  ·have g:=h.eql (d:=d) e0
   rcases ev a d with⟨g0,g'⟩| ⟨g0,g'⟩
   ·rw[g'];exact h'.tr a b d h1 h2
   ·omega
  ·have g:=h.eql (d:=d) e0
   rcases ev a d with⟨g0,g'⟩| ⟨g0,g'⟩
   ·omega
   ·rw[g'];omega
  ·have g:=h.eqr (a:=a) f0
   rcases ev a d with⟨g0,g'⟩| ⟨g0,g'⟩
   ·omega
   ·rw[g'];omega
  ·have g:=h.ltl (d:=d) (show c a b<0 by omega) h2
   rcases ev a d with⟨g0,g'⟩| ⟨g0,g'⟩
   ·omega
   ·rw[g'];omega
theorem neg (h:TPO c):TPO (fun a b=> -c a b):=⟨fun a b=>by have:=h.rng a b;omega,fun a b=>by have:=h.anti a b;omega,fun a b d h1 h2=>by
 have a1:=h.anti a b
 have a2:=h.anti b d
 have a3:=h.anti a d
 have:=h.tr d b a (by omega) (by omega)
 omega⟩
end TPO
def yC (a b:Int):Int:=bif decide (a<b) then -1 else bif decide (b<a) then 1 else 0
theorem d9 (a b:Int):(a<b∧yC a b= -1)∨(a=b∧yC a b=0)∨(b<a∧yC a b=1):=by
 unfold yC
 by_cases h:a<b
 ·exact .inl ⟨h,by simp[h]⟩
 ·by_cases h2:b<a
  ·exact .inr (.inr ⟨h2,by simp[h,h2]⟩)
  ·exact .inr (.inl ⟨by omega,by simp[h,h2]⟩)
theorem aeG:TPO yC:=⟨fun a b=>by rcases d9 a b with⟨_,h⟩| ⟨_,h⟩| ⟨_,h⟩<;>omega,fun a b=>by
 rcases d9 a b with⟨h1,h⟩| ⟨h1,h⟩| ⟨h1,h⟩<;>rcases d9 b a with⟨g1,g⟩| ⟨g1,g⟩| ⟨g1,g⟩<;>omega,fun a b d h1 h2=>by
 rcases d9 a b with⟨p1,p⟩| ⟨p1,p⟩| ⟨p1,p⟩<;>rcases d9 b d with⟨g1,g⟩| ⟨g1,g⟩| ⟨g1,g⟩<;>rcases d9 a d with⟨q1,q⟩| ⟨q1,q⟩| ⟨q1,q⟩<;>omega⟩
def cmpL {A:Type} (c:A→A→Int):List A→List A→Int
 |a::r,b::s=>bif c a b !=0 then c a b else cmpL c r s
 | [],[]=>0
 | [],_::_=> -1
 |_::_,[]=>1
theorem alB {A:Type} {c:A→A→Int} (h:TPO c):TPO (cmpL c):=by
 have hd:∀(a b:A) (r s:List A),(c a b=0∧cmpL c (a::r) (b::s)=cmpL c r s)∨(c a b≠0∧cmpL c (a::r) (b::s)=c a b):=fun a b r s=>by
  by_cases e:c a b=0
  ·exact .inl ⟨e,zL e⟩
  ·exact .inr ⟨e,uW e⟩
 have hanti:∀a b,cmpL c b a= -cmpL c a b:=by
  intro a
  induction a with
  |nil=>intro b;cases b<;>rfl
  |cons x a ih=>
   intro b
   cases b with
   |nil=>rfl
   |    cons y b=>
        have:=ih b
        have:=h.anti x y
        rcases hd x y a b with⟨e0,e⟩| ⟨e0,e⟩<;>rcases hd y x b a with⟨f0,f⟩| ⟨f0,f⟩<;>rw[e,f]<;>omega
 refine⟨?_,hanti,?_⟩
 ·intro a
  induction a with
  |nil=>intro b;cases b<;>simp[cmpL]
  |cons x a ih=>
   intro b
   cases b with
   |nil=>simp[cmpL]
   |    cons y b=>
        rcases hd x y a b with⟨_,e⟩| ⟨_,e⟩
        ·rw[e];exact ih b
        ·rw[e];exact h.rng x y
 ·intro  a
  induction a with
  |nil=>
   intro b d h1 h2
   cases d with
   |nil=>exact Int.le_refl 0
   |cons z d=>simp[cmpL]
  |cons x a ih=>
   intro b d h1 h2
   cases b with
   |nil=>simp[cmpL] at h1
   |    cons y b=>
        cases d with
        |nil=>simp[cmpL] at h2
        |cons z d=>
         rcases hd x y a b with⟨e0,e⟩| ⟨e0,e⟩<;>rcases hd y z b d with⟨f0,f⟩| ⟨f0,f⟩<;>rw[e] at h1<;>rw[f] at h2
         ·have g:=h.eql (d:=z) e0
          rcases hd x z a d with⟨g0,g'⟩| ⟨g0,g'⟩
          ·rw[g'];exact ih b d h1 h2
          ·omega
         ·have g:=h.eql (d:=z) e0
          rcases hd x z a d with⟨g0,g'⟩| ⟨g0,g'⟩
          ·omega
          ·rw[g'];omega
         ·have g:=h.eqr (a:=x) f0
          rcases hd x z a d with⟨g0,g'⟩| ⟨g0,g'⟩
          ·omega
          ·rw[g'];omega
         ·have g:=h.ltl (d:=z) (show c x y<0 by omega) h2
          rcases hd x z a d with⟨g0,g'⟩| ⟨g0,g'⟩
          ·omega
          ·rw[g'];omega
theorem Dw {A:Type} {c c':A→A→Int}:∀{l r:List A},(∀a∈l,∀b∈r,c a b=c' a b)→cmpL c l r=cmpL c' l r
 | [],[],_=>rfl
 | [],_::_,_=>rfl
 |_::_,[],_=>rfl
 |a::l,b::r,h=>by
  simp only[cmpL,h a (by simp) b (by simp),Dw (l:=l) (r:=r) fun x hx y hy=>h x (by simp[hx]) y (by simp[hy])]
theorem alC {A:Type} (k:A→Int) (f:Int→A→A→Int) (h:∀i,TPO (f i)):TPO (fun a b=>bif k a !=k b then yC (k a) (k b) else f (k a) a b):=by
 have ev:∀a b,(k a=k b∧(bif k a !=k b then yC (k a) (k b) else f (k a) a b)=f (k a) a b)∨(k a≠k b∧(bif k a !=k b then yC (k a) (k b) else f (k a) a b)=yC (k a) (k b)):=fun a b=>by
  by_cases e:k a=k b
  ·exact .inl ⟨e,zL e⟩
  ·exact .inr ⟨e,uW e⟩
 refine⟨fun a b=>?_,fun a b=>?_,fun a b d h1 h2=>?_⟩
 ·rcases ev a b with⟨_,e⟩| ⟨_,e⟩
  ·rw[e];exact(h _).rng a b
  ·rw[e];exact aeG.rng _ _
 ·rcases ev a b with⟨e0,e⟩| ⟨e0,e⟩<;>rcases ev b a with⟨f0,g⟩| ⟨f0,g⟩<;>rw[e,g]
  ·rw[←e0];exact(h _).anti a b
  ·exact absurd e0.symm f0
  ·exact absurd f0.symm e0
  ·exact aeG.anti _ _
 ·rcases ev a b with⟨e0,e⟩| ⟨e0,e⟩<;>rcases ev b d with⟨f0,g⟩| ⟨f0,g⟩<;>rcases ev a d with⟨g0,g'⟩| ⟨g0,g'⟩<;>rw[e] at h1<;>rw[g] at h2<;>rw[g']
  ·rw[←e0] at h2;exact(h _).tr a b d h1 h2
  ·exact absurd (e0.trans f0) g0
  ·exact absurd (e0.symm.trans g0) f0
  ·rw[e0];exact h2
  ·exact absurd (g0.trans f0.symm) e0
  ·rw[←f0];exact h1
  ·have c1:=d9 (k a) (k b)
   have c2:=d9 (k b) (k d)
   omega
  ·exact aeG.tr _ _ _ h1 h2
def Lh (a b:UInt8):Int:=yC (a.toNat:Int) (b.toNat:Int)
theorem R6:∀l r:List UInt8,Lib.compareBytes l r=cmpL Lh l r
 | [],[]=>rfl
 | [],_::_=>rfl
 |_::_,[]=>rfl
 |a::l,b::r=>by
  simp only[Lib.compareBytes,cmpL,R6 l r]
  have hab:a<b↔a.toNat<b.toNat:=UInt8.lt_iff_toNat_lt
  have hba:b<a↔b.toNat<a.toNat:=UInt8.lt_iff_toNat_lt
  rcases d9 (a.toNat:Int) (b.toNat:Int) with⟨h,e⟩| ⟨h,e⟩| ⟨h,e⟩
  ·have h1:a<b:=hab.2 (by omega)
   have e':Lh a b= -1:=e
   simp[h1,e']
  ·have h1:¬a<b:=fun x=>by have:=hab.1 x;omega
   have h2:¬b<a:=fun x=>by have:=hba.1 x;omega
   have e':Lh a b=0:=e
   simp[h1,h2,e']
  ·have h1:¬a<b:=fun x=>by have:=hab.1 x;omega
   have h2:b<a:=hba.2 (by omega)
   have e':Lh a b=1:=e
   simp[h1,h2,e']
def JO (a b:ByteArray):Int:=Lib.compareBytes a.data.toList b.data.toList
theorem aoG:TPO JO:=by
 have h:TPO (fun a b:ByteArray=>cmpL Lh a.data.toList b.data.toList):=(alB (aeG.key fun u:UInt8=>(u.toNat:Int))).key (fun a:ByteArray=>a.data.toList)
 have e:JO=fun a b:ByteArray=>cmpL Lh a.data.toList b.data.toList:=by funext a b;exact R6 _ _
 rw[e];exact h
def Li (c:Dt→Dt→Int) (f g:Dt):Int:=bif JO (Dt.S f 0) (Dt.S g 0) !=0 then JO (Dt.S f 0) (Dt.S g 0) else c (Dt.fld f 1) (Dt.fld g 1)
def acZ (c:Dt→Dt→Int) (k:Int) (a b:Dt):Int:=
 bif (k==3||k==9||k==10) then yC (Dt.I a 1) (Dt.I b 1)
 else bif (k==4||k==7||k==8) then JO (Dt.S a 2) (Dt.S b 2)
 else bif k==6 then cmpL c (Dt.L a 3) (Dt.L b 3)
 else bif k==5 then cmpL (Li c) (Dt.L a 4) (Dt.L b 4) else 0
def vY:Nat→Dt→Dt→Int
 |0,_,_=>0
 |n+1,a,b=>bif (Dt.I a 0 !=Dt.I b 0) then yC (Dt.I a 0) (Dt.I b 0) else acZ (vY n) (Dt.I a 0) a b
theorem aji:∀n,TPO (vY n)
 |0=>TPO.zero
 |n+    1=>by
  have ih:=aji n
  have hF:TPO (Li (vY n)):=(aoG.key fun f=>Dt.S f 0).lex (ih.key fun f=>Dt.fld f 1)
  refine alC (fun a=>Dt.I a 0) (fun k=>acZ (vY n) k) fun k=>?_
  unfold acZ
  cases (k==3||k==9||k==10)
  ·cases (k==4||k==7||k==8)
   ·    cases k==6
        ·cases k==5
         ·exact TPO.zero
         ·exact(alB hF).key fun a=>Dt.L a 4
        ·exact(alB ih).key fun a=>Dt.L a 3
   ·exact aoG.key fun a=>Dt.S a 2
  ·exact aeG.key fun a=>Dt.I a 1
end Go.Am
namespace Go.Am.Srt
variable {A:Type} (lt:A→A→Bool)
structure SWO:Prop where
 irr:∀x,lt x x=false
 tr:∀x y z,lt x y=true→lt y z=true→lt x z=true
 ntr:∀x y z,lt x y=false→lt y z=false→lt x z=false
variable {lt}
end Go.Am.Srt
namespace Go.Proofs.YtmecfjhdnbgfeaaGreatDoor
open Go.Am
theorem Yj {c c':Dt→Dt→Int} {f g:Dt} (h:c (Dt.fld f 1) (Dt.fld g 1)=c' (Dt.fld f 1) (Dt.fld g 1)):Li c f g=Li c' f g:=by unfold Li;rw[h]
theorem Gw:∀(n n':Nat) (a b:Dt),a.bulk≤n→a.bulk≤n'→vY n a b=vY n' a b
 |0,_,a,_,h,_=>by have:=nA a;omega
 |_,0,a,_,_,h=>by have:=nA a;omega
 |n+1,n'+1,a,b,h,h'=>by
  simp only[vY]
  congr 1
  unfold acZ
  rw[Dw (l:=Dt.L a 3) (c:=vY n) (c':=vY n') fun x hx y _=>Gw n n' x y (by have:=nK hx;omega) (by have:=nK hx;omega),
   Dw (l:=Dt.L a 4) (c:=Li (vY n)) (c':=Li (vY n')) fun x hx y _=>Yj (Gw n n' _ _ (by have:=nK hx;have:=mR x 1;omega) (by have:=nK hx;have:=mR x 1;omega))]
def cmpD (a b:Dt):Int:=vY (a.bulk+b.bulk) a b
theorem Yk {n:Nat} {a b:Dt} (h:a.bulk≤n):vY n a b=cmpD a b:=Gw _ _ _ _ h (by omega)
theorem Vm:TPO cmpD:=by
 have e:∀(a b:Dt) (n:Nat),a.bulk≤n→cmpD a b=vY n a b:=fun a b n h=>(Yk h).symm
 refine⟨fun a b=>?_,fun a b=>?_,fun a b d h1 h2=>?_⟩
 ·exact(aji _).rng a b
 ·rw[e a b (a.bulk+b.bulk) (by omega),e b a (a.bulk+b.bulk) (by omega)]
  exact(aji _).anti a b
 ·rw[e a b (a.bulk+b.bulk+d.bulk) (by omega)] at h1
  rw[e b d (a.bulk+b.bulk+d.bulk) (by omega)] at h2
  rw[e a d (a.bulk+b.bulk+d.bulk) (by omega)]
  exact(aji _).tr a b d h1 h2
theorem R7 (m:Nat) (a b:Int):cZ (m+2) a b=some (yC a b):=by
 have e:∀x:Int,(x !=x)=false:=fun x=>by simp
 simp only[cZ,qg,Option.bind_some,e,cond_false,yC]
 cases decide (a<b)<;>cases decide (b<a)<;>rfl
theorem alD {A:Type} {c:A→A→Int}:∀{l r:List A},(l=[]∨r=[])→cmpL c l r=yC (l.length:Int) (r.length:Int)
 | [],[],_=>rfl
 | [],_::r,_=>by
   show (-1:Int)=_
   rcases d9 (([]:List A).length:Int) ((‹A› ::r).length:Int) with⟨_,e⟩| ⟨h,e⟩| ⟨h,e⟩
   ·rw[e]
   ·simp at h;omega
   ·simp at h;omega
 | _::l,[],_=>by
   show (1:Int)=_
   rcases d9 ((‹A› ::l).length:Int) (([]:List A).length:Int) with⟨h,e⟩| ⟨h,e⟩| ⟨_,e⟩
   ·simp at h;omega
   ·simp at h;omega
   ·rw[e]
 |_::_,_::_,h=>by simp at h
theorem Yl (a b k:Int):yC (a+k) (b+k)=yC a b:=by
 rcases d9 a b with⟨h,e⟩| ⟨h,e⟩| ⟨h,e⟩<;>rcases d9 (a+k) (b+k) with⟨g,f⟩| ⟨g,f⟩| ⟨g,f⟩<;>omega
theorem wE {A:Type} {c:A→A→Int} {l r:List A} {i:Nat} (hl:i≤l.length) (hr:i≤r.length) (h:i=l.length∨i=r.length):cmpL c (l.drop i) (r.drop i)=yC (l.length:Int) (r.length:Int):=by
 rw[alD]
 ·rw[List.length_drop,List.length_drop,show ((l.length:Nat):Int)=((l.length-i:Nat):Int)+i by omega,show ((r.length:Nat):Int)=((r.length-i:Nat):Int)+i by omega,Yl]
 ·rcases h with h|h
  ·exact .inl (List.drop_eq_nil_of_le (by omega))
  ·exact .inr (List.drop_eq_nil_of_le (by omega))
theorem aaC (m:Nat) (self:Dt→Dt→Option Int) (c:Dt→Dt→Int) (a b:Dt) (hl:(Dt.L a 3).length<1000000000000) (hs:∀x∈Dt.L a 3,∀y,self x y=some (c x y)):∀(M i:Nat),i≤(Dt.L a 3).length→i≤(Dt.L b 3).length→min (Dt.L a 3).length (Dt.L b 3).length-i<M→
  kD (m+2) self M ((min (Dt.L a 3).length (Dt.L b 3).length:Nat):Int) (i:Int) a b=some (cmpL c ((Dt.L a 3).drop i) ((Dt.L b 3).drop i))
 |0,i,_,_,h=>by omega
 |M+1,i,hi,hi2,h=>by
  simp only[kD,dlt]
  by_cases h1:i<min (Dt.L a 3).length (Dt.L b 3).length
  ·have ha:i<(Dt.L a 3).length:=by omega
   have hb:i<(Dt.L b 3).length:=by omega
   simp only[h1,decide_true,cond_true,aC ha,aC hb,Option.bind_some,hs _ (List.getElem_mem ha),aM (show i<9223372036854775807 by omega)]
   rw[aaC m self c a b hl hs M (i+1) (by omega) (by omega) (by omega),List.drop_eq_getElem_cons ha,List.drop_eq_getElem_cons hb]
   simp only[cmpL]
   cases (c (Dt.L a 3)[i] (Dt.L b 3)[i] !=0)<;>rfl
  ·simp only[h1,decide_false,cond_false,R7,Option.bind_some]
   rw[wE hi hi2 (by omega)]
theorem aaD (m:Nat) (self:Dt→Dt→Option Int) (c:Dt→Dt→Int) (a b:Dt) (hl:(Dt.L a 4).length<1000000000000) (hs:∀x∈Dt.L a 4,∀y,self (Dt.fld x 1) (Dt.fld y 1)=some (c (Dt.fld x 1) (Dt.fld y 1))):∀(M i:Nat),i≤(Dt.L a 4).length→i≤(Dt.L b 4).length→min (Dt.L a 4).length (Dt.L b 4).length-i<M→
  kE (m+2) self M ((min (Dt.L a 4).length (Dt.L b 4).length:Nat):Int) (i:Int) a b=some (cmpL (Li c) ((Dt.L a 4).drop i) ((Dt.L b 4).drop i))
 |0,i,_,_,h=>by omega
 |M+    1,i,hi,hi2,h=>by
  simp only[kE,dlt]
  by_cases h1:i<min (Dt.L a 4).length (Dt.L b 4).length
  ·have ha:i<(Dt.L a 4).length:=by omega
   have hb:i<(Dt.L b 4).length:=by omega
   simp only[h1,decide_true,cond_true,aC ha,aC hb,Option.bind_some,strings_Compare,hs _ (List.getElem_mem ha),aM (show i<9223372036854775807 by omega)]
   rw[aaD m self c a b hl hs M (i+1) (by omega) (by omega) (by omega),List.drop_eq_getElem_cons ha,List.drop_eq_getElem_cons hb]
   simp only[cmpL,Li,JO]
   by_cases e1:Lib.compareBytes (Dt.S (Dt.L a 4)[i] 0).data.toList (Dt.S (Dt.L b 4)[i] 0).data.toList=0
   ·    rw[zL e1,zL e1]
        by_cases e2:c (Dt.fld (Dt.L a 4)[i] 1) (Dt.fld (Dt.L b 4)[i] 1)=0
        ·rw[zL e2,zL e2]
        ·rw[uW e2,uW e2]
   ·rw[uW e1,uW e1,uW e1]
  ·simp only[h1,decide_false,cond_false,R7,Option.bind_some]
   rw[wE hi hi2 (by omega)]
theorem ajj (x y:Nat):(bif decide ((y:Int)<(x:Int)) then(y:Int) else(x:Int))=((min x y:Nat):Int):=by
 rw[dlt]
 by_cases h:y<x
 ·simp only[h,decide_true,cond_true];omega
 ·simp only[h,decide_false,cond_false];omega
theorem ajk (m:Nat) (self:Dt→Dt→Option Int) (a b:Dt):oz m self a b=
  bif (Dt.I a 0==3||Dt.I a 0==9||Dt.I a 0==10) then cZ m (Dt.I a 1) (Dt.I b 1)
  else bif (Dt.I a 0==4||Dt.I a 0==7||Dt.I a 0==8) then strings_Compare (Dt.S a 2) (Dt.S b 2)
  else bif Dt.I a 0==6 then rG m self ((min (Dt.L a 3).length (Dt.L b 3).length:Nat):Int) 0 a b
  else bif Dt.I a 0==5 then rH m self ((min (Dt.L a 4).length (Dt.L b 4).length:Nat):Int) 0 a b else wu m self:=by
 have hb:∀x:Option Int,(x.bind fun r=>some r)=x:=fun x=>by cases x<;>rfl
 simp only[oz,kG,kF,ajj,hb]
 cases (Dt.I a 0==3)<;>cases (Dt.I a 0==9)<;>cases (Dt.I a 0==10)<;>cases (Dt.I a 0==4)<;>cases (Dt.I a 0==7)<;>cases (Dt.I a 0==8)<;>rfl
theorem R8:∀(n:Nat) (a b:Dt),a.bulk≤n→n<1000000000000→∀m,n≤m→ay (m+3) a b=some (vY n a b)
 |0,a,_,h,_,_,_=>by have:=nA a;omega
 |n+    1,a,b,h,hn,m,hm=>by
  obtain⟨m,rfl⟩:∃k,m=k+1:=⟨m-1,by omega⟩
  have h3:=fI a 3
  have h4:=fI a 4
  have e3:=aaC (m+1) (ay (m+3)) (vY n) a b (by omega) (fun x hx y=>R8 n x y (by have:=nK hx;omega) (by omega) m (by omega)) (m+4) 0 (Nat.zero_le _) (Nat.zero_le _) (by omega)
  have e4:=aaD (m+1) (ay (m+3)) (vY n) a b (by omega) (fun x hx y=>R8 n _ _ (by have:=nK hx;have:=mR x 1;omega) (by omega) m (by omega)) (m+4) 0 (Nat.zero_le _) (Nat.zero_le _) (by omega)
  rw[List.drop_zero,List.drop_zero] at e3 e4
  have e3':rG (m+3) (ay (m+3)) ((min (Dt.L a 3).length (Dt.L b 3).length:Nat):Int) 0 a b=_:=e3
  have e4':rH (m+3) (ay (m+3)) ((min (Dt.L a 4).length (Dt.L b 4).length:Nat):Int) 0 a b=_:=e4
  show (bif (Dt.I a 0 !=Dt.I b 0) then(cZ (m+3) (Dt.I a 0) (Dt.I b 0)).bind (fun r=>some r) else oz (m+3) (ay (m+3)) a b)=_
  simp only[ajk,show m+3=(m+1)+2 from rfl,R7,vY,Option.bind_some]
  cases (Dt.I a 0 !=Dt.I b 0)
  ·simp only[cond_false,acZ]
   cases (Dt.I a 0==3||Dt.I a 0==9||Dt.I a 0==10)
   ·    cases (Dt.I a 0==4||Dt.I a 0==7||Dt.I a 0==8)
        ·cases (Dt.I a 0==6)
         ·cases (Dt.I a 0==5)
          ·rfl
          ·exact e4'
         ·exact e3'
        ·rfl
   ·rfl
  ·rfl
theorem uX (a b:Dt) (m:Nat) (hm:a.bulk≤m) (hm2:a.bulk<1000000000000):ay (m+3) a b=some (cmpD a b):=by
 rw[R8 a.bulk a b (Nat.le_refl _) hm2 m hm,Yk (Nat.le_refl _)]
end Go.Proofs.YtmecfjhdnbgfeaaGreatDoor
namespace Go.Proofs.YtmecfjhdnbgfeaaGreatDoor
open Go.Am
theorem wF (m:Nat) (a b:Int):bI (m+1) a b=some (yC a b):=by
 simp only[bI,yC]
 cases decide (a<b)<;>cases decide (b<a)<;>rfl
theorem Lj (m:Nat) (a b:ByteArray) (ha:a.size<1000000000000):∀(M i:Nat),i≤a.size→i≤b.size→a.size-i<M→nM (m+1) M a b (i:Int)=some (cmpL Lh (a.data.toList.drop i) (b.data.toList.drop i))
 |0,i,_,_,h=>by omega
 |M+    1,i,hi,hi2,h=>by
  have la:a.data.toList.length=a.size:=by rw[Array.length_toList];rfl
  have lb:b.data.toList.length=b.size:=by rw[Array.length_toList];rfl
  simp only[nM,dlt]
  by_cases h1:i<a.size
  ·by_cases h2:i<b.size
   ·    have e1:a.data.toList.drop i=a[i]::a.data.toList.drop (i+1):=by rw[List.drop_eq_getElem_cons (by omega)];rfl
        have e2:b.data.toList.drop i=b[i]::b.data.toList.drop (i+1):=by rw[List.drop_eq_getElem_cons (by omega)];rfl
        have hwr:∀u:UInt8,IntKind.wrap IntKind.i64 (u.toNat:Int)=(u.toNat:Int):=fun u=>wrap64 (by omega) (by have:=u.toNat_lt;omega)
        simp only[h1,h2,decide_true,cond_true,oK h1,oK h2,Option.bind_some,hwr,wF,aM (show i<9223372036854775807 by omega)]
        rw[Lj m a b ha M (i+1) (by omega) (by omega) (by omega),e1,e2]
        simp only[cmpL]
        by_cases e:((a[i].toNat:Int))=(b[i].toNat:Int)
        ·have e3:Lh a[i] b[i]=0:=by
          rcases d9 (a[i].toNat:Int) (b[i].toNat:Int) with⟨g,f⟩| ⟨g,f⟩| ⟨g,f⟩
          ·omega
          ·exact f
          ·omega
         rw[zL e,zL e3]
        ·have e3:Lh a[i] b[i]≠0:=by
          rcases d9 (a[i].toNat:Int) (b[i].toNat:Int) with⟨g,f⟩| ⟨g,f⟩| ⟨g,f⟩
          ·intro x;rw[show Lh a[i] b[i]= -1 from f] at x;omega
          ·omega
          ·intro x;rw[show Lh a[i] b[i]=1 from f] at x;omega
         rw[uW e,uW e3]
         rfl
   ·    have:i=b.size:=by omega
        simp only[h1,h2,decide_true,decide_false,cond_true,cond_false,wF,Option.bind_some]
        rw[wE (by omega) (by omega) (.inr (by omega)),la,lb]
  ·simp only[h1,decide_false,cond_false,wF,Option.bind_some]
   rw[wE (by omega) (by omega) (.inl (by omega)),la,lb]
theorem Vn (m:Nat) (a b:ByteArray) (hm:a.size≤m) (hm2:m<1000000000000):iq (m+2) a b=some (JO a b):=by
 have:=Lj m a b (by omega) (m+2) 0 (by omega) (by omega) (by omega)
 rw[JO,R6]
 exact this
theorem aaE (m:Nat) (self:Dt→Dt→Option Int) (c:Dt→Dt→Int) (a b:Dt) (hl:(Dt.L a 3).length<1000000000000) (hs:∀x∈Dt.L a 3,∀y,self x y=some (c x y)):∀(M i:Nat),i≤(Dt.L a 3).length→i≤(Dt.L b 3).length→(Dt.L a 3).length-i<M→
  kr (m+1) self M (i:Int) a b=some (cmpL c ((Dt.L a 3).drop i) ((Dt.L b 3).drop i))
 |0,i,_,_,h=>by omega
 |M+    1,i,hi,hi2,h=>by
  simp only[kr,dlt]
  by_cases ha:i<(Dt.L a 3).length
  ·by_cases hb:i<(Dt.L b 3).length
   ·    simp only[ha,hb,decide_true,cond_true,aC ha,aC hb,Option.bind_some,hs _ (List.getElem_mem ha),aM (show i<9223372036854775807 by omega)]
        rw[aaE m self c a b hl hs M (i+1) (by omega) (by omega) (by omega),List.drop_eq_getElem_cons ha,List.drop_eq_getElem_cons hb]
        simp only[cmpL]
        cases (c (Dt.L a 3)[i] (Dt.L b 3)[i] !=0)<;>rfl
   ·    simp only[ha,hb,decide_true,decide_false,cond_true,cond_false,ko,wF,Option.bind_some]
        rw[wE hi hi2 (by omega)]
  ·simp only[ha,decide_false,cond_false,ko,wF,Option.bind_some]
   rw[wE hi hi2 (by omega)]
theorem aaF (m:Nat) (hm:1≤m) (self:Dt→Dt→Option Int) (c:Dt→Dt→Int) (a b:Dt) (hl:(Dt.L a 4).length<1000000000000) (ht:∀x∈Dt.L a 4,∀y,iq (m+1) (Dt.S x 0) (Dt.S y 0)=some (JO (Dt.S x 0) (Dt.S y 0))) (hs:∀x∈Dt.L a 4,∀y,self (Dt.fld x 1) (Dt.fld y 1)=some (c (Dt.fld x 1) (Dt.fld y 1))):∀(M i:Nat),i≤(Dt.L a 4).length→i≤(Dt.L b 4).length→(Dt.L a 4).length-i<M→
  fJ (m+1) self M (i:Int) a b=some (cmpL (Li c) ((Dt.L a 4).drop i) ((Dt.L b 4).drop i))
 |0,i,_,_,h=>by omega
 |M+    1,i,hi,hi2,h=>by
  simp only[fJ,dlt]
  by_cases ha:i<(Dt.L a 4).length
  ·by_cases hb:i<(Dt.L b 4).length
   ·    simp only[ha,hb,decide_true,cond_true,nD,aC ha,aC hb,Option.bind_some,ht _ (List.getElem_mem ha),hs _ (List.getElem_mem ha),aM (show i<9223372036854775807 by omega)]
        rw[aaF m hm self c a b hl ht hs M (i+1) (by omega) (by omega) (by omega),List.drop_eq_getElem_cons ha,List.drop_eq_getElem_cons hb]
        simp only[cmpL,Li]
        by_cases e:JO (Dt.S (Dt.L a 4)[i] 0) (Dt.S (Dt.L b 4)[i] 0)=0
        ·have e1:(JO (Dt.S (Dt.L a 4)[i] 0) (Dt.S (Dt.L b 4)[i] 0)==0)=true:=by simpa using e
         rw[e1]
         simp only[cond_true]
         rw[zL e]
         by_cases e2:c (Dt.fld (Dt.L a 4)[i] 1) (Dt.fld (Dt.L b 4)[i] 1)=0
         ·rw[zL e2,zL e2]
         ·rw[uW e2,uW e2]
        ·have e1:(JO (Dt.S (Dt.L a 4)[i] 0) (Dt.S (Dt.L b 4)[i] 0)==0)=false:=by simpa using e
         rw[e1]
         simp only[cond_false]
         rw[uW e,uW e,uW e]
   ·    simp only[ha,hb,decide_true,decide_false,cond_true,cond_false,jC,wF,Option.bind_some]
        rw[wE hi hi2 (by omega)]
  ·simp only[ha,decide_false,cond_false,jC,wF,Option.bind_some]
   rw[wE hi hi2 (by omega)]
theorem ajl (m:Nat) (self:Dt→Dt→Option Int) (a b:Dt):ow m self a b=
  bif (Dt.I a 0==3||Dt.I a 0==9||Dt.I a 0==10) then bI m (Dt.I a 1) (Dt.I b 1)
  else bif (Dt.I a 0==4||Dt.I a 0==7||Dt.I a 0==8) then iq m (Dt.S a 2) (Dt.S b 2)
  else bif Dt.I a 0==6 then rA m self 0 a b
  else bif Dt.I a 0==5 then rF m self 0 a b else wo m self:=by
 have hb:∀x:Option Int,(x.bind fun r=>some r)=x:=fun x=>by cases x<;>rfl
 simp only[ow,kC,ku,hb]
 cases (Dt.I a 0==3)<;>cases (Dt.I a 0==9)<;>cases (Dt.I a 0==10)<;>cases (Dt.I a 0==4)<;>cases (Dt.I a 0==7)<;>cases (Dt.I a 0==8)<;>rfl
theorem R9:∀(n:Nat) (a b:Dt),a.bulk≤n→n<900000000000→∀m,n≤m→m<900000000000→aA (m+3) a b=some (vY n a b)
 |0,a,_,h,_,_,_,_=>by have:=nA a;omega
 |n+    1,a,b,h,hn,m,hm,hm2=>by
  obtain⟨m,rfl⟩:∃k,m=k+1:=⟨m-1,by omega⟩
  have h3:=fI a 3
  have h4:=fI a 4
  have e3:=aaE (m+2) (aA (m+3)) (vY n) a b (by omega) (fun x hx y=>R9 n x y (by have:=nK hx;omega) (by omega) m (by omega) (by omega)) (m+4) 0 (Nat.zero_le _) (Nat.zero_le _) (by omega)
  have e4:=aaF (m+2) (by omega) (aA (m+3)) (vY n) a b (by omega) (fun x hx y=>Vn (m+1) _ _ (by have:=nK hx;have:=tZ x 0;omega) (by omega)) (fun x hx y=>R9 n _ _ (by have:=nK hx;have:=mR x 1;omega) (by omega) m (by omega) (by omega)) (m+4) 0 (Nat.zero_le _) (Nat.zero_le _) (by omega)
  rw[List.drop_zero,List.drop_zero] at e3 e4
  have e3':rA (m+3) (aA (m+3)) 0 a b=_:=e3
  have e4':rF (m+3) (aA (m+3)) 0 a b=_:=e4
  show (bif (Dt.I a 0 !=Dt.I b 0) then(bI (m+3) (Dt.I a 0) (Dt.I b 0)).bind (fun r=>some r) else ow (m+3) (aA (m+3)) a b)=_
  simp only[ajl,show m+3=(m+2)+1 from rfl,wF,vY,Option.bind_some]
  cases (Dt.I a 0 !=Dt.I b 0)
  ·simp only[cond_false,acZ]
   cases (Dt.I a 0==3||Dt.I a 0==9||Dt.I a 0==10)
   ·    cases (Dt.I a 0==4||Dt.I a 0==7||Dt.I a 0==8)
        ·cases (Dt.I a 0==6)
         ·cases (Dt.I a 0==5)
          ·rfl
          ·exact e4'
         ·exact e3'
        ·exact Vn (m+1) _ _ (by have:=tZ a 2;omega) (by omega)
   ·rfl
  ·rfl
theorem xY (a b:Dt) (m:Nat) (hm:a.bulk≤m) (hm2:m<900000000000):aA (m+3) a b=some (cmpD a b):=by
 rw[R9 a.bulk a b (Nat.le_refl _) (by omega) m hm hm2,Yk (Nat.le_refl _)]
end Go.Proofs.YtmecfjhdnbgfeaaGreatDoor
namespace Go.Proofs.YtmecfjhdnbgfeaaGreatDoor
open Go.Am
end Go.Proofs.YtmecfjhdnbgfeaaGreatDoor
namespace Go.Proofs.YtmecfjhdnbgfeaaGreatDoor
open Go.Am
def vld (l:List Dt):Bool:=decide (1≤l.length)&&decide (l.length≤16)&&l.all fun e=>nm e.toStr
theorem Ql (m:Nat) (s:ByteArray) (hs:s.size<9223372036854775807):∀(M i:Nat),i≤s.size→s.size-i<M→dQ m M s (s.size:Int) (i:Int)=some (!((s.data.toList.drop i).all okB))
 |0,i,_,h=>by omega
 |M+1,i,hi,h=>by
  simp only[dQ,dlt]
  by_cases hlt:i<s.size
  ·rw[S9 s i hlt]
   simp only[hlt,decide_true,cond_true,mD,oK hlt,Option.bind_some,aM (show i<9223372036854775807 by omega),Ql m s hs M (i+1) (by omega) (by omega),List.all_cons,okB]
   cases decide (((s[i]).toNat:Int)<33)<;>cases decide ((126:Int)<((s[i]).toNat:Int))<;>cases (((s[i]).toNat:Int)==46)<;>rfl
  ·have:i=s.size:=by omega
   subst this
   rw[List.drop_eq_nil_of_le (by rw[GR];omega)]
   simp[]
theorem Ym (m:Nat) (hm:33≤m) (s:ByteArray):lW (m+1) s=some (!nm s):=by
 rw[lW]
 by_cases h1:s.size<1
 ·rw[decide_eq_true (show ((s.size:Nat):Int)<1 by omega),cond_true,LK s h1]
  rfl
 rw[decide_eq_false (show ¬((s.size:Nat):Int)<1 by omega),cond_false]
 by_cases h2:32<s.size
 ·rw[decide_eq_true (show (32:Int)<((s.size:Nat):Int) by omega),cond_true,KD s h2]
  rfl
 rw[decide_eq_false (show ¬(32:Int)<((s.size:Nat):Int) by omega),cond_false]
 have hx:idxS s 0=some (s[0].toNat:Int):=oK (s:=s) (i:=0) (by omega)
 have hl:=Ql m s (by omega) (m+1) 0 (by omega) (by omega)
 rw[List.drop_zero] at hl
 have hl':dQ m (Nat.succ m) s (s.size:Int) 0=some (!s.data.toList.all okB):=hl
 simp only[hx,Option.bind_some,mE,hl',LJ s (by omega) (by omega)]
 cases (((s[0]).toNat:Int)==36)<;>rfl
theorem Vo (m:Nat) (hm:34≤m) (l:List Dt) (hl:l.length<9223372036854775807):∀(M i:Nat),i≤l.length→l.length-i<M→∃r,Gr m M l (l.length:Int) (i:Int)=some r∧decide ((0:Int)≤r)=!((l.drop i).all fun e=>nm e.toStr)
 |0,i,_,h=>by omega
 |M+1,i,hi,h=>by
  obtain⟨m,rfl⟩:∃k,m=k+1:=⟨m-1,by omega⟩
  simp only[Gr,dlt]
  by_cases hlt:i<l.length
  ·rw[List.drop_eq_getElem_cons hlt]
   obtain⟨r,h1,h2⟩:=Vo (m+1) hm l hl M (i+1) (by omega) (by omega)
   simp only[hlt,decide_true,cond_true,aC hlt,Option.bind_some,aM (show i<9223372036854775807 by omega),Ym m (by omega),h1,List.all_cons]
   cases hn:nm (l[i]).toStr
   ·exact⟨(i:Int),by simp,by simp⟩
   ·exact⟨r,by simp,by simpa using h2⟩
  ·have:i=l.length:=by omega
   subst this
   exact⟨-1,by simp[],by simp⟩
theorem valid_eq (m:Nat) (hm:40≤m) (l:List Dt):lX (m+3) l=some (vld l):=by
 rw[lX,vld]
 by_cases h1:1≤l.length
 ·rw[decide_eq_true (show (1:Int)≤((l.length:Nat):Int) by omega),cond_true,decide_eq_true h1,Bool.true_and]
  by_cases h2:l.length≤16
  ·rw[decide_eq_true (show ((l.length:Nat):Int)≤(16:Int) by omega),cond_true,decide_eq_true h2,Bool.true_and]
   obtain⟨r,h3,h4⟩:=Vo m (by omega) l (by omega) (m+1) 0 (by omega) (by omega)
   have h3':Gr m (Nat.succ m) l (l.length:Int) 0=some r:=h3
   simp only[i97,i98,h3',Option.bind_some,h4,Bool.not_not,List.drop_zero]
  ·rw[decide_eq_false (show ¬((l.length:Nat):Int)≤(16:Int) by omega),cond_false,decide_eq_false h2,Bool.false_and]
 ·rw[decide_eq_false (show ¬(1:Int)≤((l.length:Nat):Int) by omega),cond_false,decide_eq_false h1,Bool.false_and,Bool.false_and]
theorem Ll (m:Nat) (hm:34≤m) (l:List Dt) (hl:l.length<9223372036854775807):∀(M i:Nat),i≤l.length→l.length-i<M→kH m M l (i:Int)=some ((l.drop i).all fun e=>nm e.toStr)
 |0,i,_,h=>by omega
 |M+1,i,hi,h=>by
  obtain⟨m,rfl⟩:∃k,m=k+1:=⟨m-1,by omega⟩
  simp only[kH,dlt]
  by_cases hlt:i<l.length
  ·rw[List.drop_eq_getElem_cons hlt]
   simp only[hlt,decide_true,cond_true,kI,aC hlt,Option.bind_some,aM (show i<9223372036854775807 by omega),KE m (by omega),Ll (m+1) hm l hl M (i+1) (by omega) (by omega),List.all_cons]
   cases nm (l[i]).toStr<;>rfl
  ·have:i=l.length:=by omega
   subst this
   simp[kI]
theorem Vp (m:Nat) (hm:40≤m) (l:List Dt):gF (m+1) l=some (vld l):=by
 rw[gF,vld]
 by_cases h1:l.length<1
 ·rw[decide_eq_true (show ((l.length:Nat):Int)<(1:Int) by omega),cond_true,decide_eq_false (show ¬1≤l.length by omega),Bool.false_and,Bool.false_and]
  rfl
 rw[decide_eq_false (show ¬((l.length:Nat):Int)<(1:Int) by omega),cond_false,decide_eq_true (show 1≤l.length by omega),Bool.true_and]
 by_cases h2:16<l.length
 ·rw[decide_eq_true (show (16:Int)<((l.length:Nat):Int) by omega),decide_eq_false (show ¬l.length≤16 by omega),Bool.false_and]
  rfl
 rw[decide_eq_false (show ¬(16:Int)<((l.length:Nat):Int) by omega),decide_eq_true (show l.length≤16 by omega),Bool.true_and]
 have h3:=Ll m (by omega) l (by omega) (m+1) 0 (by omega) (by omega)
 have h3':kH m (Nat.succ m) l 0=_:=h3
 simp only[cond_false,kI,h3',List.drop_zero]
end Go.Proofs.YtmecfjhdnbgfeaaGreatDoor
