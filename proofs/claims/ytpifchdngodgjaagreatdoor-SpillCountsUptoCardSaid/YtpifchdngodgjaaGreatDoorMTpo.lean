/- Total preorders by comparing functions, in plain Lean: products, lists, values. -/
import Derived.Test.YtpifchdngodgjaaGreatDoorAm20
import Derived.Lib.Bytealg
set_option linter.unusedVariables false
set_option linter.unusedSimpArgs false
namespace Go.Am
structure TPO {A:Type} (c:A→A→Int):Prop where
 rng:∀a b,c a b= -1∨c a b=0∨c a b=1
 anti:∀a b,c b a= -c a b
 tr:∀a b d,c a b≤0→c b d≤0→c a d≤0
theorem bne_t {X:Type} {x y:Int} {u v:X} (h:x≠y):(bif x !=y then u else v)=u:=by
 have:(x !=y)=true:=by simpa using h
 rw[this];rfl
theorem bne_f {X:Type} {x y:Int} {u v:X} (h:x=y):(bif x !=y then u else v)=v:=by subst h;simp
namespace TPO
variable {A B:Type} {c c':A→A→Int}
theorem refl (h:TPO c) (a:A):c a a=0:=by have:=h.anti a a;omega
theorem eql (h:TPO c) {a b d:A} (e:c a b=0):c a d=c b d:=by
 have h1:=h.anti a b
 have h2:=h.anti a d
 have h3:=h.anti b d
 have t1:=h.tr a b d
 have t2:=h.tr b a d
 have t3:=h.tr d a b
 have t4:=h.tr d b a
 have r1:=h.rng a d
 have r2:=h.rng b d
 omega
theorem eqr (h:TPO c) {a b d:A} (e:c b d=0):c a b=c a d:=by
 have h1:=h.anti b a
 have h2:=h.anti d a
 have:=h.eql (d:=a) e
 omega
theorem ltl (h:TPO c) {a b d:A} (h1:c a b<0) (h2:c b d≤0):c a d<0:=by
 have t:=h.tr a b d (by omega) h2
 have r:=h.rng a d
 have e:c a d≠0:=fun e=>by
  have:=h.eql (d:=b) e
  have:=h.anti b d
  omega
 omega
theorem zero:TPO (fun _ _:A=>0):=⟨fun _ _=> .inr (.inl rfl),fun _ _=>rfl,fun _ _ _ _ _=>Int.le_refl 0⟩
theorem key (h:TPO c) (k:B→A):TPO (fun a b=>c (k a) (k b)):=⟨fun _ _=>h.rng _ _,fun _ _=>h.anti _ _,fun _ _ _=>h.tr _ _ _⟩
theorem lex (h:TPO c) (h':TPO c'):TPO (fun a b=>bif c a b !=0 then c a b else c' a b):=by
 have ev:∀a b,(c a b=0∧(bif c a b !=0 then c a b else c' a b)=c' a b)∨(c a b≠0∧(bif c a b !=0 then c a b else c' a b)=c a b):=fun a b=>by
  by_cases e:c a b=0
  ·exact .inl ⟨e,bne_f e⟩
  ·exact .inr ⟨e,bne_t e⟩
 refine⟨fun a b=>?_,fun a b=>?_,fun a b d h1 h2=>?_⟩
 ·rcases ev a b with⟨_,e⟩| ⟨_,e⟩
  ·rw[e];exact h'.rng a b
  ·rw[e];exact h.rng a b
 ·have h1:=h.anti a b
  have h2:=h'.anti a b
  rcases ev a b with⟨e0,e⟩| ⟨e0,e⟩<;>rcases ev b a with⟨f0,f⟩| ⟨f0,f⟩<;>rw[e,f]<;>omega
 ·rcases ev a b with⟨e0,e⟩| ⟨e0,e⟩<;>rcases ev b d with⟨f0,f⟩| ⟨f0,f⟩<;>rw[e] at h1<;>rw[f] at h2
  ·have g:=h.eql (d:=d) e0
   rcases ev a d with⟨g0,g'⟩| ⟨g0,g'⟩
   ·rw[g'];exact h'.tr a b d h1 h2
   ·omega
  ·have g:=h.eql (d:=d) e0
   rcases ev a d with⟨g0,g'⟩| ⟨g0,g'⟩
   ·omega
   ·rw[g'];omega
  ·have g:=h.eqr (a:=a) f0
   rcases ev a d with⟨g0,g'⟩| ⟨g0,g'⟩
   ·omega
   ·rw[g'];omega
  ·have g:=h.ltl (d:=d) (show c a b<0 by omega) h2
   rcases ev a d with⟨g0,g'⟩| ⟨g0,g'⟩
   ·omega
   ·rw[g'];omega
theorem neg (h:TPO c):TPO (fun a b=> -c a b):=⟨fun a b=>by have:=h.rng a b;omega,fun a b=>by have:=h.anti a b;omega,fun a b d h1 h2=>by
 have a1:=h.anti a b
 have a2:=h.anti b d
 have a3:=h.anti a d
 have:=h.tr d b a (by omega) (by omega)
 omega⟩
end TPO
def cmpI (a b:Int):Int:=bif decide (a<b) then -1 else bif decide (b<a) then 1 else 0
theorem cmpI_cases (a b:Int):(a<b∧cmpI a b= -1)∨(a=b∧cmpI a b=0)∨(b<a∧cmpI a b=1):=by
 unfold cmpI
 by_cases h:a<b
 ·exact .inl ⟨h,by simp[h]⟩
 ·by_cases h2:b<a
  ·exact .inr (.inr ⟨h2,by simp[h,h2]⟩)
  ·exact .inr (.inl ⟨by omega,by simp[h,h2]⟩)
theorem tpoI:TPO cmpI:=⟨fun a b=>by rcases cmpI_cases a b with⟨_,h⟩| ⟨_,h⟩| ⟨_,h⟩<;>omega,fun a b=>by
 rcases cmpI_cases a b with⟨h1,h⟩| ⟨h1,h⟩| ⟨h1,h⟩<;>rcases cmpI_cases b a with⟨g1,g⟩| ⟨g1,g⟩| ⟨g1,g⟩<;>omega,fun a b d h1 h2=>by
 rcases cmpI_cases a b with⟨p1,p⟩| ⟨p1,p⟩| ⟨p1,p⟩<;>rcases cmpI_cases b d with⟨g1,g⟩| ⟨g1,g⟩| ⟨g1,g⟩<;>rcases cmpI_cases a d with⟨q1,q⟩| ⟨q1,q⟩| ⟨q1,q⟩<;>omega⟩
def cmpL {A:Type} (c:A→A→Int):List A→List A→Int
 |a::r,b::s=>bif c a b !=0 then c a b else cmpL c r s
 | [],[]=>0
 | [],_::_=> -1
 |_::_,[]=>1
theorem tpoL {A:Type} {c:A→A→Int} (h:TPO c):TPO (cmpL c):=by
 have hd:∀(a b:A) (r s:List A),(c a b=0∧cmpL c (a::r) (b::s)=cmpL c r s)∨(c a b≠0∧cmpL c (a::r) (b::s)=c a b):=fun a b r s=>by
  by_cases e:c a b=0
  ·exact .inl ⟨e,bne_f e⟩
  ·exact .inr ⟨e,bne_t e⟩
 have hanti:∀a b,cmpL c b a= -cmpL c a b:=by
  intro a
  induction a with
  |nil=>intro b;cases b<;>rfl
  |cons x a ih=>
   intro b
   cases b with
   |nil=>rfl
   |    cons y b=>
        have:=ih b
        have:=h.anti x y
        rcases hd x y a b with⟨e0,e⟩| ⟨e0,e⟩<;>rcases hd y x b a with⟨f0,f⟩| ⟨f0,f⟩<;>rw[e,f]<;>omega
 refine⟨?_,hanti,?_⟩
 ·intro a
  induction a with
  |nil=>intro b;cases b<;>simp[cmpL]
  |cons x a ih=>
   intro b
   cases b with
   |nil=>simp[cmpL]
   |    cons y b=>
        rcases hd x y a b with⟨_,e⟩| ⟨_,e⟩
        ·rw[e];exact ih b
        ·rw[e];exact h.rng x y
 ·intro  a
  induction a with
  |nil=>
   intro b d h1 h2
   cases d with
   |nil=>exact Int.le_refl 0
   |cons z d=>simp[cmpL]
  |cons x a ih=>
   intro b d h1 h2
   cases b with
   |nil=>simp[cmpL] at h1
   |    cons y b=>
        cases d with
        |nil=>simp[cmpL] at h2
        |cons z d=>
         rcases hd x y a b with⟨e0,e⟩| ⟨e0,e⟩<;>rcases hd y z b d with⟨f0,f⟩| ⟨f0,f⟩<;>rw[e] at h1<;>rw[f] at h2
         ·have g:=h.eql (d:=z) e0
          rcases hd x z a d with⟨g0,g'⟩| ⟨g0,g'⟩
          ·rw[g'];exact ih b d h1 h2
          ·omega
         ·have g:=h.eql (d:=z) e0
          rcases hd x z a d with⟨g0,g'⟩| ⟨g0,g'⟩
          ·omega
          ·rw[g'];omega
         ·have g:=h.eqr (a:=x) f0
          rcases hd x z a d with⟨g0,g'⟩| ⟨g0,g'⟩
          ·omega
          ·rw[g'];omega
         ·have g:=h.ltl (d:=z) (show c x y<0 by omega) h2
          rcases hd x z a d with⟨g0,g'⟩| ⟨g0,g'⟩
          ·omega
          ·rw[g'];omega
theorem cmpL_congr {A:Type} {c c':A→A→Int}:∀{l r:List A},(∀a∈l,∀b∈r,c a b=c' a b)→cmpL c l r=cmpL c' l r
 | [],[],_=>rfl
 | [],_::_,_=>rfl
 |_::_,[],_=>rfl
 |a::l,b::r,h=>by
  simp only[cmpL,h a (by simp) b (by simp),cmpL_congr (l:=l) (r:=r) fun x hx y hy=>h x (by simp[hx]) y (by simp[hy])]
theorem tpoDep {A:Type} (k:A→Int) (f:Int→A→A→Int) (h:∀i,TPO (f i)):TPO (fun a b=>bif k a !=k b then cmpI (k a) (k b) else f (k a) a b):=by
 have ev:∀a b,(k a=k b∧(bif k a !=k b then cmpI (k a) (k b) else f (k a) a b)=f (k a) a b)∨(k a≠k b∧(bif k a !=k b then cmpI (k a) (k b) else f (k a) a b)=cmpI (k a) (k b)):=fun a b=>by
  by_cases e:k a=k b
  ·exact .inl ⟨e,bne_f e⟩
  ·exact .inr ⟨e,bne_t e⟩
 refine⟨fun a b=>?_,fun a b=>?_,fun a b d h1 h2=>?_⟩
 ·rcases ev a b with⟨_,e⟩| ⟨_,e⟩
  ·rw[e];exact(h _).rng a b
  ·rw[e];exact tpoI.rng _ _
 ·rcases ev a b with⟨e0,e⟩| ⟨e0,e⟩<;>rcases ev b a with⟨f0,g⟩| ⟨f0,g⟩<;>rw[e,g]
  ·rw[←e0];exact(h _).anti a b
  ·exact absurd e0.symm f0
  ·exact absurd f0.symm e0
  ·exact tpoI.anti _ _
 ·rcases ev a b with⟨e0,e⟩| ⟨e0,e⟩<;>rcases ev b d with⟨f0,g⟩| ⟨f0,g⟩<;>rcases ev a d with⟨g0,g'⟩| ⟨g0,g'⟩<;>rw[e] at h1<;>rw[g] at h2<;>rw[g']
  ·rw[←e0] at h2;exact(h _).tr a b d h1 h2
  ·exact absurd (e0.trans f0) g0
  ·exact absurd (e0.symm.trans g0) f0
  ·rw[e0];exact h2
  ·exact absurd (g0.trans f0.symm) e0
  ·rw[←f0];exact h1
  ·have c1:=cmpI_cases (k a) (k b)
   have c2:=cmpI_cases (k b) (k d)
   omega
  ·exact tpoI.tr _ _ _ h1 h2
def cmpU (a b:UInt8):Int:=cmpI (a.toNat:Int) (b.toNat:Int)
theorem cmpB_eq:∀l r:List UInt8,Lib.compareBytes l r=cmpL cmpU l r
 | [],[]=>rfl
 | [],_::_=>rfl
 |_::_,[]=>rfl
 |a::l,b::r=>by
  simp only[Lib.compareBytes,cmpL,cmpB_eq l r]
  have hab:a<b↔a.toNat<b.toNat:=UInt8.lt_iff_toNat_lt
  have hba:b<a↔b.toNat<a.toNat:=UInt8.lt_iff_toNat_lt
  rcases cmpI_cases (a.toNat:Int) (b.toNat:Int) with⟨h,e⟩| ⟨h,e⟩| ⟨h,e⟩
  ·have h1:a<b:=hab.2 (by omega)
   have e':cmpU a b= -1:=e
   simp[h1,e']
  ·have h1:¬a<b:=fun x=>by have:=hab.1 x;omega
   have h2:¬b<a:=fun x=>by have:=hba.1 x;omega
   have e':cmpU a b=0:=e
   simp[h1,h2,e']
  ·have h1:¬a<b:=fun x=>by have:=hab.1 x;omega
   have h2:b<a:=hba.2 (by omega)
   have e':cmpU a b=1:=e
   simp[h1,h2,e']
def cmpT (a b:ByteArray):Int:=Lib.compareBytes a.data.toList b.data.toList
theorem tpoT:TPO cmpT:=by
 have h:TPO (fun a b:ByteArray=>cmpL cmpU a.data.toList b.data.toList):=(tpoL (tpoI.key fun u:UInt8=>(u.toNat:Int))).key (fun a:ByteArray=>a.data.toList)
 have e:cmpT=fun a b:ByteArray=>cmpL cmpU a.data.toList b.data.toList:=by funext a b;exact cmpB_eq _ _
 rw[e];exact h
def cmpF (c:Dt→Dt→Int) (f g:Dt):Int:=bif cmpT (Dt.S f 0) (Dt.S g 0) !=0 then cmpT (Dt.S f 0) (Dt.S g 0) else c (Dt.fld f 1) (Dt.fld g 1)
def cmpK (c:Dt→Dt→Int) (k:Int) (a b:Dt):Int:=
 bif (k==3||k==9||k==10) then cmpI (Dt.I a 1) (Dt.I b 1)
 else bif (k==4||k==7||k==8) then cmpT (Dt.S a 2) (Dt.S b 2)
 else bif k==6 then cmpL c (Dt.L a 3) (Dt.L b 3)
 else bif k==5 then cmpL (cmpF c) (Dt.L a 4) (Dt.L b 4) else 0
def cmpV:Nat→Dt→Dt→Int
 |0,_,_=>0
 |n+1,a,b=>bif (Dt.I a 0 !=Dt.I b 0) then cmpI (Dt.I a 0) (Dt.I b 0) else cmpK (cmpV n) (Dt.I a 0) a b
theorem tpoV:∀n,TPO (cmpV n)
 |0=>TPO.zero
 |n+    1=>by
  have ih:=tpoV n
  have hF:TPO (cmpF (cmpV n)):=(tpoT.key fun f=>Dt.S f 0).lex (ih.key fun f=>Dt.fld f 1)
  refine tpoDep (fun a=>Dt.I a 0) (fun k=>cmpK (cmpV n) k) fun k=>?_
  unfold cmpK
  cases (k==3||k==9||k==10)
  ·cases (k==4||k==7||k==8)
   ·    cases k==6
        ·cases k==5
         ·exact TPO.zero
         ·exact(tpoL hF).key fun a=>Dt.L a 4
        ·exact(tpoL ih).key fun a=>Dt.L a 3
   ·exact tpoT.key fun a=>Dt.S a 2
  ·exact tpoI.key fun a=>Dt.I a 1
end Go.Am
namespace Go.Am.Srt
variable {A:Type} (lt:A→A→Bool)
structure SWO:Prop where
 irr:∀x,lt x x=false
 tr:∀x y z,lt x y=true→lt y z=true→lt x z=true
 ntr:∀x y z,lt x y=false→lt y z=false→lt x z=false
def ins (x:A):List A→List A
 | []=>[x]
 |y::r=>bif lt y x then y::ins x r else x::y::r
def isort:List A→List A
 | []=>[]
 |x::r=>ins lt x (isort r)
def Asc:List A→Prop
 | []=>True
 |x::r=>(∀y∈r,lt y x=false)∧Asc r
variable {lt}
theorem SWO.asy (h:SWO lt) {x y:A} (hxy:lt x y=true):lt y x=false:=by
 cases e:lt y x with
 |false=>rfl
 |true=>have:=h.tr _ _ _ hxy e;rw[h.irr] at this;cases this
theorem ins_ins (h:SWO lt) {a b:A} (hb:lt b a=true):∀s,ins lt a (ins lt b s)=ins lt b (ins lt a s)
 | []=>by simp[ins,hb,h.asy hb]
 |y::r=>by
  cases e:lt y b with
  |true=>
   have e2:lt y a=true:=h.tr _ _ _ e hb
   simp[ins,e,e2,ins_ins h hb r]
  |false=>
   cases e2:lt y a with
   |true=>simp[ins,e,e2,hb]
   |false=>simp[ins,e,e2,hb,h.asy hb]
theorem isort_append (X B:List A):isort lt (X++B)=X.foldr (ins lt) (isort lt B):=by
 induction X with
 |nil=>rfl
 |cons x r ih=>simp[isort,ih]
theorem isort_swap (h:SWO lt) {a b:A} (hb:lt b a=true) (X B:List A):isort lt (X++a::b::B)=isort lt (X++b::a::B):=by
 rw[isort_append,isort_append]
 simp only[isort,ins_ins h hb]
theorem isort_ins (h:SWO lt) (x:A):∀(Y B:List A),isort lt (ins lt x Y++B)=isort lt (x::Y++B)
 | [],B=>rfl
 |y::r,B=>by
  cases e:lt y x with
  |true=>
   have h1:=isort_swap h e [] (r++B)
   simp only[List.nil_append] at h1
   simp only[ins,e,cond_true,List.cons_append]
   rw[h1]
   show ins lt y (isort lt (ins lt x r++B))=ins lt y (isort lt (x::r++B))
   rw[isort_ins h x r B]
  |false=>simp[ins,e]
theorem isort_isort (h:SWO lt):∀(X B:List A),isort lt (isort lt X++B)=isort lt (X++B)
 | [],B=>rfl
 |x::r,B=>by
  show isort lt (ins lt x (isort lt r)++B)=ins lt x (isort lt (r++B))
  rw[isort_ins h,List.cons_append]
  show ins lt x (isort lt (isort lt r++B))=_
  rw[isort_isort h r B]
theorem isort_ctx (h:SWO lt) {X Y:List A} (e:isort lt X=isort lt Y) (C B:List A):isort lt (C++X++B)=isort lt (C++Y++B):=by
 rw[List.append_assoc,List.append_assoc,isort_append C,isort_append C,←isort_isort h X,←isort_isort h Y,e]
theorem isort_ctx2 (h:SWO lt) {X Y X' Y':List A} (e:isort lt X=isort lt X') (e':isort lt Y=isort lt Y'):isort lt (X++Y)=isort lt (X'++Y'):=by
 have h1:=isort_ctx h e [] Y
 have h2:=isort_ctx h e' X' []
 simp only[List.nil_append,List.append_nil] at h1 h2
 exact h1.trans h2
theorem isort_asc:∀{s:List A},Asc lt s→isort lt s=s
 | [],_=>rfl
 |x::r,h=>by
  show ins lt x (isort lt r)=_
  rw[isort_asc h.2]
  cases r with
  |nil=>rfl
  |cons y r=>simp[ins,h.1 y (by simp)]
theorem mem_ins {x z:A}:∀{s:List A},z∈ins lt x s↔z=x∨z∈s
 | []=>by simp[ins]
 |y::r=>by
  cases e:lt y x with
  |true=>simp[ins,e,mem_ins (s:=r)];constructor<;>rintro(h|h|h)<;>simp[h]
  |false=>simp[ins,e]
theorem asc_ins (h:SWO lt) (x:A):∀{s:List A},Asc lt s→Asc lt (ins lt x s)
 | [],_=>⟨by simp,trivial⟩
 |y::r,hs=>by
  cases e:lt y x with
  |true=>
   simp only[ins,e,cond_true]
   refine⟨fun z hz=>?_,asc_ins h x hs.2⟩
   rcases mem_ins.1 hz with rfl|hz
   ·exact h.asy e
   ·exact hs.1 z hz
  |false=>
   simp only[ins,e,cond_false]
   refine⟨fun z hz=>?_,hs⟩
   rcases List.mem_cons.1 hz with rfl|hz
   ·exact e
   ·exact h.ntr _ _ _ (hs.1 z hz) e
theorem asc_isort (h:SWO lt):∀X:List A,Asc lt (isort lt X)
 | []=>trivial
 |x::r=>asc_ins h x (asc_isort h r)
theorem perm_ins (x:A):∀s:List A,(ins lt x s).Perm (x::s)
 | []=>List.Perm.refl _
 |y::r=>by
  cases e:lt y x with
  |true=>simp only[ins,e,cond_true];exact((perm_ins x r).cons y).trans (List.Perm.swap x y r)
  |false=>simp only[ins,e,cond_false];exact List.Perm.refl _
theorem perm_isort:∀X:List A,(isort lt X).Perm X
 | []=>List.Perm.refl _
 |x::r=>(perm_ins x _).trans ((perm_isort r).cons x)
theorem isort_len (X:List A):(isort lt X).length=X.length:=(perm_isort X).length_eq
theorem mem_isort {X:List A} {z:A}:z∈isort lt X↔z∈X:=(perm_isort X).mem_iff
theorem asc_append:∀{X Y:List A},Asc lt X→Asc lt Y→(∀x∈X,∀y∈Y,lt y x=false)→Asc lt (X++Y)
 | [],_,_,hy,_=>hy
 |x::r,Y,hx,hy,h=>⟨fun z hz=>by
   rcases List.mem_append.1 hz with hz|hz
   ·exact hx.1 z hz
   ·exact h x (by simp) z hz,asc_append hx.2 hy fun a ha b hb=>h a (by simp[ha]) b hb⟩
theorem asc_of_append:∀{X Y:List A},Asc lt (X++Y)→Asc lt X∧Asc lt Y∧∀x∈X,∀y∈Y,lt y x=false
 | [],_,h=>⟨trivial,h,by simp⟩
 |x::r,Y,h=>by
  obtain⟨h1,h2,h3⟩:=asc_of_append h.2
  refine⟨⟨fun z hz=>h.1 z (by simp[hz]),h1⟩,h2,fun a ha b hb=>?_⟩
  rcases List.mem_cons.1 ha with rfl|ha
  ·exact h.1 b (by simp[hb])
  ·exact h3 a ha b hb
theorem isort_split (h:SWO lt) {X Y:List A} (hxy:∀x∈X,∀y∈Y,lt y x=false):isort lt (X++Y)=isort lt X++isort lt Y:=by
 have h1:isort lt (X++Y)=isort lt (isort lt X++isort lt Y):=isort_ctx2 h (by have:=isort_isort h X [];simpa using this.symm) (by have:=isort_isort h Y [];simpa using this.symm)
 rw[h1]
 exact isort_asc (asc_append (asc_isort h X) (asc_isort h Y) fun a ha b hb=>hxy a (mem_isort.1 ha) b (mem_isort.1 hb))
theorem isort_jump (h:SWO lt) (u:A):∀(V C B:List A),(∀v∈V,lt v u=true)→isort lt (C++u::V++B)=isort lt (C++(V++u::B))
 | [],C,B,_=>by simp
 |v::V,C,B,hv=>by
  have h1:=isort_swap h (hv v (by simp)) C (V++B)
  have h2:=isort_jump h u V (C++[v]) B (fun w hw=>hv w (by simp[hw]))
  simp only[List.append_assoc,List.cons_append,List.nil_append] at h1 h2 ⊢
  exact h1.trans h2
theorem isort_rot (h:SWO lt):∀(U V C B:List A),(∀u∈U,∀v∈V,lt v u=true)→isort lt (C++(U++(V++B)))=isort lt (C++(V++(U++B)))
 | [],V,C,B,_=>by simp
 |u::U,V,C,B,hv=>by
  have h1:=isort_rot h U V (C++[u]) B (fun a ha=>hv a (by simp[ha]))
  have h2:=isort_jump h u V C (U++B) (hv u (by simp))
  simp only[List.append_assoc,List.cons_append,List.nil_append] at h1 h2 ⊢
  exact h1.trans h2
end Go.Am.Srt
