/- expr: documents merged, in plain Lean: the program's and the reference's rule give the same value of a node.
expr:documents merged:the program's and the reference's loops.
expr:what a valid expression is:a tree of at most 16 levels with good nodes,each of at most 256 kids.
expr:each operator over valid kids:the program and the reference answer alike,and what they answer is well-formed and small. Printed by eop.py. -/
import Derived.Test.YtmecfjhdnbgfeaaGreatDoorEC
import Derived.Test.YtmecfjhdnbgfeaaGreatDoorRA
import Derived.Test.YtmecfjhdnbgfeaaGreatDoorME
import Derived.Test.YtmecfjhdnbgfeaaGreatDoorMD
set_option linter.unusedVariables false
set_option linter.unusedSimpArgs false
namespace Go.Proofs.YtmecfjhdnbgfeaaGreatDoor
open Go.Am
def xE (r:Dt):List Dt→Dt
 | []=>r
 |f::l=>xE (Ap r (Dt.S f 0) (Dt.fld f 1)) l
def mgP:Bool→Dt→List Dt→Dt
 |_,r,[]=>r
 |b,r,k::l=>bif (Dt.I k 0==0||Dt.I k 0==2) then mgP b r l else bif Dt.I k 0==5 then(bif b then mgP false k l else bif decide ((1024:Int)<((Dt.L (xE r (Dt.L k 4)) 4).length:Int)) then kV 2 0 else mgP false (xE r (Dt.L k 4)) l) else kV 2 0
def mgR:Dt→List Dt→Dt
 |r,[]=>r
 |r,k::l=>bif (Dt.I k 0==0||Dt.I k 0==2) then mgR r l else bif Dt.I k 0==5 then mgR (xE r (Dt.L k 4)) l else kV 2 0
def mgS (l:List Dt):Dt:=mgP true (sU []) l
structure Dc (r:Dt):Prop where
 wv:WV r
 k5:Dt.I r 0=5
theorem RU {r x:Dt} {s:ByteArray} (h:Dc r) (hx:WV x):Dc (Ap r s x)∧(Dt.L r 4).length≤(Dt.L (Ap r s x) 4).length∧(Ap r s x).bulk≤r.bulk+(2+s.size+x.bulk):=by
 refine⟨⟨ajf h.wv hx,?_⟩,?_,?_⟩
 ·unfold Ap
  split
  ·exact h.k5
  ·exact h.k5
 ·unfold Ap
  split
  ·show _≤((Dt.L r 4).set _ _).length
   rw[List.length_set];exact Nat.le_refl _
  ·show _≤(Dt.L r 4++[_]).length
   rw[List.length_append];omega
 ·unfold Ap
  split
  ·rename_i k hk
   have:=acY (c:=x) h.wv (aaA hk)
   omega
  ·rw[alA,Vk,(Yi h.wv).2.2,RJ]
   have:Dt.bulkL [Dt.agg [.str s,x]]=2+s.size+x.bulk:=by
        have:=(Cj (.mk hx:WF (.agg [.str s,x]))).1
        rw[Dt.bulkL,this]
        show 2+s.size+x.bulk+0=_
        omega
   omega
theorem zm:∀(l:List Dt) {r:Dt},Dc r→(∀f∈l,WF f)→Dc (xE r l)∧(Dt.L r 4).length≤(Dt.L (xE r l) 4).length∧(xE r l).bulk≤r.bulk+Dt.bulkL l
 | [],r,h,_=>⟨h,Nat.le_refl _,Nat.le_refl _⟩
 |f::l,r,h,hl=>by
  obtain⟨f1,f2⟩:=Cj (hl f (List.mem_cons_self ..))
  obtain⟨h1,h2,h3⟩:=RU (s:=Dt.S f 0) h f2
  obtain⟨h4,h5,h6⟩:=zm l h1 fun g hg=>hl g (List.mem_cons_of_mem _ hg)
  rw[xE,Dt.bulkL]
  exact⟨h4,by omega,by omega⟩
theorem Nd.doc {k:Dt} (h:Nd k) (hk:Dt.I k 0=5):Dc k∧∀f∈Dt.L k 4,WF f:=⟨⟨h.wv,hk⟩,(vX h.wv).2⟩
theorem kor {k:Dt} (hk:(Dt.I k 0==5)=true):Dt.I k 0=5:=by simpa using hk
theorem ai3:Dc (sU []):=⟨UG (fun _ h=>by cases h),rfl⟩
theorem Kw {k:Dt} (h:WV k):Dt.bulkL (Dt.L k 4)≤k.bulk:=by rw[xD h];omega
theorem akO {r:Dt} (h:Dc r) {B:Nat} (hB:r.bulk≤B):Rs r B:=⟨h.wv,hB,.inr (by rw[h.k5];omega)⟩
theorem aeh:∀(l:List Dt) {r:Dt},Dc r→(∀k∈l,Nd k)→Rs (mgR r l) (r.bulk+Dt.bulkL l)
 | [],r,h,_=>akO h (Nat.le_refl _)
 |k::l,r,h,hl=>by
  have hk:=hl k (List.mem_cons_self ..)
  have ih:=fun {r:Dt} (h:Dc r)=>aeh l h fun g hg=>hl g (List.mem_cons_of_mem _ hg)
  have h6:=wv6 h.wv
  rw[mgR,Dt.bulkL]
  refine dI ((ih h).le (by omega)) ?_
  cases h5:(Dt.I k 0==5)
  ·exact jU.le (by omega)
  ·obtain⟨d1,d2⟩:=hk.doc (kor h5)
   obtain⟨a1,a2,a3⟩:=zm _ h d2
   have:=Kw d1.wv
   exact(ih a1).le (by omega)
theorem aei:∀(l:List Dt) {b:Bool} {r:Dt},Dc r→(∀k∈l,Nd k)→Rs (mgP b r l) (r.bulk+Dt.bulkL l)
 | [],_,r,h,_=>akO h (Nat.le_refl _)
 |k::l,b,r,h,hl=>by
  have hk:=hl k (List.mem_cons_self ..)
  have ih:=fun {b:Bool} {r:Dt} (h:Dc r)=>aei l (b:=b) h fun g hg=>hl g (List.mem_cons_of_mem _ hg)
  have h6:=wv6 h.wv
  rw[mgP,Dt.bulkL]
  refine dI ((ih h).le (by omega)) ?_
  cases h5:(Dt.I k 0==5)
  ·exact jU.le (by omega)
  ·obtain⟨d1,d2⟩:=hk.doc (kor h5)
   obtain⟨a1,a2,a3⟩:=zm _ h d2
   have:=Kw d1.wv
   rw[cond_true]
   exact dI ((ih d1).le (by omega)) (dI (jU.le (by omega)) ((ih a1).le (by omega)))
theorem RX {A:Type} (f:A→Nat) (h:∀a,1≤f a):∀l:List A,l.length≤(l.map f).sum
 | []=>Nat.le_refl _
 |a::l=>by
  have:=h a;have:=RX f h l
  rw[List.map_cons,List.sum_cons,List.length_cons];omega
theorem anF (d:Dt):1≤nds d:=by
 unfold nds
 cases d.bulk with
 |zero=>exact Nat.le_refl _
 |succ n=>rw[YJ];omega
theorem aej {r:Dt} (h:Dc r) (hl:1024<(Dt.L r 4).length):nm1 r=kV 2 0:=by
 have hn:okV r=false:=by
  have h1:=DT h.wv
  have h2:=RX nds anF (qx r)
  have h3:qx r=(Dt.L r 4).map (·.fld 1):=by rw[qx,h.k5];rfl
  rw[h3] at h2
  rw[List.length_map,←h3] at h2
  rw[okV,decide_eq_false (by omega),Bool.false_and,Bool.false_and]
 rw[nm1,h.k5,hn]
 rfl
theorem UY:nm1 (kV 2 0)=kV 2 0:=by rw[nm1,acG];rfl
theorem aar:∀(l:List Dt) {r:Dt},Dc r→(∀k∈l,Nd k)→1024<(Dt.L r 4).length→nm1 (mgR r l)=kV 2 0
 | [],r,h,_,hb=>aej h hb
 |k::l,r,h,hl,hb=>by
  have hk:=hl k (List.mem_cons_self ..)
  have ih:=fun {r:Dt} (h:Dc r)=>aar l h fun g hg=>hl g (List.mem_cons_of_mem _ hg)
  rw[mgR]
  cases (Dt.I k 0==0||Dt.I k 0==2)
  ·rw[cond_false]
   cases h5:(Dt.I k 0==5)
   ·exact UY
   ·    obtain⟨d1,d2⟩:=hk.doc (kor h5)
        obtain⟨a1,a2,a3⟩:=zm _ h d2
        exact ih a1 (by omega)
  ·exact ih h hb
theorem KX:∀(l:List Dt) {r:Dt},Dc r→(∀k∈l,Nd k)→nm1 (mgP false r l)=nm1 (mgR r l)
 | [],r,_,_=>rfl
 |k::l,r,h,hl=>by
  have hk:=hl k (List.mem_cons_self ..)
  have hl':∀g∈l,Nd g:=fun g hg=>hl g (List.mem_cons_of_mem _ hg)
  rw[mgR,mgP]
  cases (Dt.I k 0==0||Dt.I k 0==2)
  ·rw[   cond_false,cond_false]
   cases h5:(Dt.I k 0==5)
   ·rfl
   ·    obtain⟨d1,d2⟩:=hk.doc (kor h5)
        obtain⟨a1,a2,a3⟩:=zm _ h d2
        rw[cond_true,cond_true,cond_false]
        cases hd:decide ((1024:Int)<((Dt.L (xE r (Dt.L k 4)) 4).length:Int))
        ·exact KX l a1 hl'
        ·have:1024<(Dt.L (xE r (Dt.L k 4)) 4).length:=by have:=of_decide_eq_true hd;omega
         rw[cond_true,aar l a1 hl' this,UY]
  ·exact KX l h hl'
theorem aas {s:ByteArray}:∀{l:List Dt},(∀g∈l,eqb s (Dt.S g 0)=false)→fi s l=none
 | [],_=>rfl
 |g::l,h=>by
  have h1:=h g (List.mem_cons_self ..)
  rw[Fa] at h1
  have h1:(ByteArray.toList (Dt.S g 0)==ByteArray.toList s)=false:=h1
  rw[fi,h1,cond_false,aas fun x hx=>h x (List.mem_cons_of_mem _ hx)]
  rfl
theorem any_map (s:ByteArray) (l:List Dt) (h:(!((l.map fun g=>Dt.S g 0).any (eqb s)))=true):∀g∈l,eqb s (Dt.S g 0)=false:=by
 intro g hg
 cases he:eqb s (Dt.S g 0)
 ·rfl
 ·have:(l.map fun g=>Dt.S g 0).any (eqb s)=true:=List.any_eq_true.2 ⟨_,List.mem_map.2 ⟨g,hg,rfl⟩,he⟩
  rw[this] at h;cases h
theorem KY {p:ByteArray→Bool} {self:Dt→Bool}:∀(l pre:List Dt),(∀f∈l,WF f)→fl p self (pre.map fun g=>Dt.S g 0) l=true→xE (sU pre) l=sU (pre++l)
 | [],pre,_,_=>by rw[xE,List.append_nil]
 |f::l,pre,hw,h=>by
  rw[fl] at h
  simp only[Bool.and_eq_true] at h
  obtain⟨⟨⟨_,h2⟩,_⟩,h4⟩:=h
  have hn:=aas (any_map _ _ h2)
  have hf:Dt.agg [.str (Dt.S f 0),Dt.fld f 1]=f:=by
   have:=hw f (List.mem_cons_self ..)
   cases this with
   |mk hv=>rfl
  have e1:Ap (sU pre) (Dt.S f 0) (Dt.fld f 1)=sU (pre++[f]):=by
   have e0:Dt.L (sU pre) 4=pre:=rfl
   unfold Ap
   rw[e0,hn]
   show Dt.agg [.int 5,.int 0,.str (ByteArray.mk (List.toArray [])),.lst [],.lst (pre++[Dt.agg [.str (Dt.S f 0),Dt.fld f 1]])]=_
   rw[hf]
   rfl
  rw[xE,e1,KY l (pre++[f]) (fun g hg=>hw g (List.mem_cons_of_mem _ hg)) (by rw[List.map_append];exact h4),List.append_assoc]
  rfl
theorem anG {t:ByteArray} (h:t.size=0):t=ByteArray.mk (List.toArray []):=by
 cases t with
 |mk a=>
  have:a.size=0:=h
  have:a= #[]:=Array.eq_empty_of_size_eq_zero this
  rw[this]
theorem acT {k:Dt} (h:Nd k) (hk:Dt.I k 0=5):xE (sU []) (Dt.L k 4)=k:=by
 rcases h with rfl| ⟨hw,ho⟩
 ·exact absurd hk (by decide)
 ·rw[   okV] at ho
  simp only[Bool.and_eq_true] at ho
  have ho:=ho.2
  obtain⟨n,hn⟩:∃n,k.bulk=n+1:=⟨k.bulk-1,by have:=fH k;omega⟩
  rw[hn,sndF,Bool.and_eq_true] at ho
  obtain⟨hs,hf⟩:=ho
  rw[hk] at hf
  have hf:fl nm (sndF nm n) [] (Dt.L k 4)=true:=hf
  rw[KY (Dt.L k 4) [] (vX hw).2 hf,List.nil_append]
  rw[shp] at hs
  simp only[Bool.and_eq_true] at hs
  obtain⟨⟨⟨h1,h2⟩,h3⟩,_⟩:=hs
  rw[hk] at h1 h2 h3
  cases hw with
  | @mk kk i t l ds hl hd=>
    have hk':kk=5:=hk
    have e1:i=0:=by
        have:((i:Int)==0)=true:=h1
        simpa using this
    have e2:t=ByteArray.mk (List.toArray []):=anG (Gn (by have:(t.toList==[])=true:=h2;exact this))
    have e3:l=[]:=Gp h3
    subst hk' e1 e2 e3
    rfl
theorem aat:∀(l:List Dt),(∀k∈l,Nd k)→nm1 (mgP true (sU []) l)=nm1 (mgR (sU []) l)
 | [],_=>rfl
 |k::l,hl=>by
  have hk:=hl k (List.mem_cons_self ..)
  have hl':∀g∈l,Nd g:=fun g hg=>hl g (List.mem_cons_of_mem _ hg)
  rw[mgR,mgP]
  cases (Dt.I k 0==0||Dt.I k 0==2)
  ·rw[cond_false,cond_false]
   cases h5:(Dt.I k 0==5)
   ·rfl
   ·    rw[cond_true,cond_true,cond_true,acT hk (kor h5)]
        exact KX l (hk.doc (kor h5)).1 hl'
  ·exact aat l hl'
end Go.Proofs.YtmecfjhdnbgfeaaGreatDoor
namespace Go.Proofs.YtmecfjhdnbgfeaaGreatDoor
open Go.Am
theorem akP (m:Nat) (rec1:Bool→List Dt→Int→Int→Dt→Dt→Option Dt) (b:Bool) (l:List Dt) (n i:Int) (z:Dt) (fs:List Dt) (hf:∀f∈fs,WF f) (hfl:fs.length<9223372036854775000) (hm:1200000000≤m) (hm2:m<9223372036854775000):∀(M j:Nat) (r:Dt),j≤fs.length→fs.length-j<M→Dc r→r.bulk+Dt.bulkL (fs.drop j)≤1200000000→
  o7 (m+2) rec1 M b l n i fs (fs.length:Int) (j:Int) z r=uQ (m+2) rec1 b l n i z (xE r (fs.drop j))
 |0,j,_,_,h,_,_=>by omega
 |M+1,j,r,hj,h,hr,hb=>by
  have hl:=qw (fs.drop j)
  rw[List.length_drop] at hl
  simp only[o7,dlt]
  by_cases hlt:j<fs.length
  ·rw[fT hlt] at hb ⊢
   rw[Dt.bulkL] at hb
   obtain⟨f1,f2⟩:=Cj (hf _ (List.getElem_mem hlt))
   obtain⟨s1,_,s3⟩:=RU (s:=Dt.S fs[j] 0) hr f2
   have hs:=ajh m (Dt.S fs[j] 0) r (Dt.fld fs[j] 1) hr.wv f2 hr.k5 (by omega) (by omega) (by omega) (by omega) (by omega)
   have ih:=akP m rec1 b l n i z fs hf hfl hm hm2 M (j+1) (Ap r (Dt.S fs[j] 0) (Dt.fld fs[j] 1)) (by omega) (by omega) s1 (by omega)
   have hj2:j<9223372036854775807:=by omega
   simp only[hlt,decide_true,cond_true,aC hlt,Option.bind_some,hs,aM hj2,xE]
   exact ih
  ·rw[jl hlt]
   simp only[hlt,decide_false,cond_false,xE]
theorem aek (m:Nat) (l:List Dt) (z:Dt) (hk:∀k∈l,Nd k) (hl:l.length<9223372036854775000) (hm:1200000000≤m) (hm2:m<9223372036854775000):∀(M i:Nat) (b:Bool) (r:Dt),i≤l.length→l.length-i<M→Dc r→r.bulk+Dt.bulkL (l.drop i)≤1200000000→
  eP (m+2) M b l (l.length:Int) (i:Int) z r=some (mgP b r (l.drop i))
 |0,i,_,_,_,h,_,_=>by omega
 |M+    1,i,  b,r,hi,h,hr,hb=>by
  simp only[eP,dlt]
  by_cases hlt:i<l.length
  ·rw[   fT hlt] at hb ⊢
   rw[Dt.bulkL] at hb
   have ih:=fun b r=>aek m l z hk hl hm hm2 M (i+1) b r (by omega) (by omega)
   have hn:=hk _ (List.getElem_mem hlt)
   have e4:∀b r,oZ (m+2) (eP (m+2) M) b l (l.length:Int) (i:Int) z r=eP (m+2) M b l (l.length:Int) (((i+1:Nat)):Int) z r:=fun b r=>by rw[oZ,aM (by omega)]
   simp only[hlt,decide_true,cond_true,sN,aC hlt,Option.bind_some,mgP,Gg (m+1),e4]
   cases h0:(Dt.I l[i] 0==0)
   ·    cases h2:(Dt.I l[i] 0==2)
        ·cases h5:(Dt.I l[i] 0==5)
         ·rfl
         ·obtain⟨d1,d2⟩:=hn.doc (kor h5)
          have hL:=Kw d1.wv
          cases b
          ·   obtain⟨a1,a2,a3⟩:=zm _ hr d2
              have hl4:=qw (Dt.L l[i] 4)
              have hin:=akP m (eP (m+2) M) false l (l.length:Int) (i:Int) z (Dt.L l[i] 4) d2 (by omega) hm hm2 (Nat.succ (m+2)) 0 r (Nat.zero_le _) (by omega) hr (by rw[List.drop_zero];omega)
              rw[List.drop_zero] at hin
              simp only[cond_true,cond_false,Bool.or_false,Bool.false_or]
              refine hin.trans ?_
              simp only[uQ,Gg (m+1),Option.bind_some,e4]
              cases decide ((1024:Int)<((Dt.L (xE r (Dt.L l[i] 4)) 4).length:Int))
              ·exact ih false _ a1 (by omega)
              ·rfl
          ·exact ih false _ d1 (by have:=wv6 hr.wv;omega)
        ·exact ih b r hr (by omega)
   ·exact ih b r hr (by omega)
  ·rw[jl hlt]
   simp only[hlt,decide_false,cond_false,mgP]
theorem akQ (m:Nat) (rec1:List Dt→Int→Dt→Dt→Option Dt) (l:List Dt) (i:Nat) (hi:i<l.length) (z:Dt) (hf:∀f∈Dt.L l[i] 4,WF f) (hfl:(Dt.L l[i] 4).length<9223372036854775000) (hm:1200000000≤m) (hm2:m<9223372036854775000):∀(M j:Nat) (r:Dt),j≤(Dt.L l[i] 4).length→(Dt.L l[i] 4).length-j<M→Dc r→r.bulk+Dt.bulkL ((Dt.L l[i] 4).drop j)≤1200000000→
  nX (m+2) rec1 M l (i:Int) (j:Int) z r=kW (m+2) rec1 l (i:Int) z (xE r ((Dt.L l[i] 4).drop j))
 |0,j,_,_,h,_,_=>by omega
 |M+1,j,r,hj,h,hr,hb=>by
  have hl:=qw ((Dt.L l[i] 4).drop j)
  rw[List.length_drop] at hl
  simp only[nX,aC hi,Option.bind_some,dlt]
  by_cases hlt:j<(Dt.L l[i] 4).length
  ·rw[fT hlt] at hb ⊢
   rw[Dt.bulkL] at hb
   obtain⟨f1,f2⟩:=Cj (hf _ (List.getElem_mem hlt))
   obtain⟨s1,_,s3⟩:=RU (s:=Dt.S (Dt.L l[i] 4)[j] 0) hr f2
   have hs:=ajg m (Dt.S (Dt.L l[i] 4)[j] 0) r (Dt.fld (Dt.L l[i] 4)[j] 1) hr.k5 (by omega) (by omega) (by omega)
   have ih:=akQ m rec1 l i hi z hf hfl hm hm2 M (j+1) (Ap r (Dt.S (Dt.L l[i] 4)[j] 0) (Dt.fld (Dt.L l[i] 4)[j] 1)) (by omega) (by omega) s1 (by omega)
   have hj2:j<9223372036854775807:=by omega
   simp only[hlt,decide_true,cond_true,aC hi,aC hlt,Option.bind_some,hs,aM hj2,xE]
   exact ih
  ·rw[jl hlt]
   simp only[hlt,decide_false,cond_false,xE]
theorem ael (m:Nat) (l:List Dt) (z:Dt) (hk:∀k∈l,Nd k) (hl:l.length<9223372036854775000) (hm:1200000000≤m) (hm2:m<9223372036854775000):∀(M i:Nat) (r:Dt),i≤l.length→l.length-i<M→Dc r→r.bulk+Dt.bulkL (l.drop i)≤1200000000→
  dx (m+2) M l (i:Int) z r=some (mgR r (l.drop i))
 |0,i,_,_,h,_,_=>by omega
 |M+    1,i,r,hi,h,hr,hb=>by
  simp only[dx,dlt]
  by_cases hlt:i<l.length
  ·rw[   fT hlt] at hb ⊢
   rw[Dt.bulkL] at hb
   have ih:=fun r=>ael m l z hk hl hm hm2 M (i+1) r (by omega) (by omega)
   have hn:=hk _ (List.getElem_mem hlt)
   have e3:∀r,kW (m+2) (dx (m+2) M) l (i:Int) z r=dx (m+2) M l (((i+1:Nat)):Int) z r:=fun r=>by rw[kW,aM (by omega)]
   simp only[hlt,decide_true,cond_true,aC hlt,Option.bind_some,mgR,Gh (m+1),e3]
   cases h0:(Dt.I l[i] 0==0)
   ·    cases h2:(Dt.I l[i] 0==2)
        ·cases h5:(Dt.I l[i] 0==5)
         ·rw[show (Dt.I l[i] 0 !=5)=true by rw[bne,h5];rfl]
          rfl
         ·obtain⟨d1,d2⟩:=hn.doc (kor h5)
          have hL:=Kw d1.wv
          obtain⟨a1,a2,a3⟩:=zm _ hr d2
          have hl4:=qw (Dt.L l[i] 4)
          have hin:=akQ m (dx (m+2) M) l i hlt z d2 (by omega) hm hm2 (Nat.succ (m+2)) 0 r (Nat.zero_le _) (by omega) hr (by rw[List.drop_zero];omega)
          rw[List.drop_zero] at hin
          rw[show (Dt.I l[i] 0 !=5)=false by rw[bne,h5];rfl]
          refine hin.trans ?_
          rw[e3]
          exact ih _ a1 (by omega)
        ·exact ih r hr (by omega)
   ·exact ih r hr (by omega)
  ·rw[jl hlt]
   simp only[hlt,decide_false,cond_false,mgR]
theorem uE:∀(l:List Dt),(∀k∈l,Nd k)→Dt.bulkL l≤4300800*l.length
 | [],_=>Nat.le_refl _
 |a::l,h=>by
  have h1:=(h a (List.mem_cons_self ..)).bulk
  have h2:=uE l fun k hk=>h k (List.mem_cons_of_mem _ hk)
  rw[Dt.bulkL,List.length_cons]
  omega
theorem ai4 (l:List Dt) (hk:∀k∈l,Nd k) (h:l.length≤256) (m:Nat) (hm:1200000001≤m) (hm2:m<9223372036854775000):nZ (m+2) l=some (mgS l):=by
 have hB:=uE l hk
 obtain⟨q,rfl⟩:∃q,m=q+1:=⟨m-1,by omega⟩
 have key:=aek q l kza2373 hk (by omega) (by omega) (by omega) (Nat.succ (q+2)) 0 true (sU []) (Nat.zero_le _) (by omega) ai3 (by have:(sU []).bulk=6:=rfl;rw[List.drop_zero];omega)
 rw[List.drop_zero] at key
 exact key
theorem ai5 (l:List Dt) (hk:∀k∈l,Nd k) (h:l.length≤256) (m:Nat) (hm:1200000001≤m) (hm2:m<9223372036854775000):lT (m+2) l=some (mgR (sU []) l):=by
 have hB:=uE l hk
 obtain⟨q,rfl⟩:∃q,m=q+1:=⟨m-1,by omega⟩
 have key:=ael q l kza2373 hk (by omega) (by omega) (by omega) (Nat.succ (q+2)) 0 (sU []) (Nat.zero_le _) (by omega) ai3 (by have:(sU []).bulk=6:=rfl;rw[List.drop_zero];omega)
 rw[List.drop_zero] at key
 exact key
end Go.Proofs.YtmecfjhdnbgfeaaGreatDoor
namespace Go.Proofs.YtmecfjhdnbgfeaaGreatDoor
open Go.Am
def VE:Nat→Dt→Prop
 |0,_=>False
 |r+1,d=>nodeS d=0∧(Dt.L d 6).length≤256∧∀k∈Dt.L d 6,VE r k
theorem aem {b:Bool} {x y:Int} (h:(bif b then x else y)=0) (hx:x≠0):b=false∧y=0:=by
 cases b
 ·exact⟨rfl,h⟩
 ·exact absurd h hx
theorem aau {f:Dt→Nat→Nat×Int} (hf:∀e n,n≤256→(f e n).2=0→n<(f e n).1∧(f e n).1≤256):∀(l:List Dt) (n:Nat),n≤256→(ckL f l n).2=0→n+l.length≤(ckL f l n).1∧∀e∈l,∃n',n'≤256∧(f e n').2=0
 | [],n,hn,h=>⟨Nat.le_refl _,fun _ h=>by cases h⟩
 |e::r,n,hn,h=>by
  rw[ckL] at h ⊢
  cases hb:((f e n).2 !=0) with
  |true=>
   rw[hb,cond_true] at h
   rw[h] at hb;cases hb
  |false=>
   have hz:(f e n).2=0:=by simpa [bne] using hb
   rw[hb,cond_false] at h
   rw[cond_false]
   obtain⟨h1,h2⟩:=hf e n hn hz
   obtain⟨h3,h4⟩:=aau hf r _ h2 h
   refine⟨by rw[List.length_cons];omega,fun x hx=>?_⟩
   rcases List.mem_cons.1 hx with rfl|hx
   ·exact⟨n,hn,hz⟩
   ·exact h4 x hx
theorem RY:∀(r:Nat) (d:Dt) (n:Nat),n≤256→(ckE r d n).2=0→n<(ckE r d n).1∧VE r d
 |0,_,_,_,h=>absurd (show (2:Int)=0 from h) (by decide)
 |r+    1,d,n,hn,h=>by
  rw[ckE] at h ⊢
  cases hb:Nat.beq n 256 with
  |true=>
   rw[hb,cond_true] at h
   exact absurd (show (2:Int)=0 from h) (by decide)
  |false=>
   have h9:n≠256:=fun h=>by subst h;cases hb
   rw[hb,cond_false] at h
   rw[cond_false]
   cases hz:(nodeS d !=0) with
   |    true=>
        rw[hz,cond_true] at h
        have h:nodeS d=0:=h
        rw[h] at hz;cases hz
   |    false=>
        have hz':nodeS d=0:=by simpa [bne] using hz
        rw[hz,cond_false] at h
        rw[cond_false]
        obtain⟨h1,h2⟩:=aau (f:=ckE r) (fun e n hn he=>⟨(RY r e n hn he).1,NC r e n hn⟩) (Dt.L d 6) (n+1) (by omega) h
        have h3:=ZC (f:=ckE r) (fun e n h=>NC r e n h) (Dt.L d 6) (n+1) (by omega)
        refine⟨by omega,hz',by omega,fun k hk=>?_⟩
        obtain⟨n',hn',he⟩:=h2 k hk
        exact(RY r k n' hn' he).2
theorem BL {d:Dt} (h:nodeS d=0):1≤Dt.I d 0∧Dt.I d 0≤37∧ehk (PV (Dt.I d 0)) ((Dt.L d 6).length:Int)=true∧(Dt.I d 0=34→(Dt.L d 3).length=(Dt.L d 6).length)∧(Dt.I d 0=1→okV (Dt.fld d 4)=true):=by
 rw[nodeS] at h
 obtain⟨h1,h⟩:=aem h (by decide)
 obtain⟨h2,h⟩:=aem h (by decide)
 rw[sE] at h
 obtain⟨_,h⟩:=aem h (by decide)
 rw[sD] at h
 obtain⟨_,h⟩:=aem h (by decide)
 rw[sC] at h
 obtain⟨h3,_⟩:=aem h (by decide)
 rw[Bool.or_eq_false_iff] at h1 h2
 have h11:=of_decide_eq_false h1.1
 have h12:=of_decide_eq_false h1.2
 refine⟨by omega,by omega,by simpa using h2.1,fun e=>?_,fun e=>?_⟩
 ·have h4:=h2.2
  rw[e,show ((34:Int)==34)=true from rfl,Bool.true_and] at h4
  have h5:((Dt.L d 6).length:Int)=((Dt.L d 3).length:Int):=by simpa [bne] using h4
  omega
 ·rw[e,show ((1:Int)==1)=true from rfl,Bool.true_and] at h3
  simpa using h3
end Go.Proofs.YtmecfjhdnbgfeaaGreatDoor
namespace Go.Proofs.YtmecfjhdnbgfeaaGreatDoor
open Go.Am
theorem sh1 {ks:List Dt} (h:((ks.length:Int)==1)=true):∃a,ks=[a]:=by
 have h:(ks.length:Int)=1:=by simpa using h
 match ks,h with
 | [a],_=>exact⟨a,rfl⟩
 | [],h=>exact absurd h (by decide)
 |_::_::_,h=>simp only[List.length_cons] at h;omega
theorem sh2 {ks:List Dt} (h:((ks.length:Int)==2)=true):∃a b,ks=[a,b]:=by
 have h:(ks.length:Int)=2:=by simpa using h
 match ks,h with
 | [a,b],_=>exact⟨a,b,rfl⟩
 | [],h=>exact absurd h (by decide)
 | [_],h=>simp only[List.length_cons,List.length_nil] at h;omega
 |_::_::_::_,h=>simp only[List.length_cons] at h;omega
theorem sh3 {ks:List Dt} (h:((ks.length:Int)==3)=true):∃a b c,ks=[a,b,c]:=by
 have h:(ks.length:Int)=3:=by simpa using h
 match ks,h with
 | [a,b,c],_=>exact⟨a,b,c,rfl⟩
 | [],h=>exact absurd h (by decide)
 | [_],h=>simp only[List.length_cons,List.length_nil] at h;omega
 | [_,_],h=>simp only[List.length_cons,List.length_nil] at h;omega
 |_::_::_::_::_,h=>simp only[List.length_cons] at h;omega
theorem anH (x a:Dt) (m:Nat) (h:x.bulk≤m) (h2:x.bulk<1000000000000):iI (m+4) x a=some (cmpD x a==0):=by
 rw[iI,uX x a m h h2]
 rfl
theorem anI (x a:Dt) (m:Nat) (h:x.bulk≤m) (h2:m<900000000000):iJ (m+4) x a=some (cmpD x a==0):=by
 rw[iJ,xY x a m h h2]
 rfl
section
variable (m:Nat) (e z:Dt) (ks:List Dt) (hk:∀k∈ks,Nd k) (hl:ks.length=(Dt.L e 6).length) (h256:ks.length≤256) (hb:e.bulk≤100000000) (hm:2000000000≤m) (hm2:m<899999999900) (hn:nodeS e=0) (h1:Dt.I e 0≠1) (h2:Dt.I e 0≠2) (h3:Dt.I e 0≠3) (h32:Dt.I e 0≠32) (h33:Dt.I e 0≠33)
include hk hl h256 hb hm hm2 hn h1 h2 h3 h32 h33
theorem opP (s3 s25:Dt→Dt→Dt→Option Dt):ah (m+5) s3 s25 e z ks=some (opS (Dt.I e 0) e ks (mgS ks))∧Rs (opS (Dt.I e 0) e ks (mgS ks)) 1900000000:=by
 obtain⟨g1,g37,hek,hnm,_⟩:=BL hn
 rw[←hl] at hek hnm
 have hB:=uE ks hk
 rcases yY g1 g37 with he|he|he|he|he|he|he|he|he|he|he|he|he|he|he|he|he|he|he|he|he|he|he|he|he|he|he|he|he|he|he|he|he|he|he|he|he
 all_goals rw[he] at hek
 ·exact absurd he h1
 ·exact absurd he h2
 ·exact absurd he h3
 ·rw[he]
  exact⟨aqC m s3 s25 e z ks (by omega) (by omega) he,(yu 4 ks).le (by omega)⟩
 ·obtain⟨a,b,rfl⟩:=sh2 hek
  have ha:Nd a:=hk a (by simp)
  have hb':Nd b:=hk b (by simp)
  have hab:=ha.bulk
  have hbb:=hb'.bulk
  rw[he]
  exact⟨aqE m s3 s25 e z [a,b] (by simp) (by simp;omega) (.inr (.inr ⟨.inl rfl,a,b,rfl⟩)) he,(yu 5 [a,b]).le (by omega)⟩
 ·rw[he]
  exact⟨aqD m s3 s25 e z ks (by omega) (by omega) he,(yu 6 ks).le (by omega)⟩
 ·obtain⟨a,b,rfl⟩:=sh2 hek
  have ha:Nd a:=hk a (by simp)
  have hb':Nd b:=hk b (by simp)
  have hab:=ha.bulk
  have hbb:=hb'.bulk
  rw[he]
  exact⟨aqF m s3 s25 e z [a,b] (by simp) (by simp;omega) (.inr (.inr ⟨.inr (.inl rfl),a,b,rfl⟩)) he,(yu 7 [a,b]).le (by omega)⟩
 ·obtain⟨a,b,rfl⟩:=sh2 hek
  have ha:Nd a:=hk a (by simp)
  have hb':Nd b:=hk b (by simp)
  have hab:=ha.bulk
  have hbb:=hb'.bulk
  rw[he]
  exact⟨aqG m s3 s25 e z [a,b] (by simp) (by simp;omega) (.inr (.inr ⟨.inr (.inr rfl),a,b,rfl⟩)) he,(yu 8 [a,b]).le (by omega)⟩
 ·obtain⟨a,b,rfl⟩:=sh2 hek
  have ha:Nd a:=hk a (by simp)
  have hb':Nd b:=hk b (by simp)
  have hab:=ha.bulk
  have hbb:=hb'.bulk
  rw[he]
  exact⟨aqH m s3 s25 e z a b _ (uX a b (m+2) (by omega) (by omega)) he,(qQ 9 (cmpD a b)).le (by omega)⟩
 ·obtain⟨a,b,rfl⟩:=sh2 hek
  have ha:Nd a:=hk a (by simp)
  have hb':Nd b:=hk b (by simp)
  have hab:=ha.bulk
  have hbb:=hb'.bulk
  rw[he]
  exact⟨anM m s3 s25 e z a b _ (uX a b (m+2) (by omega) (by omega)) he,(qQ 10 (cmpD a b)).le (by omega)⟩
 ·obtain⟨a,b,rfl⟩:=sh2 hek
  have ha:Nd a:=hk a (by simp)
  have hb':Nd b:=hk b (by simp)
  have hab:=ha.bulk
  have hbb:=hb'.bulk
  rw[he]
  exact⟨anN m s3 s25 e z a b _ (uX a b (m+2) (by omega) (by omega)) he,(qQ 11 (cmpD a b)).le (by omega)⟩
 ·obtain⟨a,b,rfl⟩:=sh2 hek
  have ha:Nd a:=hk a (by simp)
  have hb':Nd b:=hk b (by simp)
  have hab:=ha.bulk
  have hbb:=hb'.bulk
  rw[he]
  exact⟨anO m s3 s25 e z a b _ (uX a b (m+2) (by omega) (by omega)) he,(qQ 12 (cmpD a b)).le (by omega)⟩
 ·obtain⟨a,b,rfl⟩:=sh2 hek
  have ha:Nd a:=hk a (by simp)
  have hb':Nd b:=hk b (by simp)
  have hab:=ha.bulk
  have hbb:=hb'.bulk
  rw[he]
  exact⟨anP m s3 s25 e z a b _ (uX a b (m+2) (by omega) (by omega)) he,(qQ 13 (cmpD a b)).le (by omega)⟩
 ·obtain⟨a,b,rfl⟩:=sh2 hek
  have ha:Nd a:=hk a (by simp)
  have hb':Nd b:=hk b (by simp)
  have hab:=ha.bulk
  have hbb:=hb'.bulk
  rw[he]
  exact⟨anQ m s3 s25 e z a b _ (uX a b (m+2) (by omega) (by omega)) he,(qQ 14 (cmpD a b)).le (by omega)⟩
 ·obtain⟨a,b,rfl⟩:=sh2 hek
  have ha:Nd a:=hk a (by simp)
  have hb':Nd b:=hk b (by simp)
  have hab:=ha.bulk
  have hbb:=hb'.bulk
  rw[he]
  exact⟨anR m s3 s25 e z a b _ (uX a b (m+2) (by omega) (by omega)) he,(qQ 15 (cmpD a b)).le (by omega)⟩
 ·rw[he]
  exact⟨anS m s3 s25 e z ks (by omega) (by omega) he,(acJ 16 ks).le (by omega)⟩
 ·rw[he]
  exact⟨anT m s3 s25 e z ks (by omega) (by omega) he,(acJ 17 ks).le (by omega)⟩
 ·obtain⟨a,rfl⟩:=sh1 hek
  have ha:Nd a:=hk a (List.mem_cons_self ..)
  have hab:=ha.bulk
  rw[he]
  exact⟨anU m s3 s25 e z a he,(BK (!trB a)).le (by omega)⟩
 ·obtain⟨a,b,c,rfl⟩:=sh3 hek
  have ha:Nd a:=hk a (by simp)
  have hb':Nd b:=hk b (by simp)
  have hc:Nd c:=hk c (by simp)
  have hab:=ha.bulk
  rw[he]
  exact⟨anV m s3 s25 e z a b c he,(aln a b c hb' hc).le (by omega)⟩
 ·obtain⟨a,b,rfl⟩:=sh2 hek
  have ha:Nd a:=hk a (by simp)
  have hb':Nd b:=hk b (by simp)
  have hab:=ha.bulk
  have hbb:=hb'.bulk
  rw[he]
  exact⟨anW m s3 s25 e z a b he,(aiV a b ha hb').le (by omega)⟩
 ·rw[he]
  exact⟨anX m s3 s25 e z ks (by have:=Jk ks;omega) he,(akM ks).le (by omega)⟩
 ·obtain⟨a,rfl⟩:=sh1 hek
  have ha:Nd a:=hk a (List.mem_cons_self ..)
  have hab:=ha.bulk
  rw[he]
  exact⟨anY m s3 s25 e z a he,(Ck 22 a).le (by omega)⟩
 ·obtain⟨a,rfl⟩:=sh1 hek
  have ha:Nd a:=hk a (List.mem_cons_self ..)
  have hab:=ha.bulk
  rw[he]
  exact⟨anZ m s3 s25 e z a he,(Ck 23 a).le (by omega)⟩
 ·obtain⟨a,rfl⟩:=sh1 hek
  have ha:Nd a:=hk a (List.mem_cons_self ..)
  have hab:=ha.bulk
  rw[he]
  exact⟨an0 m s3 s25 e z a he,(Ck 24 a).le (by omega)⟩
 ·obtain⟨a,b,c,rfl⟩:=sh3 hek
  have ha:Nd a:=hk a (by simp)
  have hb':Nd b:=hk b (by simp)
  have hc:Nd c:=hk c (by simp)
  have hab:=ha.bulk
  rw[he]
  exact⟨an1 m s3 s25 e z a b c he,(alm a b c).le (by omega)⟩
 ·obtain⟨a,rfl⟩:=sh1 hek
  have ha:Nd a:=hk a (List.mem_cons_self ..)
  have hab:=ha.bulk
  rw[he]
  exact⟨an2 m s3 s25 e z a (by have:=fI a 3;omega) he,(aiN a).le (by omega)⟩
 ·obtain⟨a,b,rfl⟩:=sh2 hek
  have ha:Nd a:=hk a (by simp)
  have hb':Nd b:=hk b (by simp)
  have hab:=ha.bulk
  have hbb:=hb'.bulk
  rw[he]
  exact⟨an6 m s3 s25 e z a b (by have:=fI a 3;omega) he,(aiR a b ha).le (by omega)⟩
 ·obtain⟨a,b,rfl⟩:=sh2 hek
  have ha:Nd a:=hk a (by simp)
  have hb':Nd b:=hk b (by simp)
  have hab:=ha.bulk
  have hbb:=hb'.bulk
  rw[he]
  exact⟨an7 m s3 s25 e z a b (fun x=>cmpD x a==0) (by have:=fI b 3;omega) (by have:=fI b 3;omega) (fun x hx=>anH x a m (by have:=nK hx;omega) (by have:=nK hx;omega)) he,(aiQ (fun x=>cmpD x a==0) b).le (by omega)⟩
 ·rw[he]
  exact⟨an5 m s3 s25 e z ks (by omega) (by omega) (by have:=Cm ks;have:=qw (zo ks);omega) he,(aiS ks fun e he=>(hk e he).wv).le (by omega)⟩
 ·obtain⟨a,rfl⟩:=sh1 hek
  have ha:Nd a:=hk a (List.mem_cons_self ..)
  have hab:=ha.bulk
  rw[he]
  exact⟨an3 m s3 s25 e z a (by have:=fI a 3;omega) (by have:=fI a 3;omega) he,(aiP a ha.wv).le (by omega)⟩
 ·obtain⟨a,rfl⟩:=sh1 hek
  have ha:Nd a:=hk a (List.mem_cons_self ..)
  have hab:=ha.bulk
  rw[he]
  exact⟨an4 m s3 s25 e z a (by have:=fI a 3;omega) (by have:=fI a 3;omega) he,(aiO a).le (by omega)⟩
 ·exact absurd he h32
 ·exact absurd he h33
 ·rw[he]
  exact⟨aob m s3 s25 e z ks (by omega) (by omega) (by have:=hnm he;omega) he,(aiU (Dt.L e 3) ks fun e he=>(hk e he).wv).le (by have:=ED e 3;have:=fI e 3;omega)⟩
 ·rw[he]
  exact⟨aoa m s3 s25 e z ks (by omega) (by omega) he,(UF ks fun e he=>(hk e he).wv).le (by omega)⟩
 ·obtain⟨a,rfl⟩:=sh1 hek
  have ha:Nd a:=hk a (List.mem_cons_self ..)
  have hab:=ha.bulk
  rw[he]
  exact⟨an8 m s3 s25 e z a he,(zk 3 (Dt.I a 0) (by omega)).le (by omega)⟩
 ·rw[he]
  exact⟨an9 m s3 s25 e z ks _ (ai4 ks hk (by omega) (m+3) (by omega) (by omega)) he,(aei ks ai3 hk).le (by have:(sU []).bulk=6:=rfl;omega)⟩
theorem opR:∃c,ak (m+6) e ks=some c∧Rs c 1900000000∧nm1 c=nm1 (opS (Dt.I e 0) e ks (mgS ks)):=by
 obtain⟨g1,g37,hek,hnm,_⟩:=BL hn
 rw[←hl] at hek hnm
 have hB:=uE ks hk
 rcases yY g1 g37 with he|he|he|he|he|he|he|he|he|he|he|he|he|he|he|he|he|he|he|he|he|he|he|he|he|he|he|he|he|he|he|he|he|he|he|he|he
 all_goals rw[he] at hek
 ·exact absurd he h1
 ·exact absurd he h2
 ·exact absurd he h3
 ·rw[he]
  exact⟨_,aqI m e ks (by omega) (by omega) he,(yu 4 ks).le (by omega),rfl⟩
 ·obtain⟨a,b,rfl⟩:=sh2 hek
  have ha:Nd a:=hk a (by simp)
  have hb':Nd b:=hk b (by simp)
  have hab:=ha.bulk
  have hbb:=hb'.bulk
  rw[he]
  exact⟨_,aqK m e a b he,(yu 5 [a,b]).le (by omega),rfl⟩
 ·rw[he]
  exact⟨_,aqJ m e ks (by omega) (by omega) he,(yu 6 ks).le (by omega),rfl⟩
 ·obtain⟨a,b,rfl⟩:=sh2 hek
  have ha:Nd a:=hk a (by simp)
  have hb':Nd b:=hk b (by simp)
  have hab:=ha.bulk
  have hbb:=hb'.bulk
  rw[he]
  exact⟨_,aqL m e a b he,(yu 7 [a,b]).le (by omega),rfl⟩
 ·obtain⟨a,b,rfl⟩:=sh2 hek
  have ha:Nd a:=hk a (by simp)
  have hb':Nd b:=hk b (by simp)
  have hab:=ha.bulk
  have hbb:=hb'.bulk
  rw[he]
  exact⟨_,aqM m e a b he,(yu 8 [a,b]).le (by omega),rfl⟩
 ·obtain⟨a,b,rfl⟩:=sh2 hek
  have ha:Nd a:=hk a (by simp)
  have hb':Nd b:=hk b (by simp)
  have hab:=ha.bulk
  have hbb:=hb'.bulk
  rw[he]
  exact⟨_,aqN m e a b _ (xY a b (m+1) (by omega) (by omega)) he,(qQ 9 (cmpD a b)).le (by omega),rfl⟩
 ·obtain⟨a,b,rfl⟩:=sh2 hek
  have ha:Nd a:=hk a (by simp)
  have hb':Nd b:=hk b (by simp)
  have hab:=ha.bulk
  have hbb:=hb'.bulk
  rw[he]
  exact⟨_,aoc m e a b _ (xY a b (m+1) (by omega) (by omega)) he,(qQ 10 (cmpD a b)).le (by omega),rfl⟩
 ·obtain⟨a,b,rfl⟩:=sh2 hek
  have ha:Nd a:=hk a (by simp)
  have hb':Nd b:=hk b (by simp)
  have hab:=ha.bulk
  have hbb:=hb'.bulk
  rw[he]
  exact⟨_,aod m e a b _ (xY a b (m+1) (by omega) (by omega)) he,(qQ 11 (cmpD a b)).le (by omega),rfl⟩
 ·obtain⟨a,b,rfl⟩:=sh2 hek
  have ha:Nd a:=hk a (by simp)
  have hb':Nd b:=hk b (by simp)
  have hab:=ha.bulk
  have hbb:=hb'.bulk
  rw[he]
  exact⟨_,aoe m e a b _ (xY a b (m+1) (by omega) (by omega)) he,(qQ 12 (cmpD a b)).le (by omega),rfl⟩
 ·obtain⟨a,b,rfl⟩:=sh2 hek
  have ha:Nd a:=hk a (by simp)
  have hb':Nd b:=hk b (by simp)
  have hab:=ha.bulk
  have hbb:=hb'.bulk
  rw[he]
  exact⟨_,aof m e a b _ (xY a b (m+1) (by omega) (by omega)) he,(qQ 13 (cmpD a b)).le (by omega),rfl⟩
 ·obtain⟨a,b,rfl⟩:=sh2 hek
  have ha:Nd a:=hk a (by simp)
  have hb':Nd b:=hk b (by simp)
  have hab:=ha.bulk
  have hbb:=hb'.bulk
  rw[he]
  exact⟨_,aog m e a b _ (xY a b (m+1) (by omega) (by omega)) he,(qQ 14 (cmpD a b)).le (by omega),rfl⟩
 ·obtain⟨a,b,rfl⟩:=sh2 hek
  have ha:Nd a:=hk a (by simp)
  have hb':Nd b:=hk b (by simp)
  have hab:=ha.bulk
  have hbb:=hb'.bulk
  rw[he]
  exact⟨_,aoh m e a b _ (xY a b (m+1) (by omega) (by omega)) he,(qQ 15 (cmpD a b)).le (by omega),rfl⟩
 ·rw[he]
  exact⟨_,aoi m e ks (by omega) (by omega) (fun d hd=>(hk d hd).rs.k0) he,(acJ 16 ks).le (by omega),rfl⟩
 ·rw[he]
  exact⟨_,aoj m e ks (by omega) (by omega) (fun d hd=>(hk d hd).rs.k0) he,(acJ 17 ks).le (by omega),rfl⟩
 ·obtain⟨a,rfl⟩:=sh1 hek
  have ha:Nd a:=hk a (List.mem_cons_self ..)
  have hab:=ha.bulk
  rw[he]
  exact⟨_,aok m e a ha.rs.k0 he,(BK (!trB a)).le (by omega),rfl⟩
 ·obtain⟨a,b,c,rfl⟩:=sh3 hek
  have ha:Nd a:=hk a (by simp)
  have hb':Nd b:=hk b (by simp)
  have hc:Nd c:=hk c (by simp)
  have hab:=ha.bulk
  rw[he]
  exact⟨_,aol m e a b c ha.rs.k0 he,(aln a b c hb' hc).le (by omega),rfl⟩
 ·obtain⟨a,b,rfl⟩:=sh2 hek
  have ha:Nd a:=hk a (by simp)
  have hb':Nd b:=hk b (by simp)
  have hab:=ha.bulk
  have hbb:=hb'.bulk
  rw[he]
  exact⟨_,aom m e a b he,(aiV a b ha hb').le (by omega),rfl⟩
 ·rw[he]
  exact⟨Ye ks,aon m e ks (by omega) (by omega) (fun d hd=>by have:=tZ d 2;have:=(hk d hd).bulk;omega) he,(akN ks).le (by omega),(akL ks).symm⟩
 ·obtain⟨a,rfl⟩:=sh1 hek
  have ha:Nd a:=hk a (List.mem_cons_self ..)
  have hab:=ha.bulk
  rw[he]
  exact⟨_,aoo m e a (by have:=tZ a 2;omega) (by have:=tZ a 2;omega) he,(Ck 22 a).le (by omega),rfl⟩
 ·obtain⟨a,rfl⟩:=sh1 hek
  have ha:Nd a:=hk a (List.mem_cons_self ..)
  have hab:=ha.bulk
  rw[he]
  exact⟨_,aop m e a (by have:=tZ a 2;omega) (by have:=tZ a 2;omega) he,(Ck 23 a).le (by omega),rfl⟩
 ·obtain⟨a,rfl⟩:=sh1 hek
  have ha:Nd a:=hk a (List.mem_cons_self ..)
  have hab:=ha.bulk
  rw[he]
  exact⟨_,aoq m e a he,(Ck 24 a).le (by omega),rfl⟩
 ·obtain⟨a,b,c,rfl⟩:=sh3 hek
  have ha:Nd a:=hk a (by simp)
  have hb':Nd b:=hk b (by simp)
  have hc:Nd c:=hk c (by simp)
  have hab:=ha.bulk
  rw[he]
  exact⟨_,aor m e a b c (by have:=tZ a 2;omega) he,(alm a b c).le (by omega),rfl⟩
 ·obtain⟨a,rfl⟩:=sh1 hek
  have ha:Nd a:=hk a (List.mem_cons_self ..)
  have hab:=ha.bulk
  rw[he]
  exact⟨_,aos m e a (by have:=fI a 3;omega) (by have:=fI a 3;omega) he,(aiN a).le (by omega),rfl⟩
 ·obtain⟨a,b,rfl⟩:=sh2 hek
  have ha:Nd a:=hk a (by simp)
  have hb':Nd b:=hk b (by simp)
  have hab:=ha.bulk
  have hbb:=hb'.bulk
  rw[he]
  exact⟨_,aov m e a b he,(aiR a b ha).le (by omega),rfl⟩
 ·obtain⟨a,b,rfl⟩:=sh2 hek
  have ha:Nd a:=hk a (by simp)
  have hb':Nd b:=hk b (by simp)
  have hab:=ha.bulk
  have hbb:=hb'.bulk
  rw[he]
  exact⟨_,aow m e a b (fun x=>cmpD x a==0) (by have:=fI b 3;omega) (by have:=fI b 3;omega) (fun x hx=>anI x a m (by have:=nK hx;omega) (by omega)) he,(aiQ (fun x=>cmpD x a==0) b).le (by omega),rfl⟩
 ·rw[he]
  exact⟨_,aox m e ks (by omega) (by omega) (by have:=Cm ks;have:=qw (zo ks);omega) he,(aiS ks fun e he=>(hk e he).wv).le (by omega),rfl⟩
 ·obtain⟨a,rfl⟩:=sh1 hek
  have ha:Nd a:=hk a (List.mem_cons_self ..)
  have hab:=ha.bulk
  rw[he]
  exact⟨_,aot m e a (by have:=fI a 3;omega) (by have:=fI a 3;omega) he,(aiP a ha.wv).le (by omega),rfl⟩
 ·obtain⟨a,rfl⟩:=sh1 hek
  have ha:Nd a:=hk a (List.mem_cons_self ..)
  have hab:=ha.bulk
  rw[he]
  exact⟨_,aou m e a (by have:=fI a 3;omega) (by have:=fI a 3;omega) he,(aiO a).le (by omega),rfl⟩
 ·exact absurd he h32
 ·exact absurd he h33
 ·rw[he]
  exact⟨_,aoB m e ks (by omega) (by omega) (by have:=hnm he;omega) he,(aiU (Dt.L e 3) ks fun e he=>(hk e he).wv).le (by have:=ED e 3;have:=fI e 3;omega),rfl⟩
 ·rw[he]
  exact⟨_,aoA m e ks (by omega) (by omega) he,(UF ks fun e he=>(hk e he).wv).le (by omega),rfl⟩
 ·obtain⟨a,rfl⟩:=sh1 hek
  have ha:Nd a:=hk a (List.mem_cons_self ..)
  have hab:=ha.bulk
  rw[he]
  exact⟨_,aoy m e a he,(zk 3 (Dt.I a 0) (by omega)).le (by omega),rfl⟩
 ·rw[he]
  exact⟨mgR (sU []) ks,aoz m e ks _ (ai5 ks hk (by omega) (m+3) (by omega) (by omega)) he,(aeh ks ai3 hk).le (by have:(sU []).bulk=6:=rfl;omega),(aat ks hk).symm⟩
end
end Go.Proofs.YtmecfjhdnbgfeaaGreatDoor
