/- Valid values are small.
expr:a node's value is missing,valid or null.
expr:values at paths are well-formed,no bigger,and missing only as the zero value.
expr:the results of the operators are well-formed and of bounded size.
expr:the results of the operators on lists and of collections.
expr:joined strings:the program's and the reference's agree as values of a node;documents.
expr:the value of an expression,in plain Lean. -/
import Derived.Test.YtmecfjhdnbgfeaaGreatDoorMC
import Derived.Test.YtmecfjhdnbgfeaaGreatDoorEB
import Derived.Test.YtmecfjhdnbgfeaaGreatDoorMD
set_option linter.unusedVariables false
set_option linter.unusedSimpArgs false
namespace Go.Proofs.YtmecfjhdnbgfeaaGreatDoor
open Go.Am
theorem RG {l:List Dt} {c:Nat} {f:Dt→Nat} (h:∀e∈l,e.bulk≤c*f e):Dt.bulkL l≤c*(l.map f).sum:=by
 induction l with
 |nil=>simp[Dt.bulkL]
 |cons a r ih=>
  have h1:=h a (List.mem_cons_self ..)
  have h2:=ih fun e he=>h e (List.mem_cons_of_mem _ he)
  rw[Dt.bulkL,List.map_cons,List.sum_cons,Nat.mul_add]
  omega
theorem aai {p:ByteArray→Bool} {self:Dt→Bool}:∀{l:List Dt} {seen:List ByteArray},fl p self seen l=true→∀f∈l,p (Dt.S f 0)=true∧self (Dt.fld f 1)=true
 |f::r,seen,h,g,hg=>by
  rw[fl] at h
  simp only[Bool.and_eq_true] at h
  rcases List.mem_cons.1 hg with rfl|hg
  ·exact⟨h.1.1.1,h.1.2⟩
  ·exact aai h.2 g hg
theorem akI {s:ByteArray} (h:nm s=true):s.size≤32:=by
 by_cases hs:32<s.size
 ·rw[KD s hs] at h;cases h
 ·omega
theorem xD {d:Dt} (h:WV d):d.bulk=6+(Dt.S d 2).size+Dt.bulkL (Dt.L d 3)+Dt.bulkL (Dt.L d 4):=by
 cases h with
 | @mk k i t l ds hl hd=>
   show Dt.bulk (.agg [.int k,.int i,.str t,.lst l,.lst ds])=6+t.size+Dt.bulkL l+Dt.bulkL ds
   simp only[Dt.bulk,Dt.bulkL]
   omega
theorem Cj {f:Dt} (h:WF f):f.bulk=2+(Dt.S f 0).size+(Dt.fld f 1).bulk∧WV (Dt.fld f 1):=by
 cases h with
 | @mk s v hv=>
   refine⟨?_,hv⟩
   show Dt.bulk (.agg [.str s,v])=2+s.size+v.bulk
   simp only[Dt.bulk,Dt.bulkL]
   omega
theorem vX {d:Dt} (h:WV d):(∀e∈Dt.L d 3,WV e)∧∀f∈Dt.L d 4,WF f:=by
 cases h with
 |mk hl hd=>exact⟨hl,hd⟩
theorem Gn {s:ByteArray} (h:(s.toList==[])=true):s.size=0:=by
 have h1:s.toList=[]:=by simpa using h
 rw[ByteArray.toList_eq] at h1
 rw[←GR,h1]
 rfl
theorem Gp {l:List Dt} (h:(!(decide ((0:Int)<(l.length:Int))))=true):l=[]:=by
 cases l with
 |nil=>rfl
 |cons a r=>simp at h
theorem Ot:∀(n:Nat) (d:Dt),WV d→sndF nm n d=true→d.bulk+40≤4200*nds d
 |0,d,_,h=>by cases h
 |n+    1,d,hw,h=>by
  obtain⟨wl,wd⟩:=vX hw
  rw[DT hw,xD hw]
  rw[sndF,Bool.and_eq_true] at h
  obtain⟨hs,h⟩:=h
  rw[shp] at hs
  simp only[Bool.and_eq_true] at hs
  obtain⟨⟨⟨_,h2⟩,h3⟩,h4⟩:=hs
  by_cases k6:Dt.I d 0=6
  ·rw[k6] at h h2 h4
   have e2:(Dt.S d 2).size=0:=Gn (by simpa using h2)
   have e4:Dt.L d 4=[]:=Gp (by simpa using h4)
   have ha:∀e∈Dt.L d 3,sndF nm n e=true:=by
        have:(Dt.L d 3).all (sndF nm n)=true:=h
        exact List.all_eq_true.1 this
   have hb:=RG (l:=Dt.L d 3) (c:=4200) (f:=nds) fun e he=>by have:=Ot n e (wl e he) (ha e he);omega
   have hp:qx d=Dt.L d 3:=by rw[qx,k6];rfl
   rw[hp,e4,e2]
   simp only[Dt.bulkL]
   omega
  ·have e3  :  Dt.L d 3=[]:=Gp (by simpa [k6] using h3)
   by_cases k5:Dt.I d 0=5
   ·    rw[k5] at h h2
        have e2:(Dt.S d 2).size=0:=Gn (by simpa using h2)
        have hf:∀f∈Dt.L d 4,nm (Dt.S f 0)=true∧sndF nm n (Dt.fld f 1)=true:=by
         have:fl nm (sndF nm n) [] (Dt.L d 4)=true:=h
         exact aai this
        have hb:=RG (l:=Dt.L d 4) (c:=4200) (f:=fun f=>nds (Dt.fld f 1)) fun f hf'=>by
         have h1:=Cj (wd f hf')
         have h2:=hf f hf'
         have h3:=Ot n _ h1.2 h2.2
         have h4:=akI h2.1
         rw[h1.1]
         omega
        have hp:qx d=(Dt.L d 4).map (·.fld 1):=by rw[qx,k5];rfl
        rw[hp,e3,e2,List.map_map]
        simp only[Dt.bulkL]
        have:(List.map (nds∘fun x=>x.fld 1) (Dt.L d 4)).sum=((Dt.L d 4).map fun f=>nds (Dt.fld f 1)).sum:=rfl
        rw[this]
        omega
   ·    have e4:Dt.L d 4=[]:=Gp (by simpa [k5] using h4)
        have e2:(Dt.S d 2).size≤4096:=by
         by_cases k4:Dt.I d 0=4
         ·rw[k4] at h
          have:(decide (((Dt.S d 2).size:Int)≤4096)&&Lib.validD (Dt.S d 2).data.toList)=true:=h
          simp only[Bool.and_eq_true,decide_eq_true_eq] at this
          omega
         ·by_cases k7:Dt.I d 0=7
          · rw[k7] at h
            have:decide (((Dt.S d 2).size:Int)≤4096)=true:=h
            simp only[decide_eq_true_eq] at this
            omega
          · by_cases k8:Dt.I d 0=8
            ·  rw[k8] at h
               have:(((Dt.S d 2).size:Int)==12)=true:=h
               have:((Dt.S d 2).size:Int)=12:=by simpa using this
               omega
            ·  rw[Gn (by simpa [k4,k7,k8] using h2)]
               omega
        rw[e3,e4]
        simp only[Dt.bulkL]
        omega
theorem akJ {d:Dt} (hw:WV d) (h:okV d=true):d.bulk≤4300800:=by
 rw[okV] at h
 simp only[Bool.and_eq_true,decide_eq_true_eq] at h
 have:=Ot _ d hw h.2
 omega
end Go.Proofs.YtmecfjhdnbgfeaaGreatDoor
namespace Go.Proofs.YtmecfjhdnbgfeaaGreatDoor
open Go.Am
def nm1 (c:Dt):Dt:=bif Dt.I c 0==0 then kza2373 else bif okV c then c else kV 2 0
theorem akK (m:Nat) (e doc vs c:Dt) (hc:dG (m+3) e doc vs=some c) (hw:WV c) (hm:3*c.bulk+300≤m) (hb:c.bulk≤100000000000):expr_eval (m+4) e doc vs=some (nm1 c):=by
 rw[expr_eval,hc,Option.bind_some,nm1]
 cases (Dt.I c 0==0)
 ·rw[cond_false,cond_false,Rz hw m hm hb,Option.bind_some]
  cases okV c<;>rfl
 ·rfl
theorem aiL (m:Nat) (s6 s16:Dt→Dt→List Dt→Option Dt) (z c:Dt) (hw:WV c) (h0:Dt.I c 0=0→c=kza2373) (hm:2*c.bulk+300≤m) (hm2:m<9223372036854775000) (hb:c.bulk≤100000000000):dN (m+4) s6 s16 z c=some (nm1 c):=by
 rw[dN,nm1]
 cases hk:(Dt.I c 0==0)
 ·rw[show (Dt.I c 0 !=0)=true by rw[bne,hk];rfl,cond_true,cond_false,Cc hw m hm hm2 hb,Option.bind_some]
  cases okV c<;>rfl
 ·have e0:c=kza2373:=h0 (by simpa using hk)
  rw[show (Dt.I c 0 !=0)=false by rw[bne,hk];rfl,cond_false,cond_true,←e0]
  rfl
def Nd (d:Dt):Prop:=d=kza2373∨(WV d∧okV d=true)
theorem X3:WV kza2373:= .mk (fun _ h=>by cases h) fun _ h=>by cases h
theorem X4 (k n:Int):WV (kV k n):= .mk (fun _ h=>by cases h) fun _ h=>by cases h
theorem acG:okV (kV 2 0)=true:=by
 have hp:qx (kV 2 0)=[]:=rfl
 have h1:nds (kV 2 0)=1:=by rw[DT (X4 2 0),hp];rfl
 have h2:dpt (kV 2 0)=1:=by rw[aac (X4 2 0),hp];rfl
 have e:(Dt.S (kV 2 0) 2).toList=[]:=by rw[ByteArray.toList_eq];rfl
 have h3:sndF nm (kV 2 0).bulk (kV 2 0)=true:=by
  rw[show (kV 2 0).bulk=5+1 by decide,sndF,shp,e]
  rfl
 rw[okV,h1,h2,h3]
 rfl
theorem anA {c:Dt} (hw:WV c):Nd (nm1 c):=by
 rw[nm1]
 cases Dt.I c 0==0
 ·rw[cond_false]
  cases h:okV c
  ·exact .inr ⟨X4 2 0,acG⟩
  ·exact .inr ⟨hw,h⟩
 ·exact .inl rfl
theorem Nd.wv {d:Dt} (h:Nd d):WV d:=by
 rcases h with rfl|h
 ·exact X3
 ·exact h.1
theorem Nd.bulk {d:Dt} (h:Nd d):d.bulk≤4300800:=by
 rcases h with rfl|h
 ·decide
 ·exact akJ h.1 h.2
end Go.Proofs.YtmecfjhdnbgfeaaGreatDoor
namespace Go.Proofs.YtmecfjhdnbgfeaaGreatDoor
open Go.Am
theorem acH {l:List Dt} (h:∀e∈l,WV e):WV (uz l):= .mk h fun _ h=>by cases h
theorem RH (l:List Dt):(uz l).bulk=6+Dt.bulkL l:=by
 show Dt.bulk (.agg [.int 6,.int 0,.str (ByteArray.mk (List.toArray [])),.lst l,.lst []])=_
 simp only[Dt.bulk,Dt.bulkL]
 show 1+(1+(0+1+(Dt.bulkL l+1+(0+1+0))))+1=_
 omega
theorem rV {g:Dt→Dt} {q:Dt→Bool}:∀{l:List Dt},(∀e∈l,(g e).bulk≤e.bulk)→Dt.bulkL ((l.map g).filter q)≤Dt.bulkL l
 | [],_=>Nat.le_refl _
 |a::l,h=>by
  have h1:=h a (List.mem_cons_self ..)
  have h2:=rV (q:=q) (l:=l) fun e he=>h e (List.mem_cons_of_mem _ he)
  rw[List.map_cons,List.filter_cons]
  split
  ·rw[Dt.bulkL,Dt.bulkL];omega
  ·rw[Dt.bulkL];omega
theorem Ou:∀(n:Nat) (v:Dt) (p:List Dt),WV v→WV (atN n v p)∧(atN n v p).bulk≤v.bulk
 |0,v,p,h=>⟨X3,by have:=xD h;rw[show atN 0 v p=kza2373 from rfl,show kza2373.bulk=6 by decide];omega⟩
 |n+1,v,[],h=>⟨h,Nat.le_refl _⟩
 |n+    1,v,s::r,h=>by
  have hz:WV kza2373∧kza2373.bulk≤v.bulk:=⟨X3,by have:=xD h;rw[show kza2373.bulk=6 by decide];omega⟩
  obtain⟨wl,wd⟩:=vX h
  rw[atN]
  cases Dt.I v 0==5
  ·rw[   cond_false]
   cases Dt.I v 0==6
   ·exact hz
   ·    rw[cond_true]
        refine⟨acH fun e he=>?_,?_⟩
        ·obtain⟨x,hx,rfl⟩:=List.mem_map.1 (List.mem_filter.1 he).1
         exact(Ou n x (s::r) (wl x hx)).1
        ·rw[RH,xD h]
         have:=rV (g:=fun e=>atN n e (s::r)) (q:=nnB) (l:=Dt.L v 3) fun e he=>(Ou n e (s::r) (wl e he)).2
         omega
  ·rw[cond_true]
   cases hf:fnd (Dt.toStr s) (Dt.L v 4) with
   |none=>exact hz
   |    some x=>
        obtain⟨f,h1,h2⟩:=KO hf
        have hx:WV x:=by rw[h2];exact(Cj (wd f h1)).2
        exact⟨(Ou n x r hx).1,Nat.le_trans (Ou n x r hx).2 (Nat.le_of_lt (XA hf))⟩
theorem Ov {n:Nat} {d:Dt} (h:sndF nm n d=true):1≤Dt.I d 0:=by
 cases n with
 |zero=>cases h
 |succ n=>
  rw[sndF,Bool.and_eq_true] at h
  have h:=h.2
  by_cases hk:1≤Dt.I d 0∧Dt.I d 0≤11
  ·exact hk.1
  ·have ne:∀k:Int,1≤k→k≤11→(Dt.I d 0==k)=false:=fun k h1 h2=>by rw[beq_eq_false_iff_ne];omega
   rw[ne 9 (by omega) (by omega),ne 10 (by omega) (by omega),ne 4 (by omega) (by omega),ne 7 (by omega) (by omega),ne 8 (by omega) (by omega),ne 6 (by omega) (by omega),ne 5 (by omega) (by omega)] at h
   simp only[cond_false,Bool.and_eq_true,decide_eq_true_eq] at h
   omega
theorem alk:∀(n:Nat) (v:Dt) (p:List Dt) (k:Nat),sndF nm k v=true→atN n v p=kza2373∨1≤Dt.I (atN n v p) 0
 |0,_,_,_,_=> .inl rfl
 |n+1,v,[],k,h=> .inr (Ov h)
 |n+1,v,s::r,0,h=>by cases h
 |n+    1,v,s::r,k+1,h=>by
  rw[atN]
  cases h5:Dt.I v 0==5
  ·rw[cond_false]
   cases Dt.I v 0==6
   ·exact .inl rfl
   ·exact .inr (by rw[cond_true];show (1:Int)≤6;omega)
  ·rw[cond_true]
   cases hf:fnd (Dt.toStr s) (Dt.L v 4) with
   |none=>exact .inl rfl
   |    some x=>
        obtain⟨f,h1,rfl⟩:=KO hf
        have e5:Dt.I v 0=5:=by simpa using h5
        rw[sndF,Bool.and_eq_true,e5] at h
        have hfl:fl nm (sndF nm k) [] (Dt.L v 4)=true:=h.2
        exact alk n _ r k (aai hfl f h1).2
end Go.Proofs.YtmecfjhdnbgfeaaGreatDoor
namespace Go.Proofs.YtmecfjhdnbgfeaaGreatDoor
open Go.Am
structure Rs (c:Dt) (B:Nat):Prop where
 wv:WV c
 bk:c.bulk≤B
 nz:c=kza2373∨1≤Dt.I c 0
theorem Rs.le {c:Dt} {B B':Nat} (h:Rs c B) (hB:B≤B'):Rs c B':=⟨h.wv,Nat.le_trans h.bk hB,h.nz⟩
theorem Rs.k0 {c:Dt} {B:Nat} (h:Rs c B):0≤Dt.I c 0:=by
 rcases h.nz with rfl|h
 ·show (0:Int)≤0;omega
 ·omega
theorem dI {b:Bool} {x y:Dt} {B:Nat} (hx:Rs x B) (hy:Rs y B):Rs (bif b then x else y) B:=by cases b<;>assumption
theorem acI (k n:Int):(kV k n).bulk=6:=rfl
theorem zk (k n:Int) (h:1≤k):Rs (kV k n) 6:=⟨X4 k n,Nat.le_of_eq (acI k n),.inr h⟩
theorem UD:Rs kza2373 6:=⟨X3,by decide,.inl rfl⟩
theorem BK (b:Bool):Rs (bV b) 6:=zk 9 _ (by omega)
theorem jU:Rs (kV 2 0) 6:=zk 2 0 (by omega)
theorem Nd.rs {d:Dt} (h:Nd d):Rs d d.bulk:=by
 rcases h with rfl| ⟨h1,h2⟩
 ·exact⟨X3,Nat.le_refl _,.inl rfl⟩
 ·rw[okV] at h2
  simp only[Bool.and_eq_true] at h2
  exact⟨h1,Nat.le_refl _,.inr (Ov h2.2)⟩
theorem yu (op:Int) (l:List Dt):Rs (Bv op l) 6:=by
 unfold Bv
 exact dI (dI (zk 3 _ (by omega)) (dI (zk 3 _ (by omega)) (dI (zk 3 _ (by omega)) (dI jU (dI (zk 3 _ (by omega)) (zk 3 _ (by omega))))))) jU
theorem qQ (op c:Int):Rs (yj op c) 6:=by
 unfold yj
 exact dI (BK _) (dI (BK _) (dI (BK _) (dI (BK _) (dI (BK _) (dI (BK _) (zk 3 _ (by omega)))))))
theorem acJ (op:Int) (l:List Dt):Rs (aoS op l) 6:=dI (BK _) (BK _)
theorem acK (s:ByteArray):WV (y8 s):= .mk (fun _ h=>by cases h) fun _ h=>by cases h
theorem RI (s:ByteArray):(y8 s).bulk=6+s.size:=by
 rw[xD (acK s)]
 rfl
theorem Ow {s:ByteArray} {B:Nat} (h:6+s.size≤B):Rs (y8 s) B:=⟨acK s,by rw[RI];exact h,.inr (by show (1:Int)≤4;omega)⟩
theorem Ck (op:Int) (a:Dt):Rs (Gj op a) (a.bulk+6):=by
 have h:=tZ a 2
 unfold Gj
 exact dI (dI (Ow (by rw[NT];omega)) (dI (Ow (by rw[NT];omega)) ((zk 3 _ (by omega)).le (by omega)))) (jU.le (by omega))
theorem aiM (s:ByteArray) (a n:Int):(Z7 s a n).size≤s.size:=by
 rw[Z7,ByteArray.size_extract]
 omega
theorem alm (a b c:Dt):Rs (slS a b c) (a.bulk+6):=by
 have h:=tZ a 2
 have:=aiM (Dt.S a 2) (Dt.I b 1) (Dt.I c 1)
 unfold slS
 exact dI (Ow (by omega)) (jU.le (by omega))
theorem UE {l:List Dt} {B:Nat} (h:∀e∈l,WV e) (hB:6+Dt.bulkL l≤B):Rs (uz l) B:=⟨acH h,by rw[RH];exact hB,.inr (by show (1:Int)≤6;omega)⟩
theorem ad3 (l:List Dt):Dt.bulkL l.reverse=Dt.bulkL l:=by
 have app:∀a b:List Dt,Dt.bulkL (a++b)=Dt.bulkL a+Dt.bulkL b:=fun a b=>by
  induction a with
  |nil=>simp[Dt.bulkL]
  |cons x a ih=>rw[List.cons_append,Dt.bulkL,Dt.bulkL,ih];omega
 induction l with
 |nil=>rfl
 |cons a l ih=>rw[List.reverse_cons,app,ih];simp only[Dt.bulkL];omega
theorem aiN (a:Dt):Rs (U4 a) 6:=dI (zk 3 _ (by omega)) jU
theorem aiO (a:Dt):Rs (U6 a) 6:=dI (zk 3 _ (by omega)) jU
theorem aiP (a:Dt) (hw:WV a):Rs (U5 a) (a.bulk+6):=by
 have:=ED a 3
 exact dI (UE (fun e he=>(vX hw).1 e (List.mem_reverse.1 he)) (by rw[ad3];omega)) (jU.le (by omega))
theorem aiQ (q:Dt→Bool) (l:Dt):Rs (Yd q l) 6:=dI (BK _) jU
end Go.Proofs.YtmecfjhdnbgfeaaGreatDoor
namespace Go.Proofs.YtmecfjhdnbgfeaaGreatDoor
open Go.Am
theorem X5 {n:Nat} {a:Dt} (hw:WV a) (h:sndF nm n a=true):∀e∈Dt.L a 3,WV e∧∃k,sndF nm k e=true:=by
 intro e he
 refine⟨(vX hw).1 e he,?_⟩
 cases n with
 |zero=>cases h
 |succ n=>
  rw[sndF,Bool.and_eq_true] at h
  obtain⟨hs,h⟩:=h
  by_cases k6:Dt.I a 0=6
  ·rw[k6] at h
   have:(Dt.L a 3).all (sndF nm n)=true:=h
   exact⟨n,List.all_eq_true.1 this e he⟩
  ·rw[shp] at hs
   simp only[Bool.and_eq_true] at hs
   have e3:Dt.L a 3=[]:=Gp (by simpa [k6] using hs.1.2)
   rw[e3] at he
   cases he
theorem Nd.elem {a:Dt} (h:Nd a):∀e∈Dt.L a 3,Rs e e.bulk:=by
 rcases h with rfl| ⟨h1,h2⟩
 ·intro e he;cases he
 ·rw[okV] at h2
  simp only[Bool.and_eq_true] at h2
  intro e he
  obtain⟨hw,k,hk⟩:=X5 h1 h2.2 e he
  exact⟨hw,Nat.le_refl _,.inr (Ov hk)⟩
theorem anB (l:List Dt) (i:Dt) (B:Nat) (h:∀e∈l,Rs e B) (hB:6≤B):Rs (U2 l i) B:=by
 unfold U2
 refine dI (dI (UD.le hB) ?_) (jU.le hB)
 rw[List.getD_eq_getElem?_getD]
 cases hg:l[(bif decide (Dt.I i 1<0) then w64 (Dt.I i 1+(l.length:Int)) else Dt.I i 1).toNat]? with
 |none=>exact UD.le hB
 |some x=>exact h x (List.mem_of_getElem? hg)
theorem aiR (a i:Dt) (h:Nd a):Rs (U8 a i) (a.bulk+6):=by
 refine dI (anB _ _ _ (fun e he=>?_) (by omega)) (jU.le (by omega))
 have:=nK he
 exact(h.elem e he).le (by omega)
theorem RJ (a b:List Dt):Dt.bulkL (a++b)=Dt.bulkL a+Dt.bulkL b:=by
 induction a with
 |nil=>simp[Dt.bulkL]
 |cons x a ih=>rw[List.cons_append,Dt.bulkL,Dt.bulkL,ih];omega
theorem Cm:∀l:List Dt,Dt.bulkL (zo l)≤Dt.bulkL l
 | []=>Nat.le_refl _
 |a::l=>by
  have:=ED a 3
  have:=Cm l
  rw[uF,RJ,Dt.bulkL]
  omega
theorem aiS (l:List Dt) (h:∀e∈l,WV e):Rs (U7 l) (Dt.bulkL l+6):=by
 have:=Cm l
 refine dI (UE (fun e he=>?_) (by omega)) (jU.le (by omega))
 obtain⟨a,h1,h2⟩:=List.mem_flatMap.1 he
 exact(vX (h a h1)).1 e h2
theorem anC {d:Dt} (h:WV d):WV (orN d):=by
 unfold orN
 cases (Dt.I d 0==0)
 ·exact h
 ·exact X4 2 0
theorem aiT {d:Dt} (h:WV d):(orN d).bulk≤d.bulk:=by
 have:=xD h
 unfold orN
 cases (Dt.I d 0==0)
 ·exact Nat.le_refl _
 ·rw[cond_true,acI];omega
theorem acL:∀{l:List Dt},(∀e∈l,WV e)→(∀e∈l.map orN,WV e)∧Dt.bulkL (l.map orN)≤Dt.bulkL l
 | [],_=>⟨(fun _ h=>by cases h),Nat.le_refl _⟩
 |a::l,h=>by
  have h1:=h a (List.mem_cons_self ..)
  obtain⟨h2,h3⟩:=acL (l:=l) fun e he=>h e (List.mem_cons_of_mem _ he)
  have:=aiT h1
  refine⟨fun e he=>?_,by rw[List.map_cons,Dt.bulkL,Dt.bulkL];omega⟩
  rcases List.mem_cons.1 he with rfl|he
  ·exact anC h1
  ·exact h2 e he
theorem UF (l:List Dt) (h:∀e∈l,WV e):Rs (uz (l.map orN)) (Dt.bulkL l+6):=by
 obtain⟨h1,h2⟩:=acL h
 exact UE h1 (by omega)
theorem acM:∀(ns ks:List Dt),(∀e∈ks,WV e)→(∀f∈Al ns ks,WF f)∧Dt.bulkL (Al ns ks)≤2*Dt.bulkL ns+2*ns.length+Dt.bulkL ks
 | [],ks,_=>⟨(fun _ h=>by cases h),by show 0≤_;omega⟩
 |n::ns,[],_=>⟨(fun _ h=>by cases h),by show 0≤_;omega⟩
 |n::ns,k::ks,h=>by
  have hk:=h k (List.mem_cons_self ..)
  obtain⟨h1,h2⟩:=acM ns ks fun e he=>h e (List.mem_cons_of_mem _ he)
  have hs:(Dt.toStr n).size≤n.bulk:=by
   cases n with
   |str s=>show s.size≤s.size+1;omega
   |_=>exact Nat.zero_le _
  rw[Al]
  cases nnB k
  ·rw[cond_false]
   refine⟨h1,?_⟩
   simp only[Dt.bulkL,List.length_cons]
   omega
  ·rw[cond_true]
   refine⟨fun f hf=>?_,?_⟩
   ·    rcases List.mem_cons.1 hf with rfl|hf
        ·exact .mk hk
        ·exact h1 f hf
   ·    simp only[Dt.bulkL,Dt.bulk,List.length_cons]
        omega
end Go.Proofs.YtmecfjhdnbgfeaaGreatDoor
namespace Go.Proofs.YtmecfjhdnbgfeaaGreatDoor
open Go.Am
theorem RL {s:ByteArray} (h:4096<s.size):nm1 (y8 s)=kV 2 0:=by
 have hk:okV (y8 s)=false:=by
  cases hc:okV (y8 s)
  ·rfl
  ·rw[okV] at hc
   simp only[Bool.and_eq_true] at hc
   have h2:=hc.2
   obtain⟨n,hn⟩:∃n,(y8 s).bulk=n+1:=⟨(y8 s).bulk-1,by have:=RI s;omega⟩
   rw[hn,sndF,Bool.and_eq_true] at h2
   have h3:(decide (((s.size:Nat):Int)≤4096)&&Lib.validD s.data.toList)=true:=h2.2
   simp only[Bool.and_eq_true,decide_eq_true_eq] at h3
   omega
 rw[nm1,hk]
 rfl
theorem akL (l:List Dt):nm1 (Yf l)=nm1 (Ye l):=by
 rw[Yf,Ye]
 cases l.all (isK 4)
 ·rfl
 ·rw[cond_true,cond_true]
  have e0:ByteArray.mk (List.toArray [])++bs (catB l)=bs (catB l):=by
   have:=aiu [] (catB l)
   rw[List.nil_append] at this
   exact this
  rcases aax l (ByteArray.mk (List.toArray [])) with h| ⟨h1,h2⟩
  ·rw[h,e0]
  ·rw[e0] at h2
   rw[RL h1,RL h2]
theorem Jk:∀l:List Dt,(catB l).length≤Dt.bulkL l
 | []=>Nat.le_refl _
 |a::l=>by
  have h1:=tZ a 2
  have h2:=Jk l
  rw[show catB (a::l)=(Dt.S a 2).data.toList++catB l from rfl,List.length_append,adI,Dt.bulkL]
  omega
theorem akM (l:List Dt):Rs (Yf l) (Dt.bulkL l+6):=by
 have:=Jk l
 exact dI (Ow (by rw[Uv];omega)) (jU.le (by omega))
theorem RN:∀(l:List Dt) (s:ByteArray),(JM 0 l s).size≤s.size+Dt.bulkL l
 | [],s=>by rw[JM];omega
 |d::l,s=>by
  have h1:=tZ d 2
  rw[JM,Dt.bulkL]
  split
  ·have:=RN l (s++Dt.S d 2)
   rw[ByteArray.size_append] at this
   omega
  ·omega
theorem akN (l:List Dt):Rs (Ye l) (Dt.bulkL l+6):=by
 have:=RN l (ByteArray.mk (List.toArray []))
 have e:(ByteArray.mk (List.toArray [])).size=0:=rfl
 exact dI (Ow (by omega)) (jU.le (by omega))
theorem UG {l:List Dt} (h:∀f∈l,WF f):WV (sU l):= .mk (fun _ h=>by cases h) h
theorem aiU (ns ks:List Dt) (h:∀e∈ks,WV e):Rs (sU (Al ns ks)) (2*Dt.bulkL ns+2*ns.length+Dt.bulkL ks+6):=by
 obtain⟨h1,h2⟩:=acM ns ks h
 refine⟨UG h1,?_,.inr (by show (1:Int)≤5;omega)⟩
 rw[xD (UG h1)]
 show 6+0+0+Dt.bulkL (Al ns ks)≤_
 omega
theorem aln (a b c:Dt) (hb:Nd b) (hc:Nd c):Rs (bif trB a then b else c) 4300800:=dI (hb.rs.le hb.bulk) (hc.rs.le hc.bulk)
theorem aiV (a b:Dt) (ha:Nd a) (hb:Nd b):Rs (bif Dt.I (orN a) 0==2 then b else a) 4300800:=dI (hb.rs.le hb.bulk) (ha.rs.le ha.bulk)
end Go.Proofs.YtmecfjhdnbgfeaaGreatDoor
namespace Go.Proofs.YtmecfjhdnbgfeaaGreatDoor
open Go.Am
def opS (op:Int) (e:Dt) (ks:List Dt) (mg:Dt):Dt:=
 bif decide (op≤8) then Bv op ks
 else bif decide (op≤15) then yj op (cmpD (ks.getD 0 kza2373) (ks.getD 1 kza2373))
 else bif decide (op≤17) then aoS op ks
 else bif op==18 then bV (!trB (ks.getD 0 kza2373))
 else bif op==19 then(bif trB (ks.getD 0 kza2373) then ks.getD 1 kza2373 else ks.getD 2 kza2373)
 else bif op==20 then(bif Dt.I (orN (ks.getD 0 kza2373)) 0==2 then ks.getD 1 kza2373 else ks.getD 0 kza2373)
 else bif op==21 then Yf ks
 else bif decide (op≤24) then Gj op (ks.getD 0 kza2373)
 else bif op==25 then slS (ks.getD 0 kza2373) (ks.getD 1 kza2373) (ks.getD 2 kza2373)
 else bif op==26 then U4 (ks.getD 0 kza2373)
 else bif op==27 then U8 (ks.getD 0 kza2373) (ks.getD 1 kza2373)
 else bif op==28 then Yd (fun x=>cmpD x (ks.getD 0 kza2373)==0) (ks.getD 1 kza2373)
 else bif op==29 then U7 ks
 else bif op==30 then U5 (ks.getD 0 kza2373)
 else bif op==31 then U6 (ks.getD 0 kza2373)
 else bif op==34 then sU (Al (Dt.L e 3) ks)
 else bif op==35 then uz (ks.map orN)
 else bif op==36 then kV 3 (Dt.I (ks.getD 0 kza2373) 0)
 else mg
def evS (mgS:List Dt→Dt):Nat→Dt→Dt→List (ByteArray×Dt)→Dt
 |0,_,_,_=>kza2373
 |  r+  1,e,doc,env=>nm1 (
    bif Dt.I e 0==1 then Dt.fld e 4
    else bif Dt.I e 0==2 then atN 4300801 doc (Dt.L e 1)
    else bif Dt.I e 0==3 then K8 (fun v=>atN 4300801 v (Dt.L e 1)) (Dt.S e 2) env
    else bif Dt.I e 0==32||Dt.I e 0==33 then
     bif isK 6 (evS mgS r ((Dt.L e 6).getD 0 kza2373) doc env) then
        uz (lpS (Dt.I e 0) (fun x=>evS mgS r ((Dt.L e 6).getD 1 kza2373) doc ((Dt.S e 2,x)::env)) (Dt.L (evS mgS r ((Dt.L e 6).getD 0 kza2373) doc env) 3))
     else kV 2 0
    else opS (Dt.I e 0) e ((Dt.L e 6).map fun k=>evS mgS r k doc env) (mgS ((Dt.L e 6).map fun k=>evS mgS r k doc env)))
end Go.Proofs.YtmecfjhdnbgfeaaGreatDoor
