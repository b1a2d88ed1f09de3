/- Merging two sorted runs: the program's function.
Sorting with limited memory:the program's function.
The number of parts does not grow with more memory,and is at most the number of documents.
Documents as the laws of this layer take them. -/
import Derived.Test.YtpifchdngodgjaaGreatDoorMSS
import Derived.Test.YtpifchdngodgjaaGreatDoorMF
import Derived.Test.YtpifchdngodgjaaGreatDoorMG
import Derived.Test.YtpifchdngodgjaaGreatDoorMC
import Derived.Test.YtpifchdngodgjaaGreatDoorMSame1
set_option linter.unusedVariables false
set_option linter.unusedSimpArgs false
namespace Go.Proofs.YtpifchdngodgjaaGreatDoor
open Go.Am Go.Am.Srt
theorem merge_l (m:Nat) (hm:300000000000≤m∧m<8000000000000000000) (l:List Dt) (hl:l.length≤0):∀(M n:Nat) (X Y acc:List Dt),X.length+Y.length=n→n<M→(∀x∈X,DocOK x)→(∀y∈Y,DocOK y)→acc.length+n≤1000000→
  zF_l1 (m+4) M l X Y acc=some (acc++mg (ltc (cmpO l)) n X Y)
 |0,n,_,_,_,_,h,_,_,_=>by omega
 |M+1,n,[],Y,acc,hn,h,_,_,ha=>by
  have e:mg (ltc (cmpO l)) n [] Y=Y:=by cases n<;>simp[mg]
  have hY:Y.length=n:=by simpa using hn
  simp only[zF_l1,List.length_nil,show decide ((0:Int)<((0:Nat):Int))=false from rfl,cond_false,zF_j2,zF_j3,zF_j0,e]
  rw[app_le (by rw[List.length_nil];omega),Option.bind_some,app_le (by rw[List.append_nil];omega),Option.bind_some,List.append_nil]
 |M+1,n,x::a,[],acc,hn,h,_,_,ha=>by
  have hX:(x::a).length=n:=by simpa using hn
  have e:mg (ltc (cmpO l)) n (x::a) []=x::a:=by cases n<;>simp[mg]
  have e0:decide ((0:Int)<(((x::a).length:Nat):Int))=true:=decide_eq_true (by rw[List.length_cons];omega)
  simp only[zF_l1,e0,cond_true,List.length_nil,show decide ((0:Int)<((0:Nat):Int))=false from rfl,cond_false,zF_j2,zF_j3,zF_j0,e]
  rw[app_le (by omega),Option.bind_some,app_le (by rw[List.length_append,List.length_nil];omega),Option.bind_some,List.append_nil]
 |M+1,0,x::a,y::b,acc,hn,_,_,_,_=>by simp at hn
 |M+1,n+1,x::a,y::b,acc,hn,h,hX,hY,ha=>by
  have e0:decide ((0:Int)<(((x::a).length:Nat):Int))=true:=decide_eq_true (by rw[List.length_cons];omega)
  have e1:decide ((0:Int)<(((y::b).length:Nat):Int))=true:=decide_eq_true (by rw[List.length_cons];omega)
  have hc:=oCompare_eq m (by omega) l x y (hX x List.mem_cons_self) (hY y List.mem_cons_self) hl
  have e2:decide (cmpO l x y≤0)=!ltc (cmpO l) y x:=by
   have han:=(tpoO l).anti x y
   unfold ltc
   by_cases h0:cmpO l y x<0
   ·rw[decide_eq_true h0,decide_eq_false (by omega)];rfl
   ·rw[decide_eq_false h0,decide_eq_true (by omega)];rfl
  simp only[List.length_cons] at hn
  simp only[zF_l1,e0,e1,cond_true,zF_j2,zF_j3,zF_j0,idx_head,Option.bind_some,hc,e2]
  rw[mg]
  cases ltc (cmpO l) y x
  ·simp only[Bool.not_false,cond_true,cond_false]
   rw[app_le (by rw[List.length_singleton];omega),Option.bind_some,cutL_tail,Option.bind_some,merge_l m hm l hl M n a (y::b) (acc++[x]) (by rw[List.length_cons];omega) (by omega) (fun z hz=>hX z (List.mem_cons_of_mem _ hz)) hY (by rw[List.length_append,List.length_singleton];omega)]
   simp
  ·simp only[Bool.not_true,cond_true,cond_false]
   rw[app_le (by rw[List.length_singleton];omega),Option.bind_some,cutL_tail,Option.bind_some,merge_l m hm l hl M n (x::a) b (acc++[y]) (by rw[List.length_cons];omega) (by omega) hX (fun z hz=>hY z (List.mem_cons_of_mem _ hz)) (by rw[List.length_append,List.length_singleton];omega)]
   simp
theorem merge_eq (m:Nat) (hm:300000000000≤m∧m<8000000000000000000) (l:List Dt) (hl:l.length≤0) (X Y:List Dt) (hn:X.length+Y.length≤100000) (hX:∀x∈X,DocOK x) (hY:∀y∈Y,DocOK y) (aX:Asc (ltc (cmpO l)) X) (aY:Asc (ltc (cmpO l)) Y):
  zF (m+5) l X Y=some (sortD l (X++Y)):=by
 have e:=wrapA (a:=X.length) (b:=Y.length) (by omega)
 have hk:∀z:Dt,mkL 0 ((X.length+Y.length:Nat):Int) z=some []:=fun z=>by
  unfold mkL
  rw[if_pos (by omega)]
  rfl
 rw[zF,e,hk,Option.bind_some,zF_j0]
 have:=merge_l m hm l hl (m+5) (X.length+Y.length) X Y [] rfl (by omega) hX hY (by rw[List.length_nil];omega)
 rw[mg_isort (swo (tpoO l)) _ X Y (Nat.le_refl _) aX aY,List.nil_append] at this
 exact this
end Go.Proofs.YtpifchdngodgjaaGreatDoor
namespace Go.Proofs.YtpifchdngodgjaaGreatDoor
open Go.Am Go.Am.Srt
theorem pairUp_mem {lt:Dt→Dt→Bool}:∀(R:List (List Dt)) (r:List Dt),r∈pairUp lt R→∀x∈r,∃s∈R,x∈s
 | [],r,h,_,_=>absurd h List.not_mem_nil
 | [s],r,h,x,hx=>⟨r,h,hx⟩
 |a::b::R,r,h,x,hx=>by
  rw[pairUp] at h
  rcases List.mem_cons.1 h with rfl|h
  ·rcases List.mem_append.1 (mem_isort.1 hx) with g|g
   ·exact⟨a,by simp,g⟩
   ·exact⟨b,by simp,g⟩
  ·obtain⟨s,hs,hxs⟩:=pairUp_mem R r h x hx
   exact⟨s,by simp[hs],hxs⟩
theorem pairUp_flen {lt:Dt→Dt→Bool}:∀R:List (List Dt),(pairUp lt R).flatten.length=R.flatten.length
 | []=>rfl
 | [s]=>rfl
 |a::b::R=>by
  rw[pairUp,List.flatten_cons,List.flatten_cons,List.flatten_cons,List.length_append,List.length_append,List.length_append,isort_len,List.length_append,pairUp_flen R]
  omega
theorem getD1 {A:Type} (X Y:List A) (x:A):(X++x::Y)[X.length]? =some x:=by simp
theorem getD2 {A:Type} (X Y:List A) (x y:A):(X++x::y::Y)[X.length+1]? =some y:=by
 rw[List.getElem?_append_right (by omega)]
 simp
section
variable (m:Nat) (hm:300000000000≤m∧m<8000000000000000000) (l:List Dt) (hl:l.length≤0)
include hm hl
theorem pair_l (rec7:List Dt→List Dt→List Dt→Option (List Dt×Int×Int)) (PP:List Dt):∀(M:Nat) (pre rest:List (List Dt)) (acc:List Dt),rest.length+1<M→(∀r∈rest,Asc (ltc (cmpO l)) r)→(∀r∈rest,∀x∈r,DocOK x)→rest.flatten.length≤100000→acc.length+rest.length≤1000000→pre.length+rest.length≤1000000→
  qA_l10 (m+5) rec7 M l PP (pre.length:Int) ((pre++rest).map Dt.lst) acc=rec7 l PP (acc++(pairUp (ltc (cmpO l)) rest).map Dt.lst)
 |0,_,_,_,h,_,_,_,_,_=>by omega
 |M+1,pre,[],acc,_,_,_,_,_,_=>by
  have e:decide ((pre.length:Int)<(((pre++[]).map Dt.lst).length:Int))=false:=decide_eq_false (by simp)
  rw[qA_l10,e,cond_false,pairUp,List.map_nil,List.append_nil]
  simp only[qA_j5,qA_j4,qA_j12,qA_j11,qA_j13,qA_j9,qA_j8,qA_j14,qA_j6,qA_j2,qA_j1,qA_j0]
 |1,pre,[x],acc,h,_,_,_,_,_=>by simp at h
 |M+2,pre,[x],acc,h,hA,hD,hf,ha,hp=>by
  have hp:pre.length+1≤1000000:=by simpa using hp
  have e:decide ((pre.length:Int)<(((pre++[x]).map Dt.lst).length:Int))=true:=decide_eq_true (by rw[List.length_map,List.length_append,List.length_singleton];omega)
  have ew:IntKind.wrap IntKind.i64 ((pre.length:Int)+1)=((pre.length+1:Nat):Int):=wrapS (by omega)
  have ew2:IntKind.wrap IntKind.i64 ((pre.length:Int)+2)=((pre.length+2:Nat):Int):=wrapA (b:=2) (by omega)
  have e1:decide (((pre.length+1:Nat):Int)<(((pre++[x]).map Dt.lst).length:Int))=false:=decide_eq_false (by rw[List.length_map,List.length_append,List.length_singleton];omega)
  have e2:decide (((pre.length+2:Nat):Int)<(((pre++[x]).map Dt.lst).length:Int))=false:=decide_eq_false (by rw[List.length_map,List.length_append,List.length_singleton];omega)
  have hx:inL ((pre++[x]).map Dt.lst) (pre.length:Int)=some ():=inL_lt (by simp)
  have hg:((pre++[x]).map Dt.lst)[(pre.length:Int).toNat]? =some (Dt.lst x):=by rw[Int.toNat_natCast,List.getElem?_map,getD1];rfl
  have hap:app acc [Dt.lst x]=some (acc++[Dt.lst x]):=app_le (by simp at ha ⊢;omega)
  rw[qA_l10,e,cond_true]
  simp only[qA_j5,qA_j4,qA_j12,qA_j11,qA_j13,qA_j9,qA_j8,qA_j14,qA_j6,qA_j2,qA_j1,qA_j0,ew,e1,cond_false,hx,hg,Option.bind_some,Dt.toLst,hap,ew2]
  rw[qA_l10,e2,cond_false]
  simp only[qA_j5,qA_j4,qA_j12,qA_j11,qA_j13,qA_j9,qA_j8,qA_j14,qA_j6,qA_j2,qA_j1,qA_j0,pairUp,List.map_cons,List.map_nil]
 |M+1,pre,x::y::r,acc,h,hA,hD,hf,ha,hp=>by
  simp only[List.length_cons] at h ha hp
  have e:decide ((pre.length:Int)<(((pre++x::y::r).map Dt.lst).length:Int))=true:=decide_eq_true (by rw[List.length_map,List.length_append,List.length_cons,List.length_cons];omega)
  have ew:IntKind.wrap IntKind.i64 ((pre.length:Int)+1)=((pre.length+1:Nat):Int):=wrapS (by omega)
  have ew2:IntKind.wrap IntKind.i64 ((pre.length:Int)+2)=((pre.length+2:Nat):Int):=wrapA (b:=2) (by omega)
  have e1:decide (((pre.length+1:Nat):Int)<(((pre++x::y::r).map Dt.lst).length:Int))=true:=decide_eq_true (by rw[List.length_map,List.length_append,List.length_cons,List.length_cons];omega)
  have hx:inL ((pre++x::y::r).map Dt.lst) (pre.length:Int)=some ():=inL_lt (by simp)
  have hx2:inL ((pre++x::y::r).map Dt.lst) ((pre.length+1:Nat):Int)=some ():=inL_lt (by simp)
  have hg:((pre++x::y::r).map Dt.lst)[(pre.length:Int).toNat]? =some (Dt.lst x):=by rw[Int.toNat_natCast,List.getElem?_map,getD1];rfl
  have hg2:((pre++x::y::r).map Dt.lst)[((pre.length+1:Nat):Int).toNat]? =some (Dt.lst y):=by rw[Int.toNat_natCast,List.getElem?_map,getD2];rfl
  have hf':x.length+y.length+r.flatten.length≤100000:=by
   rw[List.flatten_cons,List.flatten_cons,List.length_append,List.length_append] at hf;omega
  have hmg:=merge_eq m hm l hl x y (by omega) (hD x (by simp)) (hD y (by simp)) (hA x (by simp)) (hA y (by simp))
  have hap:app acc [Dt.lst (sortD l (x++y))]=some (acc++[Dt.lst (sortD l (x++y))]):=app_le (by simp;omega)
  rw[qA_l10,e,cond_true]
  simp only[qA_j5,qA_j4,qA_j12,qA_j11,qA_j13,qA_j9,qA_j8,qA_j14,qA_j6,qA_j2,qA_j1,qA_j0,ew,e1,cond_true,hx,hg,hx2,hg2,Option.bind_some,Dt.toLst,hmg,hap,ew2]
  have ih:=pair_l rec7 PP M (pre++[x,y]) r (acc++[Dt.lst (sortD l (x++y))]) (by omega) (fun s hs=>hA s (by simp[hs])) (fun s hs=>hD s (by simp[hs])) (by omega) (by simp;omega) (by simp;omega)
  have el:(pre++[x,y]).length=pre.length+2:=by simp
  rw[el,List.append_assoc,List.cons_append,List.cons_append,List.nil_append] at ih
  rw[ih,pairUp,List.map_cons,List.append_assoc,List.singleton_append]
  rfl
theorem outer_l (PP:List Dt):∀(M:Nat) (R:List (List Dt)),R≠[]→R.length<M→(∀r∈R,Asc (ltc (cmpO l)) r)→(∀r∈R,∀x∈r,DocOK x)→R.flatten.length≤100000→R.length≤100000→
  qA_l7 (m+5) M l PP (R.map Dt.lst)=some (isort (ltc (cmpO l)) R.flatten,(PP.length:Int),0)
 |0,_,_,h,_,_,_,_=>by omega
 |M+1,[],h0,_,_,_,_,_=>absurd rfl h0
 |M+1,[r],_,_,hA,_,_,_=>by
  have e:decide ((1:Int)<((([r]:List (List Dt)).map Dt.lst).length:Int))=false:=rfl
  have hx:inL [Dt.lst r] 0=some ():=inL_hd _ _
  have ho:=one_run (swo (tpoO l)) (hA r (by simp)) (D:=[r].flatten) rfl
  rw[qA_l7,e,cond_false]
  simp only[qA_j5,qA_j4,qA_j12,qA_j11,qA_j13,qA_j9,qA_j8,qA_j14,qA_j6,qA_j2,qA_j1,qA_j0,List.map_cons,List.map_nil,hx,Option.bind_some,List.getElem?_cons_zero,Dt.toLst]
  rw[←ho]
 |M+1,a::b::R,_,h,hA,hD,hf,hn=>by
  simp only[List.length_cons] at h hn
  have e:decide ((1:Int)<(((a::b::R).map Dt.lst).length:Int))=true:=decide_eq_true (by simp;omega)
  obtain⟨i1,i2⟩:=pairUp_inv (swo (tpoO l)) (a::b::R) hA
  have hlen:=pairUp_len (lt:=ltc (cmpO l)) (a::b::R)
  simp only[List.length_cons] at hlen
  have hp:=pair_l m hm l hl (qA_l7 (m+5) M) PP (m+6) [] (a::b::R) [] (by simp;omega) hA hD hf (by simp;omega) (by simp;omega)
  rw[List.nil_append,List.nil_append] at hp
  rw[qA_l7,e,cond_true]
  simp only[qA_j5,qA_j4,qA_j12,qA_j11,qA_j13,qA_j9,qA_j8,qA_j14,qA_j6,qA_j2,qA_j1,qA_j0]
  refine hp.trans ?_
  rw[outer_l PP M (pairUp (ltc (cmpO l)) (a::b::R)) (by rw[pairUp];simp) (by omega) i1 (fun r hr x hx=>by
   obtain⟨s,hs,hxs⟩:=pairUp_mem _ _ hr x hx
   exact hD s hs x hxs) (by rw[pairUp_flen];exact hf) (by omega),i2]
theorem runs_l (P:List (List Dt)) (hD:∀p∈P,∀x∈p,DocOK x) (hP:∀p∈P,p.length≤1000) (hn:P.length≤100000) (z:Dt):∀(M i:Nat),i≤P.length→P.length-i<M→
  qA_l3 (m+5) M l (P.map Dt.lst) (P.map Dt.lst) (P.length:Int) (i:Int) ((P.take i).map (fun p=>Dt.lst (sortD l p))++List.replicate (P.length-i) z)=qA_l7 (m+5) (m+6) l (P.map Dt.lst) ((P.map (sortD l)).map Dt.lst)
 |0,i,_,h=>by omega
 |M+    1,i,hi,h=>by
  simp only[qA_l3,dlt]
  by_cases hlt:i<P.length
  ·have lm:((P.take i).map fun p=>Dt.lst (sortD l p)).length=i:=by simp;omega
   have hx:i<((P.take i).map (fun p=>Dt.lst (sortD l p))++List.replicate (P.length-i) z).length:=by rw[List.length_append,lm,List.length_replicate];omega
   have hs:((P.take i).map (fun p=>Dt.lst (sortD l p))++List.replicate (P.length-i) z).set i (Dt.lst (sortD l P[i]))=(P.take (i+1)).map (fun p=>Dt.lst (sortD l p))++List.replicate (P.length-(i+1)) z:=by
        rw[List.set_append_right _ _ (by omega),lm,Nat.sub_self,show P.length-i=(P.length-(i+1))+1 by omega,List.replicate_succ,List.set_cons_zero,List.take_succ_eq_append_getElem hlt,List.map_append,List.append_assoc]
        rfl
   have hi':idx (P.map Dt.lst) (i:Int)=some (Dt.lst P[i]):=by rw[idx_lt (by simpa using hlt)];simp
   have ho:=oSort_eq m hm l P[i] hl (hD _ (List.getElem_mem hlt)) (hP _ (List.getElem_mem hlt))
   simp only[hlt,decide_true,cond_true,qA_j5,qA_j4,qA_j12,qA_j11,qA_j13,qA_j9,qA_j8,qA_j14,qA_j6,qA_j2,qA_j1,qA_j0,hi',Option.bind_some,Dt.toLst,ho,inL_lt hx,Int.toNat_natCast,List.getElem?_eq_getElem hx,hs,wrapS (show i<9223372036854775807 by omega)]
   exact runs_l P hD hP hn z M (i+1) (by omega) (by omega)
  ·have:i=P.length:=by omega
   subst this
   simp[qA_j5,qA_j4,qA_j12,qA_j11,qA_j13,qA_j9,qA_j8,qA_j14,qA_j6,qA_j2,qA_j1,qA_j0]
   rfl
noncomputable def nparts (g:Dt→Nat) (mem:Int) (D:List Dt):Nat:=bif (splitP g mem [] 0 D).1.isEmpty&&decide (((splitP g mem [] 0 D).2.2:Int)≤mem) then 0 else(splitP g mem [] 0 D).1.length+1
theorem sSort_eq (D:List Dt) (hD:∀d∈D,DocOK d) (hn:D.length≤1000) (mem:Int) (h2:mem≤9223372036854775807) (al:Bool) (g:Dt→Nat) (hg:∀d∈D,zJ (m+4) d=some (((g d:Nat):Int),0)) (hb:(D.map g).sum<1000000000000):
  qA (m+6) l D mem al=some (bif decide (mem<1) then([],0,1) else bif nparts g mem D==0 then(sortD l D,0,0) else bif al then(sortD l D,(nparts g mem D:Int),0) else([],0,22)):=by
 rw[qA]
 by_cases h1:mem<1
 ·rw[sparts_arg (m+4) D mem al h1,Option.bind_some,decide_eq_true h1,cond_true]
  rfl
 rw[sparts_eq (m+4) D mem al g hg (by omega) h2 (by omega) (by omega) hb,Option.bind_some,decide_eq_false h1,cond_false]
 have hflat:=split_flat g mem D [] 0
 have hlen:=split_len g mem D [] 0
 unfold nparts
 unfold finP
 generalize splitP g mem [] 0 D=q at hflat hlen ⊢
 obtain⟨C,last,sz⟩:=q
 simp only[List.nil_append] at hflat hlen ⊢
 have hLL:(C.map Dt.lst).isEmpty=C.isEmpty:=by cases C<;>rfl
 rw[hLL]
 cases hc:(C.isEmpty&&decide ((sz:Int)≤mem))
 ·have e0 :(C.length+1==0)=false:=rfl
  rw[cond_false,cond_false,e0,cond_false]
  cases al
  ·rfl
  ·rw[   cond_true,cond_true]
   have hP:C.map Dt.lst++[Dt.lst last]=(C++[last]).map Dt.lst:=by simp
   have hfl:(C++[last]).flatten=D:=by rw[←hflat];simp
   have hmem:∀p∈C++[last],∀x∈p,x∈D:=fun p hp x hx=>by rw[←hfl];exact List.mem_flatten.2 ⟨p,hp,hx⟩
   have hpl:∀p∈C++[last],p.length≤1000:=fun p hp=>by
        have:p.length≤(C++[last]).flatten.length:=(List.sublist_flatten_of_mem hp).length_le
        rw[hfl] at this;omega
   have hk:=runs_l m hm l hl (C++[last]) (fun p hp x hx=>hD x (hmem p hp x hx)) hpl (by simp;omega) (Dt.lst []) (m+6) 0 (Nat.zero_le _) (by simp;omega)
   rw[List.take_zero,List.map_nil,List.nil_append,Nat.sub_zero] at hk
   have ho:=outer_l m hm l hl ((C++[last]).map Dt.lst) (m+6) ((C++[last]).map (sortD l)) (by simp) (by simp;omega) (fun r hr=>by
        obtain⟨p,_,rfl⟩:=List.mem_map.1 hr
        exact asc_isort (swo (tpoO l)) p) (fun r hr x hx=>by
        obtain⟨p,hp,rfl⟩:=List.mem_map.1 hr
        exact hD x (hmem p hp x (mem_isort.1 hx))) (by
         have:∀L:List (List Dt),(L.map (sortD l)).flatten.length=L.flatten.length:=fun L=>by
          induction L with
          |nil=>rfl
          |cons a r ih=>rw[List.map_cons,List.flatten_cons,List.flatten_cons,List.length_append,List.length_append,ih,sortD,isort_len]
         rw[this,hfl];omega) (by simp;omega)
   have hs:isort (ltc (cmpO l)) ((C++[last]).map (sortD l)).flatten=sortD l D:=by
        have:=flat_isort (swo (tpoO l)) (C++[last])
        rw[hfl] at this
        exact this
   rw[hP]
   have el:((C++[last]).map Dt.lst).length=(C++[last]).length:=List.length_map _
   have e1:(((C++[last]).length:Int)==0)=false:=by rw[beq_eq_false_iff_ne,List.length_append,List.length_singleton];omega
   have hmk:=mkL_nat (n:=(C++[last]).length) (z:=Dt.lst []) (by simp;omega)
   have e2:((0:Int) !=0)=false:=rfl
   simp only[e2,cond_false,qA_j5,qA_j4,qA_j12,qA_j11,qA_j13,qA_j9,qA_j8,qA_j14,qA_j6,qA_j2,qA_j1,qA_j0,el,e1,hmk,Option.bind_some]
   refine hk.trans ?_
   rw[ho,hs,el]
   simp
 ·have e2:((0:Int) !=0)=false:=rfl
  have e3:((([]:List Dt).length:Int)==0)=true:=rfl
  have ho:=oSort_eq m hm l D hl hD hn
  rw[cond_true,cond_true]
  simp only[e2,cond_false,qA_j5,qA_j4,qA_j12,qA_j11,qA_j13,qA_j9,qA_j8,qA_j14,qA_j6,qA_j2,qA_j1,qA_j0,e3,cond_true,ho,Option.bind_some]
  rfl
end
end Go.Proofs.YtpifchdngodgjaaGreatDoor
namespace Go.Proofs.YtpifchdngodgjaaGreatDoor
open Go.Am Go.Am.Srt
theorem split_mono (g:Dt→Nat) {a b:Int} (hab:a≤b):∀(r ca cb:List Dt) (sa sb na nb:Nat),ca≠[]→cb≠[]→(nb<na∨(nb=na∧sb≤sa))→
  (nb+(splitP g b cb sb r).1.length<na+(splitP g a ca sa r).1.length∨(nb+(splitP g b cb sb r).1.length=na+(splitP g a ca sa r).1.length∧(splitP g b cb sb r).2.2≤(splitP g a ca sa r).2.2))
 | [],ca,cb,sa,sb,na,nb,_,_,h=>by simpa [splitP] using h
 |d::r,ca,cb,sa,sb,na,nb,ha,hb,h=>by
  have e1:ca.isEmpty=false:=by cases ca with
   |nil=>exact absurd rfl ha
   |cons=>rfl
  have e2:cb.isEmpty=false:=by cases cb with
   |nil=>exact absurd rfl hb
   |cons=>rfl
  rw[splitP,splitP,e1,e2,Bool.not_false,Bool.true_and,Bool.true_and]
  by_cases h1:a<((sa+g d:Nat):Int)
  ·by_cases h2:b<((sb+g d:Nat):Int)
   ·    rw[decide_eq_true h1,decide_eq_true h2,cond_true,cond_true,List.length_cons,List.length_cons]
        have:=split_mono g hab r [d] [d] (g d) (g d) (na+1) (nb+1) (by simp) (by simp) (by omega)
        dsimp only
        omega
   ·    rw[decide_eq_true h1,decide_eq_false h2,cond_true,cond_false,List.length_cons]
        have:=split_mono g hab r [d] (cb++[d]) (g d) (sb+g d) (na+1) nb (by simp) (by simp) (by omega)
        dsimp only
        omega
  ·by_cases h2:b<((sb+g d:Nat):Int)
   ·    rw[decide_eq_false h1,decide_eq_true h2,cond_true,cond_false,List.length_cons]
        have:=split_mono g hab r (ca++[d]) [d] (sa+g d) (g d) na (nb+1) (by simp) (by simp) (by omega)
        dsimp only
        omega
   ·    rw[decide_eq_false h1,decide_eq_false h2,cond_false,cond_false]
        have:=split_mono g hab r (ca++[d]) (cb++[d]) (sa+g d) (sb+g d) na nb (by simp) (by simp) (by omega)
        omega
theorem split_cons (g:Dt→Nat) (mem:Int) (d:Dt) (r:List Dt):splitP g mem [] 0 (d::r)=splitP g mem [d] (g d) r:=by
 rw[splitP]
 simp only[List.isEmpty_nil,Bool.not_true,Bool.false_and,cond_false,List.nil_append,Nat.zero_add]
theorem nparts_nil (g:Dt→Nat) {a:Int} (ha:1≤a):nparts g a []=0:=by
 unfold nparts
 rw[splitP,List.isEmpty_nil,Bool.true_and,decide_eq_true (show ((0:Nat):Int)≤a by omega)]
 rfl
theorem nparts_le (g:Dt→Nat) {a:Int} (ha:1≤a):∀D:List Dt,nparts g a D≤D.length
 | []=>by rw[nparts_nil g ha];exact Nat.le_refl _
 |d::r=>by
  have:=split_len g a r [d] (g d)
  unfold nparts
  rw[split_cons,List.length_cons]
  cases ((splitP g a [d] (g d) r).1.isEmpty&&decide (((splitP g a [d] (g d) r).2.2:Int)≤a))
  ·rw[cond_false];omega
  ·rw[cond_true];omega
theorem nparts_mono (g:Dt→Nat) {a b:Int} (ha:1≤a) (hab:a≤b):∀D:List Dt,nparts g b D≤nparts g a D
 | []=>by rw[nparts_nil g ha,nparts_nil g (by omega)];exact Nat.le_refl _
 |d::r=>by
  have h:=split_mono g hab r [d] [d] (g d) (g d) 0 0 (by simp) (by simp) (by omega)
  unfold nparts
  rw[split_cons,split_cons]
  generalize splitP g a [d] (g d) r=q at h ⊢
  generalize splitP g b [d] (g d) r=p at h ⊢
  obtain⟨C,L,s⟩:=q
  obtain⟨C',L',s'⟩:=p
  simp only at h ⊢
  by_cases h1:C=[]∧(s:Int)≤a
  ·obtain⟨h1,h2⟩:=h1
   subst h1
   simp only[List.length_nil] at h
   have e:C'=[]:=List.eq_nil_of_length_eq_zero (by omega)
   subst e
   rw[List.isEmpty_nil,Bool.true_and,Bool.true_and,decide_eq_true h2,decide_eq_true (show (s':Int)≤b by omega)]
   exact Nat.le_refl _
  ·have e:(C.isEmpty&&decide ((s:Int)≤a))=false:=by
        cases C with
        |nil=>rw[List.isEmpty_nil,Bool.true_and];exact decide_eq_false fun h2=>h1 ⟨rfl,h2⟩
        |cons x C=>rfl
   rw[e,cond_false]
   cases (C'.isEmpty&&decide ((s':Int)≤b))
   ·rw[cond_false];omega
   ·rw[cond_true];omega
theorem asc_const {lt:Dt→Dt→Bool} (h:∀x y,lt x y=false):∀D:List Dt,Asc lt D
 | []=>trivial
 |x::r=>⟨fun y _=>h y x,asc_const h r⟩
theorem sort_none (D:List Dt):sortD [] D=D:=isort_asc (asc_const (fun _ _=>rfl) D)
end Go.Proofs.YtpifchdngodgjaaGreatDoor
namespace Go.Proofs.YtpifchdngodgjaaGreatDoor
open Go.Am Go.Am.Srt
noncomputable def lenD (d:Dt):Nat:=lenF 1048576 d
theorem cLength_eq {d:Dt} (hw:WV d) (hr:WR d) (hb:d.bulk≤1048576) (hv:okV d=true) (m:Nat) (hm:4000000≤m):zJ (m+4) d=some ((lenD d:Int),0):=by
 rw[zJ,vValid_eq hw m (by omega) (by omega),hv,Option.bind_some]
 have:=clen_eq 1048576 d hw hr hb (by omega) (m+2) (by omega)
 simp only[Bool.not_true,cond_false,zJ_j0,this,Option.bind_some]
 rfl
theorem le_mx (f:Dt→Nat):∀{L:List Dt} {e:Dt},e∈L→f e≤mx f L
 |x::r,e,h=>by
  simp only[mx]
  rcases List.mem_cons.1 h with rfl|h
  ·exact Nat.le_max_left _ _
  ·exact Nat.le_trans (le_mx f h) (Nat.le_max_right _ _)
theorem dl_of:∀(n:Nat) (d:Dt),WV d→dpt d≤n→DL n d
 |0,d,hw,h=>by rw[dpt_eq hw] at h;omega
 |n+1,d,hw,h=>by
  intro e he
  rw[dpt_eq hw] at h
  have:=le_mx dpt he
  exact dl_of n e (prts_wv hw e he).1 (by omega)
structure GoodD (d:Dt):Prop where
 doc:DocOK d
 wr:WR d
 val:okV d=true
theorem good_l (m:Nat) (hm:3000000≤m) (hm2:m<9000000000000000000) (D:List Dt) (hl:D.length<1000000) (hD:∀d∈D,WV d∧WR d∧d.bulk≤1048576):∀(M i:Nat),i≤D.length→D.length-i<M→∃b,zD_l2 (m+4) M D (i:Int)=some b∧(b=true→∀d∈D.drop i,GoodD d)
 |0,i,_,h=>by omega
 |M+    1,i,hi,h=>by
  simp only[zD_l2,dlt]
  by_cases hlt:i<D.length
  ·obtain⟨w1,w2,w3⟩:=hD _ (List.getElem_mem hlt)
   obtain⟨b,b1,b2⟩:=good_l m hm hm2 D hl hD M (i+1) (by omega) (by omega)
   have hv:=rValid_eq w1 m (by omega) (by omega) (by omega)
   simp only[hlt,decide_true,cond_true,zD_j5,zD_j4,zD_j3,zD_j6,zD_j1,zD_j0,idx_lt hlt,Option.bind_some,hv,wrapS (show i<9223372036854775807 by omega),b1]
   cases h5:(Dt.I D[i] 0 !=5)
   ·    cases ho:okV D[i]
        ·exact⟨false,rfl,fun h=>by cases h⟩
        ·refine⟨b,rfl,fun h d hd=>?_⟩
         rw[List.drop_eq_getElem_cons hlt] at hd
         rcases List.mem_cons.1 hd with rfl|hd
         ·have ho':=ho
          unfold okV at ho'
          simp only[Bool.and_eq_true,decide_eq_true_eq] at ho'
          exact⟨⟨w1,w3,dl_of 16 _ w1 ho'.1.2⟩,w2,ho⟩
         ·exact b2 h d hd
   ·exact⟨false,rfl,fun h=>by cases h⟩
  ·have e:i=D.length:=by omega
   subst e
   exact⟨true,by simp[zD_j5,zD_j4,zD_j3,zD_j6,zD_j1,zD_j0],fun _ d hd=>by simp at hd⟩
theorem good_tot (m:Nat) (hm:3000000≤m) (hm2:m<9000000000000000000) (D:List Dt) (hD:∀d∈D,WV d∧WR d∧d.bulk≤1048576):∃b,zD (m+5) D=some b∧(b=true→D.length≤60∧∀d∈D,GoodD d):=by
 rw[zD]
 by_cases h:60<D.length
 ·rw[decide_eq_true (show (60:Int)<(D.length:Int) by omega)]
  exact⟨false,rfl,fun h=>by cases h⟩
 ·rw[decide_eq_false (show ¬(60:Int)<(D.length:Int) by omega),cond_false]
  obtain⟨b,b1,b2⟩:=good_l m hm hm2 D (by omega) hD (m+5) 0 (Nat.zero_le _) (by omega)
  exact⟨b,b1,fun h=>⟨by omega,fun d hd=>b2 h d (by rw[List.drop_zero];exact hd)⟩⟩
theorem sum_lim {D:List Dt} (hl:D.length≤60) (hD:∀d∈D,GoodD d):(D.map lenD).sum<1000000000000:=by
 have:∀L:List Dt,(∀d∈L,GoodD d)→(L.map lenD).sum≤L.length*5242880:=fun L h=>by
  induction L with
  |nil=>simp
  |cons a r ih=>
   have h1:=lenF_le 1048576 a (h a (by simp)).doc.wv
   have h2:=(h a (by simp)).doc.bulk
   have h3:=ih fun d hd=>h d (by simp[hd])
   simp only[List.map_cons,List.sum_cons,List.length_cons,lenD] at h3 ⊢
   omega
 have:=this D hD
 omega
end Go.Proofs.YtpifchdngodgjaaGreatDoor
