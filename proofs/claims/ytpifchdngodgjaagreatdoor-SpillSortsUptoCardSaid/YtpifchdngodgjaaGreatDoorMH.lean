/- Merging two sorted runs: the program's function.
Sorting with limited memory:the program's function.
Lengths of encodings:the reference's,by the encoding itself.
The number of parts and sorting with limited memory:the reference's functions. -/
import Derived.Test.YtpifchdngodgjaaGreatDoorMSS
import Derived.Test.YtpifchdngodgjaaGreatDoorMF
import Derived.Test.YtpifchdngodgjaaGreatDoorMG
import Derived.Test.YtpifchdngodgjaaGreatDoorMC
set_option linter.unusedVariables false
set_option linter.unusedSimpArgs false
namespace Go.Proofs.YtpifchdngodgjaaGreatDoor
open Go.Am Go.Am.Srt
theorem merge_l (m:Nat) (hm:300000000000≤m∧m<8000000000000000000) (l:List Dt) (hl:l.length≤100):∀(M n:Nat) (X Y acc:List Dt),X.length+Y.length=n→n<M→(∀x∈X,DocOK x)→(∀y∈Y,DocOK y)→acc.length+n≤1000000→
  zL_l1 (m+4) M l X Y acc=some (acc++mg (ltc (cmpO l)) n X Y)
 |0,n,_,_,_,_,h,_,_,_=>by omega
 |M+1,n,[],Y,acc,hn,h,_,_,ha=>by
  have e:mg (ltc (cmpO l)) n [] Y=Y:=by cases n<;>simp[mg]
  have hY:Y.length=n:=by simpa using hn
  simp only[zL_l1,List.length_nil,show decide ((0:Int)<((0:Nat):Int))=false from rfl,cond_false,zL_j2,zL_j3,zL_j0,e]
  rw[app_le (by rw[List.length_nil];omega),Option.bind_some,app_le (by rw[List.append_nil];omega),Option.bind_some,List.append_nil]
 |M+1,n,x::a,[],acc,hn,h,_,_,ha=>by
  have hX:(x::a).length=n:=by simpa using hn
  have e:mg (ltc (cmpO l)) n (x::a) []=x::a:=by cases n<;>simp[mg]
  have e0:decide ((0:Int)<(((x::a).length:Nat):Int))=true:=decide_eq_true (by rw[List.length_cons];omega)
  simp only[zL_l1,e0,cond_true,List.length_nil,show decide ((0:Int)<((0:Nat):Int))=false from rfl,cond_false,zL_j2,zL_j3,zL_j0,e]
  rw[app_le (by omega),Option.bind_some,app_le (by rw[List.length_append,List.length_nil];omega),Option.bind_some,List.append_nil]
 |M+1,0,x::a,y::b,acc,hn,_,_,_,_=>by simp at hn
 |M+1,n+1,x::a,y::b,acc,hn,h,hX,hY,ha=>by
  have e0:decide ((0:Int)<(((x::a).length:Nat):Int))=true:=decide_eq_true (by rw[List.length_cons];omega)
  have e1:decide ((0:Int)<(((y::b).length:Nat):Int))=true:=decide_eq_true (by rw[List.length_cons];omega)
  have hc:=oCompare_eq m (by omega) l x y (hX x List.mem_cons_self) (hY y List.mem_cons_self) hl
  have e2:decide (cmpO l x y≤0)=!ltc (cmpO l) y x:=by
   have han:=(tpoO l).anti x y
   unfold ltc
   by_cases h0:cmpO l y x<0
   ·rw[decide_eq_true h0,decide_eq_false (by omega)];rfl
   ·rw[decide_eq_false h0,decide_eq_true (by omega)];rfl
  simp only[List.length_cons] at hn
  simp only[zL_l1,e0,e1,cond_true,zL_j2,zL_j3,zL_j0,idx_head,Option.bind_some,hc,e2]
  rw[mg]
  cases ltc (cmpO l) y x
  ·simp only[Bool.not_false,cond_true,cond_false]
   rw[app_le (by rw[List.length_singleton];omega),Option.bind_some,cutL_tail,Option.bind_some,merge_l m hm l hl M n a (y::b) (acc++[x]) (by rw[List.length_cons];omega) (by omega) (fun z hz=>hX z (List.mem_cons_of_mem _ hz)) hY (by rw[List.length_append,List.length_singleton];omega)]
   simp
  ·simp only[Bool.not_true,cond_true,cond_false]
   rw[app_le (by rw[List.length_singleton];omega),Option.bind_some,cutL_tail,Option.bind_some,merge_l m hm l hl M n (x::a) b (acc++[y]) (by rw[List.length_cons];omega) (by omega) hX (fun z hz=>hY z (List.mem_cons_of_mem _ hz)) (by rw[List.length_append,List.length_singleton];omega)]
   simp
theorem merge_eq (m:Nat) (hm:300000000000≤m∧m<8000000000000000000) (l:List Dt) (hl:l.length≤100) (X Y:List Dt) (hn:X.length+Y.length≤100000) (hX:∀x∈X,DocOK x) (hY:∀y∈Y,DocOK y) (aX:Asc (ltc (cmpO l)) X) (aY:Asc (ltc (cmpO l)) Y):
  zL (m+5) l X Y=some (sortD l (X++Y)):=by
 have e:=wrapA (a:=X.length) (b:=Y.length) (by omega)
 have hk:∀z:Dt,mkL 0 ((X.length+Y.length:Nat):Int) z=some []:=fun z=>by
  unfold mkL
  rw[if_pos (by omega)]
  rfl
 rw[zL,e,hk,Option.bind_some,zL_j0]
 have:=merge_l m hm l hl (m+5) (X.length+Y.length) X Y [] rfl (by omega) hX hY (by rw[List.length_nil];omega)
 rw[mg_isort (swo (tpoO l)) _ X Y (Nat.le_refl _) aX aY,List.nil_append] at this
 exact this
end Go.Proofs.YtpifchdngodgjaaGreatDoor
namespace Go.Proofs.YtpifchdngodgjaaGreatDoor
open Go.Am Go.Am.Srt
theorem pairUp_mem {lt:Dt→Dt→Bool}:∀(R:List (List Dt)) (r:List Dt),r∈pairUp lt R→∀x∈r,∃s∈R,x∈s
 | [],r,h,_,_=>absurd h List.not_mem_nil
 | [s],r,h,x,hx=>⟨r,h,hx⟩
 |a::b::R,r,h,x,hx=>by
  rw[pairUp] at h
  rcases List.mem_cons.1 h with rfl|h
  ·rcases List.mem_append.1 (mem_isort.1 hx) with g|g
   ·exact⟨a,by simp,g⟩
   ·exact⟨b,by simp,g⟩
  ·obtain⟨s,hs,hxs⟩:=pairUp_mem R r h x hx
   exact⟨s,by simp[hs],hxs⟩
theorem pairUp_flen {lt:Dt→Dt→Bool}:∀R:List (List Dt),(pairUp lt R).flatten.length=R.flatten.length
 | []=>rfl
 | [s]=>rfl
 |a::b::R=>by
  rw[pairUp,List.flatten_cons,List.flatten_cons,List.flatten_cons,List.length_append,List.length_append,List.length_append,isort_len,List.length_append,pairUp_flen R]
  omega
theorem getD1 {A:Type} (X Y:List A) (x:A):(X++x::Y)[X.length]? =some x:=by simp
theorem getD2 {A:Type} (X Y:List A) (x y:A):(X++x::y::Y)[X.length+1]? =some y:=by
 rw[List.getElem?_append_right (by omega)]
 simp
section
variable (m:Nat) (hm:300000000000≤m∧m<8000000000000000000) (l:List Dt) (hl:l.length≤100)
include hm hl
theorem pair_l (rec7:List Dt→List Dt→List Dt→Option (List Dt×Int×Int)) (PP:List Dt):∀(M:Nat) (pre rest:List (List Dt)) (acc:List Dt),rest.length+1<M→(∀r∈rest,Asc (ltc (cmpO l)) r)→(∀r∈rest,∀x∈r,DocOK x)→rest.flatten.length≤100000→acc.length+rest.length≤1000000→pre.length+rest.length≤1000000→
  qA_l10 (m+5) rec7 M l PP (pre.length:Int) ((pre++rest).map Dt.lst) acc=rec7 l PP (acc++(pairUp (ltc (cmpO l)) rest).map Dt.lst)
 |0,_,_,_,h,_,_,_,_,_=>by omega
 |M+1,pre,[],acc,_,_,_,_,_,_=>by
  have e:decide ((pre.length:Int)<(((pre++[]).map Dt.lst).length:Int))=false:=decide_eq_false (by simp)
  rw[qA_l10,e,cond_false,pairUp,List.map_nil,List.append_nil]
  simp only[qA_j5,qA_j4,qA_j12,qA_j11,qA_j13,qA_j9,qA_j8,qA_j14,qA_j6,qA_j2,qA_j1,qA_j0]
 |1,pre,[x],acc,h,_,_,_,_,_=>by simp at h
 |M+2,pre,[x],acc,h,hA,hD,hf,ha,hp=>by
  have hp:pre.length+1≤1000000:=by simpa using hp
  have e:decide ((pre.length:Int)<(((pre++[x]).map Dt.lst).length:Int))=true:=decide_eq_true (by rw[List.length_map,List.length_append,List.length_singleton];omega)
  have ew:IntKind.wrap IntKind.i64 ((pre.length:Int)+1)=((pre.length+1:Nat):Int):=wrapS (by omega)
  have ew2:IntKind.wrap IntKind.i64 ((pre.length:Int)+2)=((pre.length+2:Nat):Int):=wrapA (b:=2) (by omega)
  have e1:decide (((pre.length+1:Nat):Int)<(((pre++[x]).map Dt.lst).length:Int))=false:=decide_eq_false (by rw[List.length_map,List.length_append,List.length_singleton];omega)
  have e2:decide (((pre.length+2:Nat):Int)<(((pre++[x]).map Dt.lst).length:Int))=false:=decide_eq_false (by rw[List.length_map,List.length_append,List.length_singleton];omega)
  have hx:inL ((pre++[x]).map Dt.lst) (pre.length:Int)=some ():=inL_lt (by simp)
  have hg:((pre++[x]).map Dt.lst)[(pre.length:Int).toNat]? =some (Dt.lst x):=by rw[Int.toNat_natCast,List.getElem?_map,getD1];rfl
  have hap:app acc [Dt.lst x]=some (acc++[Dt.lst x]):=app_le (by simp at ha ⊢;omega)
  rw[qA_l10,e,cond_true]
  simp only[qA_j5,qA_j4,qA_j12,qA_j11,qA_j13,qA_j9,qA_j8,qA_j14,qA_j6,qA_j2,qA_j1,qA_j0,ew,e1,cond_false,hx,hg,Option.bind_some,Dt.toLst,hap,ew2]
  rw[qA_l10,e2,cond_false]
  simp only[qA_j5,qA_j4,qA_j12,qA_j11,qA_j13,qA_j9,qA_j8,qA_j14,qA_j6,qA_j2,qA_j1,qA_j0,pairUp,List.map_cons,List.map_nil]
 |M+1,pre,x::y::r,acc,h,hA,hD,hf,ha,hp=>by
  simp only[List.length_cons] at h ha hp
  have e:decide ((pre.length:Int)<(((pre++x::y::r).map Dt.lst).length:Int))=true:=decide_eq_true (by rw[List.length_map,List.length_append,List.length_cons,List.length_cons];omega)
  have ew:IntKind.wrap IntKind.i64 ((pre.length:Int)+1)=((pre.length+1:Nat):Int):=wrapS (by omega)
  have ew2:IntKind.wrap IntKind.i64 ((pre.length:Int)+2)=((pre.length+2:Nat):Int):=wrapA (b:=2) (by omega)
  have e1:decide (((pre.length+1:Nat):Int)<(((pre++x::y::r).map Dt.lst).length:Int))=true:=decide_eq_true (by rw[List.length_map,List.length_append,List.length_cons,List.length_cons];omega)
  have hx:inL ((pre++x::y::r).map Dt.lst) (pre.length:Int)=some ():=inL_lt (by simp)
  have hx2:inL ((pre++x::y::r).map Dt.lst) ((pre.length+1:Nat):Int)=some ():=inL_lt (by simp)
  have hg:((pre++x::y::r).map Dt.lst)[(pre.length:Int).toNat]? =some (Dt.lst x):=by rw[Int.toNat_natCast,List.getElem?_map,getD1];rfl
  have hg2:((pre++x::y::r).map Dt.lst)[((pre.length+1:Nat):Int).toNat]? =some (Dt.lst y):=by rw[Int.toNat_natCast,List.getElem?_map,getD2];rfl
  have hf':x.length+y.length+r.flatten.length≤100000:=by
   rw[List.flatten_cons,List.flatten_cons,List.length_append,List.length_append] at hf;omega
  have hmg:=merge_eq m hm l hl x y (by omega) (hD x (by simp)) (hD y (by simp)) (hA x (by simp)) (hA y (by simp))
  have hap:app acc [Dt.lst (sortD l (x++y))]=some (acc++[Dt.lst (sortD l (x++y))]):=app_le (by simp;omega)
  rw[qA_l10,e,cond_true]
  simp only[qA_j5,qA_j4,qA_j12,qA_j11,qA_j13,qA_j9,qA_j8,qA_j14,qA_j6,qA_j2,qA_j1,qA_j0,ew,e1,cond_true,hx,hg,hx2,hg2,Option.bind_some,Dt.toLst,hmg,hap,ew2]
  have ih:=pair_l rec7 PP M (pre++[x,y]) r (acc++[Dt.lst (sortD l (x++y))]) (by omega) (fun s hs=>hA s (by simp[hs])) (fun s hs=>hD s (by simp[hs])) (by omega) (by simp;omega) (by simp;omega)
  have el:(pre++[x,y]).length=pre.length+2:=by simp
  rw[el,List.append_assoc,List.cons_append,List.cons_append,List.nil_append] at ih
  rw[ih,pairUp,List.map_cons,List.append_assoc,List.singleton_append]
  rfl
theorem outer_l (PP:List Dt):∀(M:Nat) (R:List (List Dt)),R≠[]→R.length<M→(∀r∈R,Asc (ltc (cmpO l)) r)→(∀r∈R,∀x∈r,DocOK x)→R.flatten.length≤100000→R.length≤100000→
  qA_l7 (m+5) M l PP (R.map Dt.lst)=some (isort (ltc (cmpO l)) R.flatten,(PP.length:Int),0)
 |0,_,_,h,_,_,_,_=>by omega
 |M+1,[],h0,_,_,_,_,_=>absurd rfl h0
 |M+1,[r],_,_,hA,_,_,_=>by
  have e:decide ((1:Int)<((([r]:List (List Dt)).map Dt.lst).length:Int))=false:=rfl
  have hx:inL [Dt.lst r] 0=some ():=inL_hd _ _
  have ho:=one_run (swo (tpoO l)) (hA r (by simp)) (D:=[r].flatten) rfl
  rw[qA_l7,e,cond_false]
  simp only[qA_j5,qA_j4,qA_j12,qA_j11,qA_j13,qA_j9,qA_j8,qA_j14,qA_j6,qA_j2,qA_j1,qA_j0,List.map_cons,List.map_nil,hx,Option.bind_some,List.getElem?_cons_zero,Dt.toLst]
  rw[←ho]
 |M+1,a::b::R,_,h,hA,hD,hf,hn=>by
  simp only[List.length_cons] at h hn
  have e:decide ((1:Int)<(((a::b::R).map Dt.lst).length:Int))=true:=decide_eq_true (by simp;omega)
  obtain⟨i1,i2⟩:=pairUp_inv (swo (tpoO l)) (a::b::R) hA
  have hlen:=pairUp_len (lt:=ltc (cmpO l)) (a::b::R)
  simp only[List.length_cons] at hlen
  have hp:=pair_l m hm l hl (qA_l7 (m+5) M) PP (m+6) [] (a::b::R) [] (by simp;omega) hA hD hf (by simp;omega) (by simp;omega)
  rw[List.nil_append,List.nil_append] at hp
  rw[qA_l7,e,cond_true]
  simp only[qA_j5,qA_j4,qA_j12,qA_j11,qA_j13,qA_j9,qA_j8,qA_j14,qA_j6,qA_j2,qA_j1,qA_j0]
  refine hp.trans ?_
  rw[outer_l PP M (pairUp (ltc (cmpO l)) (a::b::R)) (by rw[pairUp];simp) (by omega) i1 (fun r hr x hx=>by
   obtain⟨s,hs,hxs⟩:=pairUp_mem _ _ hr x hx
   exact hD s hs x hxs) (by rw[pairUp_flen];exact hf) (by omega),i2]
theorem runs_l (P:List (List Dt)) (hD:∀p∈P,∀x∈p,DocOK x) (hP:∀p∈P,p.length≤1000) (hn:P.length≤100000) (z:Dt):∀(M i:Nat),i≤P.length→P.length-i<M→
  qA_l3 (m+5) M l (P.map Dt.lst) (P.map Dt.lst) (P.length:Int) (i:Int) ((P.take i).map (fun p=>Dt.lst (sortD l p))++List.replicate (P.length-i) z)=qA_l7 (m+5) (m+6) l (P.map Dt.lst) ((P.map (sortD l)).map Dt.lst)
 |0,i,_,h=>by omega
 |M+    1,i,hi,h=>by
  simp only[qA_l3,dlt]
  by_cases hlt:i<P.length
  ·have lm:((P.take i).map fun p=>Dt.lst (sortD l p)).length=i:=by simp;omega
   have hx:i<((P.take i).map (fun p=>Dt.lst (sortD l p))++List.replicate (P.length-i) z).length:=by rw[List.length_append,lm,List.length_replicate];omega
   have hs:((P.take i).map (fun p=>Dt.lst (sortD l p))++List.replicate (P.length-i) z).set i (Dt.lst (sortD l P[i]))=(P.take (i+1)).map (fun p=>Dt.lst (sortD l p))++List.replicate (P.length-(i+1)) z:=by
        rw[List.set_append_right _ _ (by omega),lm,Nat.sub_self,show P.length-i=(P.length-(i+1))+1 by omega,List.replicate_succ,List.set_cons_zero,List.take_succ_eq_append_getElem hlt,List.map_append,List.append_assoc]
        rfl
   have hi':idx (P.map Dt.lst) (i:Int)=some (Dt.lst P[i]):=by rw[idx_lt (by simpa using hlt)];simp
   have ho:=oSort_eq m hm l P[i] hl (hD _ (List.getElem_mem hlt)) (hP _ (List.getElem_mem hlt))
   simp only[hlt,decide_true,cond_true,qA_j5,qA_j4,qA_j12,qA_j11,qA_j13,qA_j9,qA_j8,qA_j14,qA_j6,qA_j2,qA_j1,qA_j0,hi',Option.bind_some,Dt.toLst,ho,inL_lt hx,Int.toNat_natCast,List.getElem?_eq_getElem hx,hs,wrapS (show i<9223372036854775807 by omega)]
   exact runs_l P hD hP hn z M (i+1) (by omega) (by omega)
  ·have:i=P.length:=by omega
   subst this
   simp[qA_j5,qA_j4,qA_j12,qA_j11,qA_j13,qA_j9,qA_j8,qA_j14,qA_j6,qA_j2,qA_j1,qA_j0]
   rfl
noncomputable def nparts (g:Dt→Nat) (mem:Int) (D:List Dt):Nat:=bif (splitP g mem [] 0 D).1.isEmpty&&decide (((splitP g mem [] 0 D).2.2:Int)≤mem) then 0 else(splitP g mem [] 0 D).1.length+1
theorem sSort_eq (D:List Dt) (hD:∀d∈D,DocOK d) (hn:D.length≤1000) (mem:Int) (h2:mem≤9223372036854775807) (al:Bool) (g:Dt→Nat) (hg:∀d∈D,zW (m+4) d=some (((g d:Nat):Int),0)) (hb:(D.map g).sum<1000000000000):
  qA (m+6) l D mem al=some (bif decide (mem<1) then([],0,1) else bif nparts g mem D==0 then(sortD l D,0,0) else bif al then(sortD l D,(nparts g mem D:Int),0) else([],0,22)):=by
 rw[qA]
 by_cases h1:mem<1
 ·rw[sparts_arg (m+4) D mem al h1,Option.bind_some,decide_eq_true h1,cond_true]
  rfl
 rw[sparts_eq (m+4) D mem al g hg (by omega) h2 (by omega) (by omega) hb,Option.bind_some,decide_eq_false h1,cond_false]
 have hflat:=split_flat g mem D [] 0
 have hlen:=split_len g mem D [] 0
 unfold nparts
 unfold finP
 generalize splitP g mem [] 0 D=q at hflat hlen ⊢
 obtain⟨C,last,sz⟩:=q
 simp only[List.nil_append] at hflat hlen ⊢
 have hLL:(C.map Dt.lst).isEmpty=C.isEmpty:=by cases C<;>rfl
 rw[hLL]
 cases hc:(C.isEmpty&&decide ((sz:Int)≤mem))
 ·have e0 :(C.length+1==0)=false:=rfl
  rw[cond_false,cond_false,e0,cond_false]
  cases al
  ·rfl
  ·rw[   cond_true,cond_true]
   have hP:C.map Dt.lst++[Dt.lst last]=(C++[last]).map Dt.lst:=by simp
   have hfl:(C++[last]).flatten=D:=by rw[←hflat];simp
   have hmem:∀p∈C++[last],∀x∈p,x∈D:=fun p hp x hx=>by rw[←hfl];exact List.mem_flatten.2 ⟨p,hp,hx⟩
   have hpl:∀p∈C++[last],p.length≤1000:=fun p hp=>by
        have:p.length≤(C++[last]).flatten.length:=(List.sublist_flatten_of_mem hp).length_le
        rw[hfl] at this;omega
   have hk:=runs_l m hm l hl (C++[last]) (fun p hp x hx=>hD x (hmem p hp x hx)) hpl (by simp;omega) (Dt.lst []) (m+6) 0 (Nat.zero_le _) (by simp;omega)
   rw[List.take_zero,List.map_nil,List.nil_append,Nat.sub_zero] at hk
   have ho:=outer_l m hm l hl ((C++[last]).map Dt.lst) (m+6) ((C++[last]).map (sortD l)) (by simp) (by simp;omega) (fun r hr=>by
        obtain⟨p,_,rfl⟩:=List.mem_map.1 hr
        exact asc_isort (swo (tpoO l)) p) (fun r hr x hx=>by
        obtain⟨p,hp,rfl⟩:=List.mem_map.1 hr
        exact hD x (hmem p hp x (mem_isort.1 hx))) (by
         have:∀L:List (List Dt),(L.map (sortD l)).flatten.length=L.flatten.length:=fun L=>by
          induction L with
          |nil=>rfl
          |cons a r ih=>rw[List.map_cons,List.flatten_cons,List.flatten_cons,List.length_append,List.length_append,ih,sortD,isort_len]
         rw[this,hfl];omega) (by simp;omega)
   have hs:isort (ltc (cmpO l)) ((C++[last]).map (sortD l)).flatten=sortD l D:=by
        have:=flat_isort (swo (tpoO l)) (C++[last])
        rw[hfl] at this
        exact this
   rw[hP]
   have el:((C++[last]).map Dt.lst).length=(C++[last]).length:=List.length_map _
   have e1:(((C++[last]).length:Int)==0)=false:=by rw[beq_eq_false_iff_ne,List.length_append,List.length_singleton];omega
   have hmk:=mkL_nat (n:=(C++[last]).length) (z:=Dt.lst []) (by simp;omega)
   have e2:((0:Int) !=0)=false:=rfl
   simp only[e2,cond_false,qA_j5,qA_j4,qA_j12,qA_j11,qA_j13,qA_j9,qA_j8,qA_j14,qA_j6,qA_j2,qA_j1,qA_j0,el,e1,hmk,Option.bind_some]
   refine hk.trans ?_
   rw[ho,hs,el]
   simp
 ·have e2:((0:Int) !=0)=false:=rfl
  have e3:((([]:List Dt).length:Int)==0)=true:=rfl
  have ho:=oSort_eq m hm l D hl hD hn
  rw[cond_true,cond_true]
  simp only[e2,cond_false,qA_j5,qA_j4,qA_j12,qA_j11,qA_j13,qA_j9,qA_j8,qA_j14,qA_j6,qA_j2,qA_j1,qA_j0,e3,cond_true,ho,Option.bind_some]
  rfl
end
end Go.Proofs.YtpifchdngodgjaaGreatDoor
namespace Go.Proofs.YtpifchdngodgjaaGreatDoor
open Go.Am
theorem gr_s (k u:Nat):gr (k+1) u=if u<128 then 0 else gr k (u/128)+1:=rfl
theorem gr_fuel:∀k u,u<128^(k+1)→gr (k+1) u=gr k u
 |0,u,h=>by
  have:u<128:=by simpa using h
  rw[gr_s,if_pos this]
  rfl
 |k+1,u,h=>by
  have a:=gr_s (k+1) u
  have b:=gr_s k u
  by_cases hu:u<128
  ·rw[if_pos hu] at a b
   rw[a,b]
  ·rw[if_neg hu] at a b
   rw[a,b,gr_fuel k (u/128) (Nat.div_lt_of_lt_mul (by rw[Nat.pow_succ,Nat.mul_comm] at h;exact h))]
theorem one_size (x:Int):(strOfNums [x]).size=1:=by rw[strOfNums_size];rfl
theorem ble_lim {a b:Nat} (h:a+b≤1152921504606846976):Nat.ble (a+b) 1152921504606846976=true:=Nat.ble_eq_true_of_le h
theorem rnum_l (m:Nat):∀(K M u:Nat) (s:ByteArray),K≤10→K<M→u<18446744073709551616→s.size+K+20≤1000000000000000→∃t,zJ_l2 m M (u:Int) s ((10-K:Nat):Int)=some t∧t.size=s.size+gr K u+1
 |_,0,_,_,_,h,_,_=>by omega
 |0,M+1,u,s,_,_,_,hs=>by
  have e:decide (((10-0:Nat):Int)<10)=false:=rfl
  rw[zJ_l2,e,cond_false]
  simp only[zJ_j4,zJ_j3,zJ_j5,zJ_j1,zJ_j0,one_size,ble_lim (show s.size+1≤1152921504606846976 by omega),cond_true]
  exact⟨_,rfl,by rw[ByteArray.size_append,one_size,gr]⟩
 |K+    1,M+1,u,s,hK,hM,hu,hs=>by
  have e:decide (((10-(K+1):Nat):Int)<10)=true:=decide_eq_true (by omega)
  rw[zJ_l2,e,cond_true,gr]
  by_cases h:u<128
  ·rw[decide_eq_false (by omega),cond_false,if_pos h]
   simp only[zJ_j4,zJ_j3,zJ_j5,zJ_j1,zJ_j0,one_size,ble_lim (show s.size+1≤1152921504606846976 by omega),cond_true]
   exact⟨_,rfl,by rw[ByteArray.size_append,one_size]⟩
  ·rw[decide_eq_true (by omega),cond_true,if_neg h]
   have e1:IntKind.wrap IntKind.u64 (Int.tdiv (u:Int) 128)=((u/128:Nat):Int):=by
        rw[show Int.tdiv (u:Int) 128=((u/128:Nat):Int) from rfl,wrapU64];omega
   have e2:IntKind.wrap IntKind.i64 (((10-(K+1):Nat):Int)+1)=((10-K:Nat):Int):=by
        rw[wrapS (by omega)];congr 1;omega
   simp only[zJ_j4,zJ_j3,zJ_j5,zJ_j1,zJ_j0,one_size,ble_lim (show s.size+1≤1152921504606846976 by omega),cond_true,e1,e2]
   by_cases hK':K=0
   ·    subst hK'
        obtain⟨t,t1,t2⟩:=rnum_l m 0 M (u/128) (s++strOfNums [orI IntKind.u8 (IntKind.wrap IntKind.u8 (Int.tmod (u:Int) 128)) 128]) (by omega) (by omega) (by omega) (by rw[ByteArray.size_append,one_size];omega)
        exact⟨t,t1,by rw[t2,ByteArray.size_append,one_size];omega⟩
   ·    obtain⟨t,t1,t2⟩:=rnum_l m K M (u/128) (s++strOfNums [orI IntKind.u8 (IntKind.wrap IntKind.u8 (Int.tmod (u:Int) 128)) 128]) (by omega) (by omega) (by omega) (by rw[ByteArray.size_append,one_size];omega)
        exact⟨t,t1,by rw[t2,ByteArray.size_append,one_size];omega⟩
theorem compl_eq (x:Nat) (h:x<18446744073709551616):complI IntKind.u64 (x:Int)=((18446744073709551615-x:Nat):Int):=by
 have e1:complI IntKind.u64 (x:Int)=IntKind.wrap IntKind.u64 (((BitVec.ofInt 64 18446744073709551615^^^BitVec.ofInt 64 (x:Int)).toNat:Nat):Int):=rfl
 have e5:((BitVec.ofInt 64 18446744073709551615^^^BitVec.ofInt 64 (x:Int)).toNat:Int)=((18446744073709551615-x:Nat):Int):=by
  have e6:BitVec.ofInt 64 18446744073709551615=BitVec.allOnes 64:=by decide
  have:(BitVec.ofInt 64 18446744073709551615^^^BitVec.ofInt 64 (x:Int))= ~~~ BitVec.ofInt 64 (x:Int):=by
   rw[e6,BitVec.xor_comm,BitVec.xor_allOnes]
  rw[this,BitVec.toNat_not,BitVec.toNat_ofInt]
  omega
 rw[e1,e5,wrapU64]
 omega
theorem rnum_eq (m:Nat) (hm:12≤m) (n:Int) (h1: -9223372036854775808≤n) (h2:n≤9223372036854775807):∃t,zJ (m+1) n=some t∧t.size=nlen n:=by
 have hz:=zz_lt h1 h2
 have hl:shlI IntKind.u64 (IntKind.wrap IntKind.u64 n) (1:Int)=IntKind.wrap IntKind.u64 (IntKind.wrap IntKind.u64 n*2):=rfl
 have go:∃t,zJ_l2 m (m+1) ((zz n:Nat):Int) (ByteArray.mk (List.toArray [])) ((10-10:Nat):Int)=some t∧t.size=(ByteArray.mk (List.toArray [])).size+gr 10 (zz n)+1:=rnum_l m 10 (m+1) (zz n) (ByteArray.mk (List.toArray [])) (by omega) (by omega) hz (by show 0+10+20≤_;omega)
 obtain⟨t,t1,t2⟩:=go
 refine⟨t,?_,?_⟩
 ·rw[   zJ,hl]
  by_cases h:n<0
  ·have e2:IntKind.wrap IntKind.u64 n=n+18446744073709551616:=by rw[wrapU64];omega
   have e3:IntKind.wrap IntKind.u64 ((n+18446744073709551616)*2)=((18446744073709551615-zz n:Nat):Int):=by
        rw[wrapU64];unfold zz;rw[if_neg (by omega)];omega
   rw[decide_eq_true h,cond_true,e2,e3,compl_eq _ (by omega),show 18446744073709551615-(18446744073709551615-zz n)=zz n by omega]
   exact t1
  ·have e2:IntKind.wrap IntKind.u64 n=n:=by rw[wrapU64];omega
   have e3:IntKind.wrap IntKind.u64 (n*2)=((zz n:Nat):Int):=by
        rw[wrapU64];unfold zz;rw[if_pos (by omega)];omega
   rw[decide_eq_false h,cond_false,e2,e3]
   exact t1
 ·rw[t2,gr_fuel 9 (zz n) (by rw[show (128:Nat)^(9+1)=1180591620717411303424 from by decide];omega)]
  show 0+gr 9 (zz n)+1=_
  unfold nlen;omega
theorem pln_l (m:Nat) (self:Dt→Option ByteArray) (d:Dt) (g:Dt→Nat) (hl:(Dt.L d 3).length<1000000000000) (hs:∀e∈Dt.L d 3,∃t,self e=some t∧t.size=g e):∀(M i:Nat) (s:ByteArray),i≤(Dt.L d 3).length→(Dt.L d 3).length-i<M→s.size+(((Dt.L d 3).drop i).map g).sum<1000000000000→∃t,qK_l4 m self M s (i:Int) d=some t∧t.size=s.size+(((Dt.L d 3).drop i).map g).sum
 |0,i,s,_,h,_=>by omega
 |M+1,i,s,hi,h,hb=>by
  simp only[qK_l4,dlt]
  by_cases hlt:i<(Dt.L d 3).length
  ·rw[List.drop_eq_getElem_cons hlt,List.map_cons,List.sum_cons] at hb ⊢
   obtain⟨r,r1,r2⟩:=hs _ (List.getElem_mem hlt)
   simp only[hlt,decide_true,cond_true,qK_j1,qK_j6,qK_j5,qK_j3,qK_j10,qK_j9,qK_j7,qK_j2,qK_j0,idx_lt hlt,Option.bind_some,r1,ble_lim (show s.size+r.size≤1152921504606846976 by omega),wrapS (show i<9223372036854775807 by omega)]
   obtain⟨t,t1,t2⟩:=pln_l m self d g hl hs M (i+1) (s++r) (by omega) (by omega) (by rw[ByteArray.size_append];omega)
   exact⟨t,t1,by rw[t2,ByteArray.size_append,r2];omega⟩
  ·have:(Dt.L d 3).drop i=[]:=List.drop_eq_nil_of_le (by omega)
   exact⟨s,by simp[hlt,qK_j1,qK_j6,qK_j5,qK_j3,qK_j10,qK_j9,qK_j7,qK_j2,qK_j0],by simp[this]⟩
theorem pln_l2 (m:Nat) (hm:12≤m) (self:Dt→Option ByteArray) (d:Dt) (g:Dt→Nat) (hl:(Dt.L d 4).length<1000000000000) (hz:∀f∈Dt.L d 4,(Dt.S f 0).size<1000000000000) (hs:∀f∈Dt.L d 4,∃t,self (Dt.fld f 1)=some t∧t.size=g f):∀(M i:Nat) (s:ByteArray),i≤(Dt.L d 4).length→(Dt.L d 4).length-i<M→s.size+(((Dt.L d 4).drop i).map fun f=>nlen (Dt.S f 0).size+(Dt.S f 0).size+g f).sum<1000000000000→∃t,qK_l8 (m+1) self M s (i:Int) d=some t∧t.size=s.size+(((Dt.L d 4).drop i).map fun f=>nlen (Dt.S f 0).size+(Dt.S f 0).size+g f).sum
 |0,i,s,_,h,_=>by omega
 |M+1,i,s,hi,h,hb=>by
  simp only[qK_l8,dlt]
  by_cases hlt:i<(Dt.L d 4).length
  ·rw[List.drop_eq_getElem_cons hlt,List.map_cons,List.sum_cons] at hb ⊢
   obtain⟨n,n1,n2⟩:=rnum_eq m hm (Dt.S (Dt.L d 4)[i] 0).size (by omega) (by have:=hz _ (List.getElem_mem hlt);omega)
   obtain⟨r,r1,r2⟩:=hs _ (List.getElem_mem hlt)
   simp only[hlt,decide_true,cond_true,qK_j1,qK_j6,qK_j5,qK_j3,qK_j10,qK_j9,qK_j7,qK_j2,qK_j0,idx_lt hlt,Option.bind_some,n1,r1,ByteArray.size_append,ble_lim (show s.size+n.size≤1152921504606846976 by omega),ble_lim (show s.size+n.size+(Dt.S (Dt.L d 4)[i] 0).size≤1152921504606846976 by omega),ble_lim (show s.size+n.size+(Dt.S (Dt.L d 4)[i] 0).size+r.size≤1152921504606846976 by omega),wrapS (show i<9223372036854775807 by omega)]
   obtain⟨t,t1,t2⟩:=pln_l2 m hm self d g hl hz hs M (i+1) (s++n++Dt.S (Dt.L d 4)[i] 0++r) (by omega) (by omega) (by rw[ByteArray.size_append,ByteArray.size_append,ByteArray.size_append];omega)
   exact⟨t,t1,by rw[t2,ByteArray.size_append,ByteArray.size_append,ByteArray.size_append,r2,n2];omega⟩
  ·have:(Dt.L d 4).drop i=[]:=List.drop_eq_nil_of_le (by omega)
   exact⟨s,by simp[hlt,qK_j1,qK_j6,qK_j5,qK_j3,qK_j10,qK_j9,qK_j7,qK_j2,qK_j0],by simp[this]⟩
theorem plain_eq:∀(N:Nat) (d:Dt),WV d→WR d→d.bulk≤N→N≤100000000000→∀m,N+30≤m→∃t,qK (m+1) d=some t∧t.size=lenF N d
 |0,d,_,_,h,_,_,_=>by have:=bulk_pos d;omega
 |N+1,d,hw,hr,h,hN,m,hm=>by
  obtain⟨p1,p2,p3,p4⟩:=wv_parts hw
  obtain⟨r1,r3,r4⟩:=wr_parts hr
  have hz:=wv_size hw
  have hle:=lenF_le (N+1) d hw
  obtain⟨q,rfl⟩:∃q,m=q+1:=⟨m-1,by omega⟩
  have k3:=pln_l (q+1) (qK (q+1)) d (lenF N) (by omega) (fun e he=>plain_eq N e (p3 e he).1 (r3 e he) (by have:=(p3 e he).2;omega) (by omega) q (by omega)) (q+2) 0
  have k4:=pln_l2 q (by omega) (qK (q+1)) d (fun f=>lenF N (Dt.fld f 1)) (by omega) (fun f hf=>by have:=wf_size hw f hf;have:=bulk_mem hf;omega) (fun f hf=>plain_eq N _ (p4 f hf).1 (r4 f hf) (by have:=(p4 f hf).2;omega) (by omega) q (by omega)) (q+2) 0
  obtain⟨t1,a1,b1⟩:=rnum_eq q (by omega) (Dt.I d 1) r1.1 r1.2
  obtain⟨t2,a2,b2⟩:=rnum_eq q (by omega) (Dt.S d 2).size (by omega) (by omega)
  obtain⟨t3,a3,b3⟩:=rnum_eq q (by omega) (Dt.L d 3).length (by omega) (by omega)
  obtain⟨t4,a4,b4⟩:=rnum_eq q (by omega) (Dt.L d 4).length (by omega) (by omega)
  have l1:=nlen_le (Dt.I d 1)
  have l2:=nlen_le (Dt.S d 2).size
  have l3:=nlen_le (Dt.L d 3).length
  have l4:=nlen_le (Dt.L d 4).length
  rw[lenF] at hle ⊢
  simp only[qK,qK_j1,qK_j6,qK_j5,qK_j3,qK_j10,qK_j9,qK_j7,qK_j2,qK_j0]
  cases e3:(Dt.I d 0==3)
  case true=>
   simp only[cond_true,a1,Option.bind_some,one_size,ble_lim (show 1+t1.size≤1152921504606846976 by omega)]
   exact⟨_,rfl,by rw[ByteArray.size_append,one_size,b1]⟩
  cases e10:(Dt.I d 0==10)
  case true=>
   simp only[cond_true,cond_false,a1,Option.bind_some,one_size,ble_lim (show 1+t1.size≤1152921504606846976 by omega)]
   exact⟨_,rfl,by rw[ByteArray.size_append,one_size,b1]⟩
  cases e9:(Dt.I d 0==9)
  case true=>
   simp only[cond_true,cond_false,one_size,ble_lim (show 1+1≤1152921504606846976 by omega)]
   exact⟨_,rfl,by rw[ByteArray.size_append,one_size,one_size]⟩
  cases e4:(Dt.I d 0==4)
  case true=>
   simp only[cond_true,cond_false,a2,Option.bind_some,ByteArray.size_append,one_size,ble_lim (show 1+t2.size≤1152921504606846976 by omega),ble_lim (show 1+t2.size+(Dt.S d 2).size≤1152921504606846976 by omega)]
   exact⟨_,rfl,by rw[ByteArray.size_append,ByteArray.size_append,one_size,b2];omega⟩
  cases e7:(Dt.I d 0==7)
  case true=>
   simp only[cond_true,cond_false,a2,Option.bind_some,ByteArray.size_append,one_size,ble_lim (show 1+t2.size≤1152921504606846976 by omega),ble_lim (show 1+t2.size+(Dt.S d 2).size≤1152921504606846976 by omega)]
   exact⟨_,rfl,by rw[ByteArray.size_append,ByteArray.size_append,one_size,b2];omega⟩
  cases e8:(Dt.I d 0==8)
  case true=>
   simp only[cond_true,cond_false,one_size,ble_lim (show 1+(Dt.S d 2).size≤1152921504606846976 by omega)]
   exact⟨_,rfl,by rw[ByteArray.size_append,one_size]⟩
  cases e6:(Dt.I d 0==6)
  case true=>
   simp only[e3,e10,e9,e4,e7,e8,e6,cond_true,cond_false] at hle
   simp only[cond_true,cond_false,a3,Option.bind_some,one_size,ble_lim (show 1+t3.size≤1152921504606846976 by omega)]
   obtain⟨t,g1,g2⟩:=k3 (strOfNums [IntKind.wrap IntKind.u8 (Dt.I d 0)]++t3) (Nat.zero_le _) (by omega) (by rw[List.drop_zero,ByteArray.size_append,one_size];omega)
   rw[List.drop_zero,ByteArray.size_append,one_size,b3,Nat.add_assoc] at g2
   exact⟨t,g1,g2⟩
  cases e5:(Dt.I d 0==5)
  case true=>
   simp only[e3,e10,e9,e4,e7,e8,e6,e5,cond_true,cond_false] at hle
   simp only[cond_true,cond_false,a4,Option.bind_some,one_size,ble_lim (show 1+t4.size≤1152921504606846976 by omega)]
   obtain⟨t,g1,g2⟩:=k4 (strOfNums [IntKind.wrap IntKind.u8 (Dt.I d 0)]++t4) (Nat.zero_le _) (by omega) (by rw[List.drop_zero,ByteArray.size_append,one_size];omega)
   rw[List.drop_zero,ByteArray.size_append,one_size,b4,Nat.add_assoc] at g2
   exact⟨t,g1,g2⟩
  simp only[cond_false]
  exact⟨_,rfl,one_size _⟩
noncomputable def lenD (d:Dt):Nat:=lenF 1048576 d
theorem cLength_eq {d:Dt} (hw:WV d) (hr:WR d) (hb:d.bulk≤1048576) (hv:okV d=true) (m:Nat) (hm:4000000≤m):zW (m+4) d=some ((lenD d:Int),0):=by
 rw[zW,vValid_eq hw m (by omega) (by omega),hv,Option.bind_some]
 have:=clen_eq 1048576 d hw hr hb (by omega) (m+2) (by omega)
 simp only[Bool.not_true,cond_false,zW_j0,this,Option.bind_some]
 rfl
theorem rLength_eq {d:Dt} (hw:WV d) (hr:WR d) (hb:d.bulk≤1048576) (hv:okV d=true) (m:Nat) (hm:4000000≤m) (hm2:m<9000000000000000000):z8 (m+6) d=some ((lenD d:Int),0):=by
 obtain⟨t,t1,t2⟩:=plain_eq 1048576 d hw hr hb (by omega) (m+3) (by omega)
 rw[z8,z6,rValid_eq hw m (by omega) (by omega) (by omega),hv,Option.bind_some]
 simp only[Bool.not_true,cond_false,z6_j0,t1,Option.bind_some,t2]
 rfl
end Go.Proofs.YtpifchdngodgjaaGreatDoor
namespace Go.Proofs.YtpifchdngodgjaaGreatDoor
open Go.Am Go.Am.Srt
theorem rparts_l (m:Nat) (mem mem':Int) (g:Dt→Nat) (D:List Dt) (hg:∀d∈D,z8 m d=some (((g d:Nat):Int),0)) (hc:∀x:Nat,x<1000000000000→(mem'<(x:Int)↔mem<(x:Int))) (hl:D.length<1000000):∀(M:Nat) (pre rest cur:List Dt) (sz c tot:Nat),D=pre++rest→cur≠[]→rest.length<M→c+rest.length<1000000→sz≤tot→tot+(rest.map g).sum<1000000000000→
  zA_l1 m M D mem' ((c+1:Nat):Int) (sz:Int) (tot:Int) (pre.length:Int)=zA_j6 m mem' ((c+1+(splitP g mem cur sz rest).1.length:Nat):Int) ((tot+(rest.map g).sum:Nat):Int)
 |0,_,_,_,_,_,_,_,_,h,_,_,_=>by omega
 |M+1,pre,[],cur,sz,c,tot,hD,_,_,_,_,_=>by
  have e:decide ((pre.length:Int)<(D.length:Int))=false:=decide_eq_false (by rw[hD,List.append_nil];omega)
  rw[zA_l1,e,cond_false,splitP]
  rfl
 |M+1,pre,d::r,cur,sz,c,tot,hD,hcur,h,hn,hs,hb=>by
  have hlen:pre.length<D.length:=by rw[hD,List.length_append,List.length_cons];omega
  have hD':D=(pre++[d])++r:=by rw[hD];simp
  have e:decide ((pre.length:Int)<(D.length:Int))=true:=decide_eq_true (by omega)
  have hx:idx D (pre.length:Int)=some d:=by
   rw[idx_lt hlen]
   congr 1
   subst hD
   simp
  have hgd:=hg d (by rw[hD];simp)
  have hne:cur.isEmpty=false:=by cases cur with
   |nil=>exact absurd rfl hcur
   |cons=>rfl
  rw[List.map_cons,List.sum_cons] at hb ⊢
  simp only[List.length_cons] at h hn
  have w1:=wrapA (a:=sz) (b:=g d) (by omega)
  have w2:=wrapA (a:=tot) (b:=g d) (by omega)
  have w3:IntKind.wrap IntKind.i64 ((0:Int)+(g d:Int))=((g d:Nat):Int):=by rw[wrap64 (by omega) (by omega)];omega
  have w4:=wrapS (i:=pre.length) (by omega)
  have w5:=wrapS (i:=c+1) (by omega)
  have n0:(((c+1:Nat):Int)==0)=false:=by rw[beq_eq_false_iff_ne];omega
  have el:(pre++[d]).length=pre.length+1:=by simp
  have ed:decide (mem'<((sz+g d:Nat):Int))=decide (mem<((sz+g d:Nat):Int)):=decide_eq_decide.2 (hc _ (by omega))
  rw[zA_l1,e,cond_true,splitP,hne,Bool.not_false,Bool.true_and]
  simp only[zA_j2,zA_j3,zA_j4,zA_j5,hx,Option.bind_some,hgd,w1,w2,w3,w4,w5,n0,ed]
  cases decide (mem<((sz+g d:Nat):Int))
  ·simp only[cond_false]
   have ih:=rparts_l m mem mem' g D hg hc hl M (pre++[d]) r (cur++[d]) (sz+g d) c (tot+g d) hD' (by simp) (by omega) (by omega) (by omega) (by omega)
   rw[el] at ih
   rw[ih,Nat.add_assoc tot]
  ·simp only[cond_true]
   have ih:=rparts_l m mem mem' g D hg hc hl M (pre++[d]) r [d] (g d) (c+1) (tot+g d) hD' (by simp) (by omega) (by omega) (by omega) (by omega)
   rw[el] at ih
   rw[ih,Nat.add_assoc tot,List.length_cons,show c+1+1+(splitP g mem [d] (g d) r).1.length=c+1+((splitP g mem [d] (g d) r).1.length+1) by omega]
theorem rparts_eq (m:Nat) (mem:Int) (h1:1≤mem) (g:Dt→Nat) (D:List Dt) (hg:∀d∈D,z8 m d=some (((g d:Nat):Int),0)) (hl:D.length<1000) (hm:1000≤m) (hb:(D.map g).sum<1000000000000):
  zA (m+1) D (bif (decide (1099511627776<mem)) then 1099511627776 else mem)=some ((nparts g mem D:Nat):Int):=by
 have hmem:∃mem':Int,(bif (decide (1099511627776<mem)) then 1099511627776 else mem)=mem'∧(∀x:Nat,x<1000000000000→(mem'<(x:Int)↔mem<(x:Int)))∧1≤mem'∧mem'≤1099511627776:=by
  by_cases h:1099511627776<mem
  ·exact⟨1099511627776,by rw[decide_eq_true h];rfl,fun x hx=>by omega,by omega,by omega⟩
  ·exact⟨mem,by rw[decide_eq_false h];rfl,fun x hx=>Iff.rfl,h1,by omega⟩
 obtain⟨mem',e,hc,h3,h4⟩:=hmem
 rw[e]
 have fin:∀n s:Nat,s<1000000000000→zA_j6 m mem' (n:Int) (s:Int)=some ((bif decide ((s:Int)≤mem) then 0 else n:Nat):Int):=fun n s hs=>by
  have:decide ((s:Int)≤mem')=decide ((s:Int)≤mem):=decide_eq_decide.2 (by have:=hc s hs;omega)
  simp only[zA_j6,zA_j7,this]
  cases decide ((s:Int)≤mem)<;>rfl
 rw[zA]
 show zA_l1 m (m+1) D mem' 0 mem' 0 0=_
 cases D with
 |nil=>
  have e0:decide ((0:Int)<(([]:List Dt).length:Int))=false:=rfl
  rw[zA_l1,e0,cond_false]
  refine(fin 0 0 (by omega)).trans ?_
  unfold nparts
  rw[splitP]
  have h0:decide (((0:Nat):Int)≤mem)=true:=decide_eq_true (by omega)
  show some ((bif decide (((0:Nat):Int)≤mem) then 0 else 0:Nat):Int)=some ((bif true&&decide (((0:Nat):Int)≤mem) then 0 else 1:Nat):Int)
  rw[h0]
  rfl
 |cons d r=>
  have e0:decide ((0:Int)<((d::r).length:Int))=true:=decide_eq_true (by rw[List.length_cons];omega)
  have hx:idx (d::r) 0=some d:=idx_head d r
  have hgd:=hg d (by simp)
  rw[List.map_cons,List.sum_cons] at hb
  simp only[List.length_cons] at hl
  have w1:IntKind.wrap IntKind.i64 ((0:Int)+(g d:Int))=((g d:Nat):Int):=by rw[wrap64 (by omega) (by omega)];omega
  have w4:IntKind.wrap IntKind.i64 ((0:Int)+1)=((0+1:Nat):Int):=rfl
  have w5:IntKind.wrap IntKind.i64 ((0:Int)+1)=((1:Nat):Int):=rfl
  have ih:=rparts_l m mem mem' g (d::r) hg hc (by simp;omega) m [d] r [d] (g d) 0 (g d) rfl (by simp) (by omega) (by omega) (Nat.le_refl _) hb
  rw[zA_l1,e0,cond_true]
  have step:zA_j2 m (zA_l1 m m) (d::r) mem' 0 mem' 0 0=zA_l1 m m (d::r) mem' ((0+1:Nat):Int) (g d:Int) (g d:Int) (([d]:List Dt).length:Int):=by
   have n0:((0:Int)==0)=true:=rfl
   simp only[zA_j2,zA_j3,zA_j4,zA_j5,hx,Option.bind_some,hgd,w1,n0,cond_true]
   cases decide (mem'<IntKind.wrap IntKind.i64 (mem'+(g d:Int)))<;>rfl
  refine step.trans (ih.trans ?_)
  refine(fin _ _ hb).trans ?_
  unfold nparts
  have es:splitP g mem [] 0 (d::r)=splitP g mem [d] (g d) r:=by
   rw[splitP]
   simp only[List.isEmpty_nil,Bool.not_true,Bool.false_and,cond_false,List.nil_append,Nat.zero_add]
  rw[es]
  have hbig:=split_big g mem r [d] (g d)
  have hnone:=split_none g mem r [d] (g d)
  generalize splitP g mem [d] (g d) r=q at hbig hnone ⊢
  obtain⟨C,last,sz⟩:=q
  cases C with
  |nil=>
   have hz:sz=g d+(r.map g).sum:=hnone rfl
   simp only[List.isEmpty_nil,Bool.true_and,List.length_nil,hz]
  |cons a C=>
   have:=hbig (by simp)
   rw[decide_eq_false (show ¬((g d+(r.map g).sum:Nat):Int)≤mem by omega)]
   simp only[List.isEmpty_cons,Bool.false_and,cond_false,List.length_cons]
   congr 1
   omega
theorem rCheck_eq (m:Nat) (mem:Int) (al:Bool) (g:Dt→Nat) (D:List Dt) (hg:∀d∈D,z8 m d=some (((g d:Nat):Int),0)) (hl:D.length<1000) (hm:1000≤m) (hb:(D.map g).sum<1000000000000):
  zV (m+2) D mem al=some (bif decide (mem<1) then(0,1) else bif nparts g mem D==0 then(0,0) else bif al then((nparts g mem D:Int),0) else(0,22)):=by
 rw[zV]
 by_cases h1:mem<1
 ·rw[decide_eq_true h1];rfl
 rw[decide_eq_false h1,cond_false,cond_false]
 have hp:=rparts_eq m mem (by omega) g D hg hl hm hb
 simp only[zV_j2,zV_j1,zV_j0,hp,Option.bind_some]
 cases hn:nparts g mem D with
 |zero=>rfl
 |succ n=>
  rw[decide_eq_true (show (0:Int)<((n+1:Nat):Int) by omega),cond_true,show (n+1==0)=false from rfl,cond_false]
  cases al<;>rfl
theorem rSort37_eq (m:Nat) (hm:300000000000≤m∧m<8000000000000000000) (hm2:m<800000000000) (l:List Dt) (hl:l.length≤100) (D:List Dt) (hD:∀d∈D,DocOK d) (hn:D.length<1000) (mem:Int) (al:Bool) (g:Dt→Nat) (hg:∀d∈D,z8 (m+3) d=some (((g d:Nat):Int),0)) (hb:(D.map g).sum<1000000000000):
  yA (m+6) l D mem al=some (bif decide (mem<1) then([],0,1) else bif nparts g mem D==0 then(sortD l D,0,0) else bif al then(sortD l D,(nparts g mem D:Int),0) else([],0,22)):=by
 have hs:=rSort_eq m hm hm2 l D hl hD (by omega)
 rw[yA,rCheck_eq (m+3) mem al g D hg hn (by omega) hb,Option.bind_some]
 simp only[yA_j0,hs,Option.bind_some]
 cases decide (mem<1)
 ·cases hz:(nparts g mem D==0)
  ·cases al<;>rfl
  ·rfl
 ·rfl
end Go.Proofs.YtpifchdngodgjaaGreatDoor
