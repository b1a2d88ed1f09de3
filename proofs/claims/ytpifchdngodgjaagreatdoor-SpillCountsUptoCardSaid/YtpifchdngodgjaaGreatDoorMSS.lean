/- The library's stable sort, first part: insertion, exchanges of ranges, rotation, over lists taken apart.
The library's stable sort,second part:merging in place,over lists taken apart.
The library's stable sort,third part:it gives the stable insertion sort's list.
Sorting documents:the program's function and the reference's. -/
import Derived.Test.YtpifchdngodgjaaGreatDoorSh
import Derived.Test.YtpifchdngodgjaaGreatDoorMA
import Derived.Test.YtpifchdngodgjaaGreatDoorMTpo
import Derived.Test.YtpifchdngodgjaaGreatDoorMG
set_option linter.unusedVariables false
set_option linter.unusedSimpArgs false
namespace Go.Proofs.YtpifchdngodgjaaGreatDoor
open Go.Am Go.Am.Srt
theorem g1 (A B:List Dt) (x:Dt):(A++x::B)[A.length]? =some x:=by simp
theorem s1 (A B:List Dt) (x z:Dt):(A++x::B).set A.length z=A++z::B:=by simp
theorem i1 (A B:List Dt) (x:Dt):inL (A++x::B) ((A.length:Nat):Int)=some ():=by
 unfold inL
 rw[if_pos ⟨by omega,by rw[List.length_append,List.length_cons];omega⟩]
theorem wrN {z:Int} {n:Nat} (h:z=(n:Int)) (hn:n<9223372036854775807):IntKind.wrap IntKind.i64 z=(n:Int):=by rw[h,wrap64 (by omega) (by omega)]
def ltc (c:Dt→Dt→Int) (x y:Dt):Bool:=decide (c x y<0)
theorem swo {c:Dt→Dt→Int} (h:TPO c):SWO (ltc c):=⟨fun x=>by simp[ltc,h.refl],fun x y z h1 h2=>by
 simp only[ltc,decide_eq_true_eq] at h1 h2 ⊢
 exact h.ltl h1 (by omega),fun x y z h1 h2=>by
 simp only[ltc,decide_eq_false_iff_not] at h1 h2 ⊢
 have a1:=h.anti x y
 have a2:=h.anti y z
 have a3:=h.anti x z
 have:=h.tr z y x (by omega) (by omega)
 omega⟩
section
variable (K:List Dt)
theorem swr_loop (m:Nat):∀(M:Nat) (X P Y Q Z:List Dt) (a b i n:Nat),X.length=a+i→P.length+i=n→Q.length=P.length→X.length+P.length+Y.length=b+i→P.length<M→b+n<4611686018427387904→
  i46_l1 m M (a:Int) (b:Int) (n:Int) (i:Int) (X++(P++(Y++(Q++Z)))) K=some (X++(Q++(Y++(P++Z))),K)
 |0,_,_,_,_,_,_,_,_,_,_,_,_,_,h,_=>by omega
 |M+1,X,[],Y,Q,Z,a,b,i,n,hX,hP,hQ,hb,hM,hl=>by
  have hin:¬i<n:=by simp at hP;omega
  obtain rfl:Q=[]:=List.length_eq_zero_iff.1 (by simpa using hQ)
  simp only[i46_l1,dlt,hin,decide_false,cond_false,List.nil_append]
 |M+1,X,p::P,Y,[],Z,a,b,i,n,hX,hP,hQ,hb,hM,hl=>by simp at hQ
 |M+1,X,p::P,Y,q::Q,Z,a,b,i,n,hX,hP,hQ,hb,hM,hl=>by
  simp only[List.length_cons] at hP hQ hb hM
  have hin:i<n:=by omega
  have ea:IntKind.wrap IntKind.i64 ((a:Int)+(i:Int))=((X.length:Nat):Int):=wrN (by omega) (by omega)
  have eb:IntKind.wrap IntKind.i64 ((b:Int)+(i:Int))=(((X++p::(P++Y)).length:Nat):Int):=wrN (by simp;omega) (by simp;omega)
  have eb':(X++q::(P++Y)).length=(X++p::(P++Y)).length:=by simp
  have d1:X++(p::P++(Y++(q::Q++Z)))=X++p::(P++(Y++(q::(Q++Z)))):=by simp
  have d2:X++p::(P++(Y++(q::(Q++Z))))=(X++p::(P++Y))++q::(Q++Z):=by simp
  have d3:X++q::(P++(Y++(q::(Q++Z))))=(X++q::(P++Y))++q::(Q++Z):=by simp
  have hgq:(X++p::(P++(Y++(q::(Q++Z)))))[(X++p::(P++Y)).length]? =some q:=by rw[d2];exact g1 _ _ _
  have hiq:inL (X++p::(P++(Y++(q::(Q++Z))))) (((X++p::(P++Y)).length:Nat):Int)=some ():=by rw[d2];exact i1 _ _ _
  have hgq2:(X++q::(P++(Y++(q::(Q++Z)))))[(X++p::(P++Y)).length]? =some q:=by rw[d3,←eb'];exact g1 _ _ _
  have hiq2:inL (X++q::(P++(Y++(q::(Q++Z))))) (((X++p::(P++Y)).length:Nat):Int)=some ():=by rw[d3,←eb'];exact i1 _ _ _
  have hs2:(X++q::(P++(Y++(q::(Q++Z))))).set (X++p::(P++Y)).length p=(X++q::(P++Y))++p::(Q++Z):=by rw[d3,←eb'];exact s1 _ _ _ _
  rw[d1]
  simp only[i46_l1,dlt,hin,decide_true,cond_true,i46_j2,i46_j3,ea,eb,hiq,hgq,hiq2,hgq2,hs2,i1,g1,s1,Option.bind_some,Int.toNat_natCast,wrapS (show i<9223372036854775807 by omega)]
  have ih:=swr_loop m M (X++[q]) P (Y++[p]) Q Z a b (i+1) n (by simp;omega) (by omega) (by omega) (by simp;omega) (by omega) hl
  simp only[List.append_assoc,List.cons_append,List.nil_append] at ih ⊢
  exact ih
theorem swr_eq (m:Nat) (X P Y Q Z:List Dt) (b n:Nat) (hP:P.length=n) (hQ:Q.length=n) (hb:X.length+P.length+Y.length=b) (hm:n≤m) (hl:b+n<4611686018427387904):
  i46 (m+1) (X.length:Int) (b:Int) (n:Int) (X++(P++(Y++(Q++Z)))) K=some (X++(Q++(Y++(P++Z))),K):=
 swr_loop K m (m+1) X P Y Q Z X.length b 0 n rfl (by omega) (by omega) (by omega) (by omega) hl
theorem split_at {A:Type} (l:List A) (k:Nat) (h:k≤l.length):∃p q,l=p++q∧p.length=k:=⟨l.take k,l.drop k,(List.take_append_drop k l).symm,by simp;omega⟩
theorem rot_loop (m:Nat):∀(M:Nat) (X U V Z:List Dt) (k i j:Nat),X.length+U.length=k→U.length=i→V.length=j→0<i→0<j→i+j≤M→i+j≤m→k+j<2305843009213693952→
  i45_l1 (m+1) M (k:Int) (i:Int) (j:Int) (X++(U++(V++Z))) K=some (X++(V++(U++Z)),K)
 |0,_,_,_,_,_,_,_,_,_,_,_,_,h,_,_=>by omega
 |M+    1,X,U,V,Z,k,i,j,hk,hU,hV,hi,hj,hM,hm,hl=>by
  have ewi:IntKind.wrap IntKind.i64 ((k:Int)-(i:Int))=((X.length:Nat):Int):=wrN (by omega) (by omega)
  by_cases hij:i=j
  ·subst hij
   have e:(((i:Int) !=(i:Int)):Bool)=false:=by simp
   have hs:=swr_eq K m X U [] V Z k i hU hV (by simp;omega) (by omega) (by omega)
   simp only[List.nil_append] at hs
   simp only[i45_l1,e,cond_false,i45_j3,ewi,hs,Option.bind_some]
  ·have e:(((i:Int) !=(j:Int)):Bool)=true:=by simp only[bne_iff_ne];omega
   by_cases hlt:j<i
   ·    obtain⟨U1,U2,rfl,h1⟩:=split_at U j (by omega)
        rw[List.length_append] at hU hk
        have hs:=swr_eq K m X U1 U2 V Z k j h1 hV (by omega) (by omega) (by omega)
        have ewj:IntKind.wrap IntKind.i64 ((i:Int)-(j:Int))=(((i-j:Nat):Nat):Int):=wrN (by omega) (by omega)
        have ih:=rot_loop m M (X++V) U2 U1 Z k (i-j) j (by simp;omega) (by omega) (by omega) (by omega) hj (by omega) (by omega) hl
        simp only[List.append_assoc] at ih hs ⊢
        simp only[i45_l1,e,cond_true,i45_j2,dlt,hlt,decide_true,ewi,hs,Option.bind_some,ewj,ih]
   ·    obtain⟨V1,V2,rfl,h1⟩:=split_at V (j-i) (by omega)
        rw[List.length_append] at hV
        have hs:=swr_eq K m X U V1 V2 Z (k+(j-i)) i hU (by omega) (by omega) (by omega) (by omega)
        have ewb:IntKind.wrap IntKind.i64 (IntKind.wrap IntKind.i64 ((k:Int)+(j:Int))-(i:Int))=(((k+(j-i):Nat):Nat):Int):=by
         have e0:IntKind.wrap IntKind.i64 ((k:Int)+(j:Int))=((k+j:Nat):Int):=wrN (by omega) (by omega)
         rw[e0]
         exact wrN (by omega) (by omega)
        have ewj:IntKind.wrap IntKind.i64 ((j:Int)-(i:Int))=(((j-i:Nat):Nat):Int):=wrN (by omega) (by omega)
        have ih:=rot_loop m M X V2 V1 (U++Z) k i (j-i) (by omega) (by omega) (by omega) hi (by omega) (by omega) (by omega) (by omega)
        simp only[List.append_assoc] at ih hs ⊢
        simp only[i45_l1,e,cond_true,i45_j2,dlt,hlt,decide_false,cond_false,ewi,ewb,hs,Option.bind_some,ewj,ih]
theorem rot_eq (m:Nat) (X U V Z:List Dt) (a k b:Nat) (ha:X.length=a) (hk:a+U.length=k) (hb:k+V.length=b) (hU:0<U.length) (hV:0<V.length) (hm:b≤m) (hl:b<1152921504606846976):
  i45 (m+2) (a:Int) (k:Int) (b:Int) (X++(U++(V++Z))) K=some (X++(V++(U++Z)),K):=by
 have e1:IntKind.wrap IntKind.i64 ((k:Int)-(a:Int))=((U.length:Nat):Int):=wrN (by omega) (by omega)
 have e2:IntKind.wrap IntKind.i64 ((b:Int)-(k:Int))=((V.length:Nat):Int):=wrN (by omega) (by omega)
 simp only[i45,i45_j0,e1,e2]
 exact rot_loop K m (m+2) X U V Z k U.length V.length (by omega) rfl rfl hU hV (by omega) (by omega) (by omega)
end
section
variable {c:Dt→Dt→Int} (hc:TPO c) {P:Dt→Prop} {K:List Dt} {m0:Nat} (hC:∀m,m0≤m→∀x y,P x→P y→i42 m x y K=some (c x y,K))
include hc hC
theorem ins_in (m:Nat) (hm:m0≤m) (rec1:Int→Int→Int→List Dt→List Dt→Option (List Dt×List Dt)) (a:Nat) (x1 x2:Int):∀(n M:Nat) (X S:List Dt) (x:Dt) (Z:List Dt) (j:Nat),S.length=n→X.length=a→a+S.length=j→n<M→(∀y∈S,P y)→P x→Asc (ltc c) S→j<4611686018427387904→
  i41_l4 m rec1 M (a:Int) x1 x2 (j:Int) (X++(S++x::Z)) K=rec1 (a:Int) x1 (IntKind.wrap IntKind.i64 (x2+1)) (X++(isort (ltc c) (S++[x])++Z)) K
 |_,0,_,_,_,_,_,_,_,_,h,_,_,_,_=>by omega
 |0,M+1,X,S,x,Z,j,hn,hX,hj,hM,hS,hx,hA,hl=>by
  obtain rfl:S=[]:=List.length_eq_zero_iff.1 hn
  have:¬a<j:=by simp at hj;omega
  simp only[i41_l4,dlt,this,decide_false,cond_false,i41_j7,List.nil_append,isort,ins,List.singleton_append]
 |n+    1,M+1,X,S,x,Z,j,hn,hX,hj,hM,hS,hx,hA,hl=>by
  have h:=swo hc
  have hne:S≠[]:=by rintro rfl;simp at hn
  obtain⟨S',y,rfl⟩:∃S' y,S=S'++[y]:=⟨S.dropLast,S.getLast hne,(List.dropLast_concat_getLast hne).symm⟩
  simp only[List.length_append,List.length_cons,List.length_nil] at hn hj
  have haj:a<j:=by omega
  obtain⟨hA1,_,hA2⟩:=asc_of_append hA
  have hy:P y:=hS y (by simp)
  have d0:X++(S'++[y]++x::Z)=(X++S')++y::x::Z:=by simp
  have d1:(X++S')++y::x::Z=(X++(S'++[y]))++x::Z:=by simp
  have d2:(X++S')++y::x::Z=(X++S')++y::(x::Z):=rfl
  have lj:(X++(S'++[y])).length=j:=by simp;omega
  have lj1:(X++S').length=j-1:=by simp;omega
  have ej:IntKind.wrap IntKind.i64 ((j:Int)-1)=((j-1:Nat):Int):=wrN (by omega) (by omega)
  have gx:((X++S')++y::x::Z)[j]? =some x:=by rw[d1,←lj];exact g1 _ _ _
  have ix:inL ((X++S')++y::x::Z) (j:Int)=some ():=by rw[d1,←lj];exact i1 _ _ _
  have gy:((X++S')++y::x::Z)[j-1]? =some y:=by rw[←lj1];exact g1 _ _ _
  have iy:inL ((X++S')++y::x::Z) ((j-1:Nat):Int)=some ():=by rw[←lj1];exact i1 _ _ _
  have sx:((X++S')++y::x::Z).set j y=(X++S')++y::y::Z:=by
   rw[d1,←lj,s1];simp
  have gy2:((X++S')++y::y::Z)[j-1]? =some y:=by rw[←lj1];exact g1 _ _ _
  have iy2:inL ((X++S')++y::y::Z) ((j-1:Nat):Int)=some ():=by rw[←lj1];exact i1 _ _ _
  have sy:((X++S')++y::y::Z).set (j-1) x=X++(S'++x::(y::Z)):=by rw[←lj1,s1];simp
  rw[d0]
  simp only[i41_l4,dlt,haj,decide_true,cond_true,ix,gx,ej,iy,gy,Option.bind_some,Int.toNat_natCast,hC m hm x y hx hy]
  cases hlt:decide (c x y<0)
  ·have hxy:ltc c x y=false:=hlt
   have hasc:Asc (ltc c) (S'++[y]++[x]):=asc_append hA ⟨by simp,trivial⟩ (fun s hs z hz=>by
        rw[List.mem_singleton] at hz
        subst hz
        rcases List.mem_append.1 hs with hs|hs
        ·exact h.ntr _ _ _ hxy (hA2 s hs y (by simp))
        ·rw[List.mem_singleton] at hs;subst hs;exact hxy)
   simp only[cond_false,i41_j7]
   rw[isort_asc hasc]
   simp
  ·have hxy:ltc c x y=true:=hlt
   simp only[cond_true,i41_j5,i41_j6,ix,gx,ej,iy,gy,sx,iy2,gy2,sy,Option.bind_some,Int.toNat_natCast]
   have ih:=ins_in m hm rec1 a x1 x2 n M X S' x (y::Z) (j-1) (by omega) hX (by omega) (by omega) (fun z hz=>hS z (by simp[hz])) hx hA1 (by omega)
   rw[ih]
   have e1:isort (ltc c) (S'++[y]++[x])=isort (ltc c) (S'++[x])++[y]:=by
        have hsw:=isort_swap h hxy S' []
        have hsp:=isort_split h (X:=S'++[x]) (Y:=[y]) (fun s hs z hz=>by
         rw[List.mem_singleton] at hz
         subst hz
         rcases List.mem_append.1 hs with hs|hs
         ·exact hA2 s hs z (by simp)
         ·rw[List.mem_singleton] at hs;subst hs;exact h.asy hxy)
        simp only[List.append_assoc,List.singleton_append] at hsp hsw ⊢
        rw[hsw,hsp]
        rfl
   rw[e1]
   simp
theorem ins_out (m:Nat) (hm:m0≤m) (a b:Nat) (hl:b<4611686018427387904) (X Z:List Dt) (hX:X.length=a):∀(n M:Nat) (S Y:List Dt) (i:Nat),Y.length=n→n<M→b≤m→a+S.length=i→i+Y.length=b→(∀y∈S,P y)→(∀y∈Y,P y)→
  i41_l1 m M (a:Int) (b:Int) (i:Int) (X++(isort (ltc c) S++(Y++Z))) K=some (X++(isort (ltc c) (S++Y)++Z),K)
 |_,0,_,_,_,_,h,_,_,_,_,_=>by omega
 |0,M+1,S,Y,i,hn,hM,hm2,hi,hb,hS,hY=>by
  obtain rfl:Y=[]:=List.length_eq_zero_iff.1 hn
  have:¬i<b:=by simp at hb;omega
  simp only[i41_l1,dlt,this,decide_false,cond_false,List.nil_append,List.append_nil]
 |n+1,M+1,S,[],i,hn,hM,hm2,hi,hb,hS,hY=>by simp at hn
 |n+1,M+1,S,y::Y,i,hn,hM,hm2,hi,hb,hS,hY=>by
  have h:=swo hc
  simp only[List.length_cons] at hn hb
  have hib:i<b:=by omega
  have hin:=ins_in hc hC m hm (i41_l1 m M) a (b:Int) (i:Int) S.length (m+1) X (isort (ltc c) S) y (Y++Z) i (isort_len S) hX (by rw[isort_len];omega) (by omega) (fun z hz=>hS z (mem_isort.1 hz)) (hY y (by simp)) (asc_isort h S) (by omega)
  have ih:=ins_out m hm a b hl X Z hX n M (S++[y]) Y (i+1) (by omega) (by omega) hm2 (by simp;omega) (by omega) (fun z hz=>by
   rcases List.mem_append.1 hz with hz|hz
   ·exact hS z hz
   ·rw[List.mem_singleton] at hz;subst hz;exact hY z (by simp)) (fun z hz=>hY z (by simp[hz]))
  simp only[i41_l1,dlt,hib,decide_true,cond_true,i41_j2,i41_j3,List.cons_append]
  rw[show Nat.succ m=m+1 from rfl,hin,wrapS (by omega),isort_isort h]
  simp only[List.append_assoc,List.singleton_append] at ih ⊢
  exact ih
theorem ins_eq (m:Nat) (hm:m0≤m) (X Y Z:List Dt) (a b:Nat) (ha:X.length=a) (hb:a+Y.length=b) (hm2:b≤m) (hl:b<4611686018427387904) (hY:∀y∈Y,P y):
  i41 (m+1) (a:Int) (b:Int) (X++(Y++Z)) K=some (X++(isort (ltc c) Y++Z),K):=by
 simp only[i41,i41_j0,wrapS (show a<9223372036854775807 by omega)]
 cases Y with
 |nil=>
  have:¬a+1<b:=by simp at hb;omega
  simp only[i41_l1,dlt,this,decide_false,cond_false,isort]
 |cons y Y=>
  have:=ins_out hc hC m hm a b hl X Z ha Y.length (m+1) [y] Y (a+1) rfl (by simp at hb;omega) hm2 rfl (by simp at hb;omega) (fun z hz=>by rw[List.mem_singleton] at hz;subst hz;exact hY z (by simp)) (fun z hz=>hY z (by simp[hz]))
  simp only[isort,ins,List.singleton_append] at this
  exact this
end
end Go.Proofs.YtpifchdngodgjaaGreatDoor
namespace Go.Proofs.YtpifchdngodgjaaGreatDoor
open Go.Am Go.Am.Srt
theorem wrapU {n:Int} (h0:0≤n) (h1:n<9223372036854775807):IntKind.wrap IntKind.u64 n=n:=by
 unfold IntKind.wrap
 simp only[IntKind.bits,IntKind.signed,Bool.false_and,Bool.false_eq_true,if_false]
 omega
theorem half {i j:Nat} (h:i+j<4611686018427387904):IntKind.wrap IntKind.i64 (shrI IntKind.u64 (IntKind.wrap IntKind.u64 (IntKind.wrap IntKind.i64 ((i:Int)+(j:Int)))) 1)=(((i+j)/2:Nat):Int):=by
 have e1:IntKind.wrap IntKind.i64 ((i:Int)+(j:Int))=((i+j:Nat):Int):=wrN (by omega) (by omega)
 have e2:IntKind.wrap IntKind.u64 ((i+j:Nat):Int)=((i+j:Nat):Int):=wrapU (by omega) (by omega)
 have e3:shrI IntKind.u64 ((i+j:Nat):Int) 1=(((i+j)/2:Nat):Int):=by
  show Int.fdiv ((i+j:Nat):Int) 2=_
  rw[Int.fdiv_eq_ediv_of_nonneg _ (by omega)]
  omega
 rw[e1,e2,e3]
 exact wrN rfl (by omega)
theorem split_mid {A:Type} (l:List A) (k:Nat) (h:k<l.length):∃p x q,l=p++x::q∧p.length=k:=by
 obtain⟨p,q,rfl,hp⟩:=split_at l k (by omega)
 cases q with
 |nil=>simp at h;omega
 |cons x q=>exact⟨p,x,q,rfl,hp⟩
section
variable (K:List Dt)
theorem up_loop (m:Nat) (self:Int→Int→Int→List Dt→List Dt→Option (List Dt×List Dt)):∀(S:List Dt) (M:Nat) (X:List Dt) (x:Dt) (Z:List Dt) (k i:Nat),X.length=k→k+S.length+1=i→S.length<M→i<4611686018427387904→
   i44_l5 m self M (i:Int) (k:Int) (X++x::(S++Z)) K=some (X++(S++x::Z),K)
 |_,0,_,_,_,_,_,_,_,h,_=>by omega
 | [],M+1,X,x,Z,k,i,hX,hi,hM,hl=>by
   have e:IntKind.wrap IntKind.i64 ((i:Int)-1)=((i-1:Nat):Int):=wrN (by simp at hi;omega) (by omega)
   have:¬k<i-1:=by simp at hi;omega
   simp only[i44_l5,e,dlt,this,decide_false,cond_false,List.nil_append]
 | y::S,M+1,X,x,Z,k,i,hX,hi,hM,hl=>by
   simp only[List.length_cons] at hi hM
   have e:IntKind.wrap IntKind.i64 ((i:Int)-1)=((i-1:Nat):Int):=wrN (by omega) (by omega)
   have hk:k<i-1:=by omega
   have lX:(X++[x]).length=k+1:=by simp;omega
   have lX2:(X++[y]).length=k+1:=by simp;omega
   have d1:X++x::(y::S++Z)=(X++[x])++y::(S++Z):=by simp
   have d2:X++y::(y::S++Z)=(X++[y])++y::(S++Z):=by simp
   have gy:(X++x::(y::S++Z))[k+1]? =some y:=by rw[d1,←lX];exact g1 _ _ _
   have iy:inL (X++x::(y::S++Z)) ((k+1:Nat):Int)=some ():=by rw[d1,←lX];exact i1 _ _ _
   have gx:(X++x::(y::S++Z))[k]? =some x:=by rw[←hX];exact g1 _ _ _
   have ix:inL (X++x::(y::S++Z)) (k:Int)=some ():=by rw[←hX];exact i1 _ _ _
   have sx:(X++x::(y::S++Z)).set k y=X++y::(y::S++Z):=by rw[←hX];exact s1 _ _ _ _
   have gy2:(X++y::(y::S++Z))[k+1]? =some y:=by rw[d2,←lX2];exact g1 _ _ _
   have iy2:inL (X++y::(y::S++Z)) ((k+1:Nat):Int)=some ():=by rw[d2,←lX2];exact i1 _ _ _
   have sy:(X++y::(y::S++Z)).set (k+1) x=(X++[y])++x::(S++Z):=by rw[d2,←lX2,s1]
   have ih:=up_loop m self S M (X++[y]) x Z (k+1) i lX2 (by omega) (by omega) hl
   simp only[i44_l5,e,dlt,hk,decide_true,cond_true,i44_j6,i44_j7,wrapS (show k<9223372036854775807 by omega),gy,iy,gx,ix,sx,gy2,iy2,sy,Option.bind_some,Int.toNat_natCast,ih]
   simp
theorem down_loop (m:Nat) (self:Int→Int→Int→List Dt→List Dt→Option (List Dt×List Dt)):∀(n M:Nat) (X S:List Dt) (y:Dt) (Z:List Dt) (i k:Nat),S.length=n→X.length=i→i+S.length=k→n<M→k<4611686018427387904→
  i44_l14 m self M (i:Int) (k:Int) (X++(S++y::Z)) K=some (X++y::(S++Z),K)
 |_,0,_,_,_,_,_,_,_,_,_,h,_=>by omega
 |0,M+1,X,S,y,Z,i,k,hn,hX,hk,hM,hl=>by
  obtain rfl:S=[]:=List.length_eq_zero_iff.1 hn
  have:¬i<k:=by simp at hk;omega
  simp only[i44_l14,dlt,this,decide_false,cond_false,List.nil_append]
 |n+1,M+1,X,S,y,Z,i,k,hn,hX,hk,hM,hl=>by
  have hne:S≠[]:=by rintro rfl;simp at hn
  obtain⟨S',x,rfl⟩:∃S' x,S=S'++[x]:=⟨S.dropLast,S.getLast hne,(List.dropLast_concat_getLast hne).symm⟩
  simp only[List.length_append,List.length_cons,List.length_nil] at hn hk
  have hik:i<k:=by omega
  have ek:IntKind.wrap IntKind.i64 ((k:Int)-1)=((k-1:Nat):Int):=wrN (by omega) (by omega)
  have d0:X++(S'++[x]++y::Z)=(X++S')++x::(y::Z):=by simp
  have d1:(X++S')++x::(y::Z)=(X++(S'++[x]))++y::Z:=by simp
  have lk0:(X++S').length=k-1:=by simp;omega
  have lk1:(X++(S'++[x])).length=k:=by simp;omega
  have gy:((X++S')++x::(y::Z))[k]? =some y:=by rw[d1,←lk1];exact g1 _ _ _
  have iy:inL ((X++S')++x::(y::Z)) (k:Int)=some ():=by rw[d1,←lk1];exact i1 _ _ _
  have gx:((X++S')++x::(y::Z))[k-1]? =some x:=by rw[←lk0];exact g1 _ _ _
  have ix:inL ((X++S')++x::(y::Z)) ((k-1:Nat):Int)=some ():=by rw[←lk0];exact i1 _ _ _
  have sk:((X++S')++x::(y::Z)).set k x=(X++S')++x::(x::Z):=by rw[d1,←lk1,s1];simp
  have gx2:((X++S')++x::(x::Z))[k-1]? =some x:=by rw[←lk0];exact g1 _ _ _
  have ix2:inL ((X++S')++x::(x::Z)) ((k-1:Nat):Int)=some ():=by rw[←lk0];exact i1 _ _ _
  have sk2:((X++S')++x::(x::Z)).set (k-1) y=X++(S'++y::(x::Z)):=by rw[←lk0,s1];simp
  have ih:=down_loop m self n M X S' y (x::Z) i (k-1) (by omega) hX (by omega) (by omega) (by omega)
  rw[d0]
  simp only[i44_l14,dlt,hik,decide_true,cond_true,i44_j15,i44_j16,ek,gy,iy,gx,ix,sk,gx2,ix2,sk2,Option.bind_some,Int.toNat_natCast,ih]
  simp
end
section
variable {c:Dt→Dt→Int} (hc:TPO c) {P:Dt→Prop} {K:List Dt} {m0:Nat} (hC:∀m,m0≤m→∀x y,P x→P y→i42 m x y K=some (c x y,K))
include hc hC
theorem find_up (m:Nat) (hm:m0≤m) (self:Int→Int→Int→List Dt→List Dt→Option (List Dt×List Dt)) (X Z:List Dt) (x:Dt) (a:Nat) (hX:X.length=a) (hx:P x):∀(n M:Nat) (R1 T R2:List Dt) (i j:Nat),T.length=n→n<M→a+1+R1.length=i→i+T.length=j→j<1152921504606846976→
  (∀y∈R1,ltc c y x=true)→(∀y∈R2,ltc c y x=false)→Asc (ltc c) T→(∀y∈T,P y)→
  ∃Ra Rb,R1++(T++R2)=Ra++Rb∧(∀y∈Ra,ltc c y x=true)∧(∀y∈Rb,ltc c y x=false)∧i44_l1 m self M (a:Int) (i:Int) (j:Int) (X++x::(R1++(T++R2)++Z)) K=i44_j3 m self (a:Int) ((a+1+Ra.length:Nat):Int) (X++x::(R1++(T++R2)++Z)) K:=by
 have h:=swo hc
 intro n
 induction n using Nat.strongRecOn with
 |_ n   ihn=>
  intro M R1 T R2 i j hn hM hi hj hl h1 h2 hA hP
  obtain⟨M,rfl⟩:∃k,M=k+1:=⟨M-1,by omega⟩
  by_cases h0:n=0
  · subst h0
    obtain rfl:T=[]:=List.length_eq_zero_iff.1 hn
    have:¬i<j:=by simp at hj;omega
    refine⟨R1,R2,by simp,h1,h2,?_⟩
    simp only[i44_l1,dlt,this,decide_false,cond_false,hi]
  · have hij:i<j:=by omega
    obtain⟨T1,t,T2,rfl,hT1⟩:=split_mid T (n/2) (by omega)
    simp only[List.length_append,List.length_cons] at hn hj
    have eh:=half (i:=i) (j:=j) (by omega)
    have ehh:(i+j)/2=i+n/2:=by omega
    rw[ehh] at eh
    have d1:X++x::(R1++(T1++t::T2++R2)++Z)=(X++x::(R1++T1))++t::(T2++(R2++Z)):=by simp
    have ll:(X++x::(R1++T1)).length=i+n/2:=by simp;omega
    have gt:(X++x::(R1++(T1++t::T2++R2)++Z))[i+n/2]? =some t:=by rw[d1,←ll];exact g1 _ _ _
    have it:inL (X++x::(R1++(T1++t::T2++R2)++Z)) ((i+n/2:Nat):Int)=some ():=by rw[d1,←ll];exact i1 _ _ _
    have gx:(X++x::(R1++(T1++t::T2++R2)++Z))[a]? =some x:=by rw[←hX];exact g1 _ _ _
    have ix:inL (X++x::(R1++(T1++t::T2++R2)++Z)) (a:Int)=some ():=by rw[←hX];exact i1 _ _ _
    obtain⟨hA1,hA2,hA3⟩:=asc_of_append hA
    have hw:IntKind.wrap IntKind.i64 (((i+n/2:Nat):Int)+1)=((i+n/2+1:Nat):Int):=wrapS (by omega)
    simp only[i44_l1,dlt,hij,decide_true,cond_true,i44_j2,eh,gt,it,gx,ix,Option.bind_some,Int.toNat_natCast,hC m hm t x (hP t (by simp)) hx]
    cases hlt:decide (c t x<0)
    ·   have ht:ltc c t x=false:=hlt
        obtain⟨Ra,Rb,e1,e2,e3,e4⟩:=ihn (n/2) (by omega) M R1 T1 (t::T2++R2) i (i+n/2) hT1 (by omega) hi (by omega) (by omega) h1 (fun y hy=>by
         rcases List.mem_append.1 hy with hy|hy
         · rcases List.mem_cons.1 hy with rfl|hy
           ·exact ht
           ·exact h.ntr _ _ _ (hA2.1 y hy) ht
         ·exact h2 y hy) hA1 (fun y hy=>hP y (by simp[hy]))
        refine⟨Ra,Rb,by rw[←e1];simp,e2,e3,?_⟩
        simp only[cond_false]
        have e5:R1++(T1++(t::T2++R2))=R1++(T1++t::T2++R2):=by simp
        rw[e5] at e4
        exact e4
    ·   have ht:ltc c t x=true:=hlt
        obtain⟨Ra,Rb,e1,e2,e3,e4⟩:=ihn (n-1-n/2) (by omega) M (R1++(T1++[t])) T2 R2 (i+n/2+1) j (by omega) (by omega) (by simp;omega) (by omega) hl (fun y hy=>by
         rcases List.mem_append.1 hy with hy|hy
         ·exact h1 y hy
         · rcases List.mem_append.1 hy with hy|hy
           ·cases e:ltc c y x with
            |true=>rfl
            |false=>have:=h.ntr _ _ _ (hA3 y hy t (by simp)) e;rw[ht] at this;cases this
           ·rw[List.mem_singleton] at hy;subst hy;exact ht) h2 hA2.2 (fun y hy=>hP y (by simp[hy]))
        refine⟨Ra,Rb,by rw[←e1];simp,e2,e3,?_⟩
        simp only[cond_true,hw]
        have e5:R1++(T1++[t])++(T2++R2)=R1++(T1++t::T2++R2):=by simp
        rw[e5] at e4
        exact e4
theorem find_down (m:Nat) (hm:m0≤m) (self:Int→Int→Int→List Dt→List Dt→Option (List Dt×List Dt)) (X Z:List Dt) (y:Dt) (a k:Nat) (hX:X.length=a) (hy:P y):∀(n M:Nat) (L1 T L2:List Dt) (i j:Nat),T.length=n→n<M→a+L1.length=i→i+T.length=j→j+L2.length=k→k<1152921504606846976→
  (∀x∈L1,ltc c y x=false)→(∀x∈L2,ltc c y x=true)→Asc (ltc c) T→(∀x∈T,P x)→
  ∃La Lb,L1++(T++L2)=La++Lb∧(∀x∈La,ltc c y x=false)∧(∀x∈Lb,ltc c y x=true)∧i44_l10 m self M (k:Int) (i:Int) (j:Int) (X++(L1++(T++L2)++y::Z)) K=i44_j12 m self (k:Int) ((a+La.length:Nat):Int) (X++(L1++(T++L2)++y::Z)) K:=by
 have h:=swo hc
 intro n
 induction n using Nat.strongRecOn with
 |_ n   ihn=>
  intro M L1 T L2 i j hn hM hi hj hk hl h1 h2 hA hP
  obtain⟨M,rfl⟩:∃k,M=k+1:=⟨M-1,by omega⟩
  by_cases h0:n=0
  · subst h0
    obtain rfl:T=[]:=List.length_eq_zero_iff.1 hn
    have:¬i<j:=by simp at hj;omega
    refine⟨L1,L2,by simp,h1,h2,?_⟩
    simp only[i44_l10,dlt,this,decide_false,cond_false,hi]
  · have hij:i<j:=by omega
    obtain⟨T1,t,T2,rfl,hT1⟩:=split_mid T (n/2) (by omega)
    simp only[List.length_append,List.length_cons] at hn hj
    have eh:=half (i:=i) (j:=j) (by omega)
    have ehh:(i+j)/2=i+n/2:=by omega
    rw[ehh] at eh
    have d1:X++(L1++(T1++t::T2++L2)++y::Z)=(X++(L1++T1))++t::(T2++(L2++y::Z)):=by simp
    have d2:X++(L1++(T1++t::T2++L2)++y::Z)=(X++(L1++(T1++t::T2++L2)))++y::Z:=by simp
    have ll:(X++(L1++T1)).length=i+n/2:=by simp;omega
    have ly:(X++(L1++(T1++t::T2++L2))).length=k:=by simp;omega
    have gt:(X++(L1++(T1++t::T2++L2)++y::Z))[i+n/2]? =some t:=by rw[d1,←ll];exact g1 _ _ _
    have it:inL (X++(L1++(T1++t::T2++L2)++y::Z)) ((i+n/2:Nat):Int)=some ():=by rw[d1,←ll];exact i1 _ _ _
    have gy:(X++(L1++(T1++t::T2++L2)++y::Z))[k]? =some y:=by rw[d2,←ly];exact g1 _ _ _
    have iy:inL (X++(L1++(T1++t::T2++L2)++y::Z)) (k:Int)=some ():=by rw[d2,←ly];exact i1 _ _ _
    obtain⟨hA1,hA2,hA3⟩:=asc_of_append hA
    have hw:IntKind.wrap IntKind.i64 (((i+n/2:Nat):Int)+1)=((i+n/2+1:Nat):Int):=wrapS (by omega)
    simp only[i44_l10,dlt,hij,decide_true,cond_true,i44_j11,eh,gt,it,gy,iy,Option.bind_some,Int.toNat_natCast,hC m hm y t hy (hP t (by simp))]
    cases hlt:decide (c y t<0)
    ·   have ht:ltc c y t=false:=hlt
        obtain⟨La,Lb,e1,e2,e3,e4⟩:=ihn (n-1-n/2) (by omega) M (L1++(T1++[t])) T2 L2 (i+n/2+1) j (by omega) (by omega) (by simp;omega) (by omega) hk hl (fun x hx=>by
         rcases List.mem_append.1 hx with hx|hx
         ·exact h1 x hx
         · rcases List.mem_append.1 hx with hx|hx
           ·exact h.ntr _ _ _ ht (hA3 x hx t (by simp))
           ·rw[List.mem_singleton] at hx;subst hx;exact ht) h2 hA2.2 (fun x hx=>hP x (by simp[hx]))
        refine⟨La,Lb,by rw[←e1];simp,e2,e3,?_⟩
        simp only[Bool.not_false,cond_true,hw]
        have e5:L1++(T1++[t])++(T2++L2)=L1++(T1++t::T2++L2):=by simp
        rw[e5] at e4
        exact e4
    ·   have ht:ltc c y t=true:=hlt
        obtain⟨La,Lb,e1,e2,e3,e4⟩:=ihn (n/2) (by omega) M L1 T1 (t::T2++L2) i (i+n/2) hT1 (by omega) hi (by omega) (by simp;omega) hl h1 (fun x hx=>by
         rcases List.mem_append.1 hx with hx|hx
         · rcases List.mem_cons.1 hx with rfl|hx
           ·exact ht
           ·cases e:ltc c y x with
            |true=>rfl
            |false=>have:=h.ntr _ _ _ e (hA2.1 x hx);rw[ht] at this;cases this
         ·exact h2 x hx) hA1 (fun x hx=>hP x (by simp[hx]))
        refine⟨La,Lb,by rw[←e1];simp,e2,e3,?_⟩
        simp only[Bool.not_true,cond_false]
        have e5:L1++(T1++(t::T2++L2))=L1++(T1++t::T2++L2):=by simp
        rw[e5] at e4
        exact e4
set_option maxHeartbeats 4000000 in
theorem find_cut (m:Nat) (hm:m0≤m) (self:Int→Int→Int→List Dt→List Dt→Option (List Dt×List Dt)) (X Z:List Dt) (a k b mid n:Nat) (hX:X.length=a):∀(q M:Nat) (L1 T L2 R1 U R2:List Dt) (s r p:Nat),T.length=q→U.length=q→q<M→a+L1.length=s→s+T.length=r→r+L2.length=k→p+1=s+k+R1.length+U.length→k+R1.length+U.length<1152921504606846976→
  (∀x∈L1,∀y∈R2,ltc c y x=false)→(∀x∈L2,∀y∈R1,ltc c y x=true)→Asc (ltc c) (L1++(T++L2))→Asc (ltc c) (R1++(U++R2))→(∀x∈T,P x)→(∀y∈U,P y)→
  ∃ La Lb Ra Rb,L1++(T++L2)=La++Lb∧R1++(U++R2)=Ra++Rb∧(∀x∈La,∀y∈Rb,ltc c y x=false)∧(∀x∈Lb,∀y∈Ra,ltc c y x=true)∧p+1=a+La.length+k+Ra.length∧
    i44_l20 m self M (a:Int) (k:Int) (b:Int) (mid:Int) (n:Int) (s:Int) (r:Int) (p:Int) (X++(L1++(T++L2)++(R1++(U++R2)++Z))) K=
    i44_j22 m self (a:Int) (k:Int) (b:Int) (mid:Int) (n:Int) ((a+La.length:Nat):Int) (X++(L1++(T++L2)++(R1++(U++R2)++Z))) K:=by
 have h:=swo hc
 intro q
 induction q using Nat.strongRecOn with
 |_ q   ihq=>
  intro M L1 T L2 R1 U R2 s r p hT hU hM hs hr hk hp hl h1 h2 hA hB hPT hPU
  obtain⟨M,rfl⟩:∃k,M=k+1:=⟨M-1,by omega⟩
  by_cases h0:q=0
  · subst h0
    obtain rfl:T=[]:=List.length_eq_zero_iff.1 hT
    obtain rfl:U=[]:=List.length_eq_zero_iff.1 hU
    have:¬s<r:=by simp at hr;omega
    refine⟨L1,L2,R1,R2,by simp,by simp,h1,h2,by simp at hp;omega,?_⟩
    simp only[i44_l20,dlt,this,decide_false,cond_false,hs]
  · have hsr:s<r:=by omega
    obtain⟨T1,t,T2,rfl,hT1⟩:=split_mid T (q/2) (by omega)
    obtain⟨U1,u,U2,rfl,hU1⟩:=split_mid U (q-1-q/2) (by omega)
    simp only[List.length_append,List.length_cons] at hT hU hr hp hl
    have eh:=half (i:=s) (j:=r) (by omega)
    have ehh:(s+r)/2=s+q/2:=by omega
    rw[ehh] at eh
    obtain⟨D,hD⟩:∃D,D=X++(L1++(T1++t::T2++L2)++(R1++(U1++u::U2++R2)++Z)):=⟨_,rfl⟩
    have d1:D=(X++(L1++T1))++t::(T2++(L2++(R1++(U1++u::U2++R2)++Z))):=by rw[hD];simp
    have d2:D=(X++(L1++(T1++t::T2++L2)++(R1++U1)))++u::(U2++(R2++Z)):=by rw[hD];simp
    have ll:(X++(L1++T1)).length=s+q/2:=by simp;omega
    have lu:(X++(L1++(T1++t::T2++L2)++(R1++U1))).length=k+R1.length+U1.length:=by simp;omega
    have gt:D[s+q/2]? =some t:=by rw[d1,←ll];exact g1 _ _ _
    have it:inL D ((s+q/2:Nat):Int)=some ():=by rw[d1,←ll];exact i1 _ _ _
    have gu:D[k+R1.length+U1.length]? =some u:=by rw[d2,←lu];exact g1 _ _ _
    have iu:inL D ((k+R1.length+U1.length:Nat):Int)=some ():=by rw[d2,←lu];exact i1 _ _ _
    have ep:IntKind.wrap IntKind.i64 ((p:Int)-((s+q/2:Nat):Int))=((k+R1.length+U1.length:Nat):Int):=wrN (by omega) (by omega)
    have hw:IntKind.wrap IntKind.i64 (((s+q/2:Nat):Int)+1)=((s+q/2+1:Nat):Int):=wrapS (by omega)
    have a1:L1++(T1++t::T2++L2)=(L1++T1)++t::(T2++L2):=by simp
    have b1:R1++(U1++u::U2++R2)=(R1++U1)++u::(U2++R2):=by simp
    have hA':=hA
    have hB':=hB
    rw[a1] at hA'
    rw[b1] at hB'
    obtain⟨_,hA2,hA3⟩:=asc_of_append hA'
    obtain⟨_,hB2,hB3⟩:=asc_of_append hB'
    rw[←hD]
    simp only[i44_l20,dlt,hsr,decide_true,cond_true,i44_j21,eh,ep,gt,it,gu,iu,Option.bind_some,Int.toNat_natCast,hC m hm u t (hPU u (by simp)) (hPT t (by simp))]
    cases hlt:decide (c u t<0)
    ·   have ht:ltc c u t=false:=hlt
        obtain⟨La,Lb,Ra,Rb,e1,e2,e3,e4,e5,e6⟩:=ihq (q-1-q/2) (by omega) M (L1++(T1++[t])) T2 L2 R1 U1 (u::U2++R2) (s+q/2+1) r p (by omega) hU1 (by omega) (by simp;omega) (by omega) hk (by omega) (by omega) (fun x hx y hy=>by
         have hx':ltc c t x=false:=by
           rcases List.mem_append.1 hx with hx|hx
           ·exact hA3 x (by simp[hx]) t (by simp)
           ·rcases List.mem_append.1 hx with hx|hx
            ·exact hA3 x (by simp[hx]) t (by simp)
            ·rw[List.mem_singleton] at hx;subst hx;exact h.irr _
         have hy':ltc c y u=false:=by
           rcases List.mem_append.1 hy with hy|hy
           ·rcases List.mem_cons.1 hy with rfl|hy
            ·exact h.irr _
            ·exact hB2.1 y (by simp[hy])
           ·exact hB2.1 y (by simp[hy])
         exact h.ntr _ _ _ hy' (h.ntr _ _ _ ht hx')) h2 (by simpa using hA) (by simpa using hB) (fun x hx=>hPT x (by simp[hx])) (fun y hy=>hPU y (by simp[hy]))
        refine⟨La,Lb,Ra,Rb,by rw[←e1];simp,by rw[←e2];simp,e3,e4,e5,?_⟩
        simp only[Bool.not_false,cond_true,hw]
        have e7:X++(L1++(T1++[t])++(T2++L2)++(R1++(U1++(u::U2++R2))++Z))=D:=by rw[hD];simp
        rw[e7] at e6
        exact e6
    ·   have ht:ltc c u t=true:=hlt
        obtain⟨La,Lb,Ra,Rb,e1,e2,e3,e4,e5,e6⟩:=ihq (q/2) (by omega) M L1 T1 (t::T2++L2) (R1++(U1++[u])) U2 R2 s (s+q/2) p hT1 (by omega) (by omega) hs (by omega) (by simp;omega) (by simp;omega) (by simp;omega) h1 (fun x hx y hy=>by
         have hx':ltc c x t=false:=by
           rcases List.mem_append.1 hx with hx|hx
           ·rcases List.mem_cons.1 hx with rfl|hx
            ·exact h.irr _
            ·exact hA2.1 x (by simp[hx])
           ·exact hA2.1 x (by simp[hx])
         have hy':ltc c u y=false:=by
           rcases List.mem_append.1 hy with hy|hy
           ·exact hB3 y (by simp[hy]) u (by simp)
           ·rcases List.mem_append.1 hy with hy|hy
            ·exact hB3 y (by simp[hy]) u (by simp)
            ·rw[List.mem_singleton] at hy;subst hy;exact h.irr _
         cases e:ltc c y x with
         |true=>rfl
         |false=>have:=h.ntr _ _ _ (h.ntr _ _ _ hy' e) hx';rw[ht] at this;cases this) (by simpa using hA) (by simpa using hB) (fun x hx=>hPT x (by simp[hx])) (fun y hy=>hPU y (by simp[hy]))
        refine⟨La,Lb,Ra,Rb,by rw[←e1];simp,by rw[←e2];simp,e3,e4,e5,?_⟩
        simp only[Bool.not_true,cond_false]
        have e7:X++(L1++(T1++(t::T2++L2))++(R1++(U1++[u])++(U2++R2)++Z))=D:=by rw[hD];simp
        have e8:X++(L1++(T1++(t::T2++L2))++(R1++(U1++[u])++(U2++R2)++Z))=X++(L1++(T1++(t::T2++L2))++((R1++(U1++[u]))++(U2++R2)++Z)):=by simp
        rw[e7] at e6
        exact e6
end
end Go.Proofs.YtpifchdngodgjaaGreatDoor
namespace Go.Proofs.YtpifchdngodgjaaGreatDoor
open Go.Am Go.Am.Srt
section
variable {c:Dt→Dt→Int} (hc:TPO c) {P:Dt→Prop} {K:List Dt}
include hc
theorem sym_cut (m:Nat) (B:Nat) (hB:B<288230376151711744) (hmB:B+3≤m) (X La Lb Ra Rb Z:List Dt) (a k b mid n:Nat) (ha:X.length=a) (hk:a+(La.length+Lb.length)=k) (hb:k+(Ra.length+Rb.length)=b) (hbB:b≤B) (hmid:mid=a+La.length+Ra.length) (hn:n=mid+k)
  (hA:Asc (ltc c) (La++Lb)) (hR:Asc (ltc c) (Ra++Rb)) (h1:∀x∈La,∀y∈Rb,ltc c y x=false) (h2:∀x∈Lb,∀y∈Ra,ltc c y x=true) (hP:∀x∈La++Lb,P x) (hQ:∀x∈Ra++Rb,P x)
  (self:Int→Int→Int→List Dt→List Dt→Option (List Dt×List Dt))
  (hs:∀(X L R Z:List Dt) (a' k' b':Nat),X.length=a'→a'+L.length=k'→k'+R.length=b'→0<L.length→0<R.length→b'≤b→L.length+R.length<b-a→Asc (ltc c) L→Asc (ltc c) R→(∀x∈L,P x)→(∀x∈R,P x)→self (a':Int) (k':Int) (b':Int) (X++(L++(R++Z))) K=some (X++(isort (ltc c) (L++R)++Z),K))
  (hlt:0<La.length+Ra.length) (hlt2:0<Lb.length+Rb.length):
  i44_j22 m self (a:Int) (k:Int) (b:Int) (mid:Int) (n:Int) ((a+La.length:Nat):Int) (X++(La++Lb++(Ra++Rb++Z))) K=some (X++(isort (ltc c) (La++Lb++(Ra++Rb))++Z),K):=by
 have h:=swo hc
 have een:IntKind.wrap IntKind.i64 ((n:Int)-((a+La.length:Nat):Int))=((k+Ra.length:Nat):Int):=wrN (by omega) (by omega)
 obtain⟨aL,aLb,aX⟩:=asc_of_append hA
 obtain⟨aR,aRb,aY⟩:=asc_of_append hR
 have hfin:isort (ltc c) (La++Lb++(Ra++Rb))=isort (ltc c) (La++Ra)++isort (ltc c) (Lb++Rb):=by
  have e1:=isort_rot h Lb Ra La Rb h2
  have e2:=isort_split h (X:=La++Ra) (Y:=Lb++Rb) (fun x hx y hy=>by
   rcases List.mem_append.1 hx with hx|hx<;>rcases List.mem_append.1 hy with hy|hy
   ·exact aX x hx y hy
   ·exact h1 x hx y hy
   ·exact h.asy (h2 y hy x hx)
   ·exact aY x hx y hy)
  rw[←e2,List.append_assoc,List.append_assoc]
  rw[e1]
 have s2:∀X':List Dt,X'.length=mid→i44_j26 m self (b:Int) (mid:Int) ((k+Ra.length:Nat):Int) (X'++(Lb++(Rb++Z))) K=some (X'++(isort (ltc c) (Lb++Rb)++Z),K):=by
  intro X' hX'
  simp only[i44_j26,i44_j27,dlt]
  by_cases e1:mid<k+Ra.length
  ·by_cases e2:k+Ra.length<b
   ·simp only[e1,e2,decide_true,cond_true,hs X' Lb Rb Z mid (k+Ra.length) b hX' (by omega) (by omega) (by omega) (by omega) (Nat.le_refl _) (by omega) aLb aRb (fun x hx=>hP x (by simp[hx])) (fun x hx=>hQ x (by simp[hx])),Option.bind_some]
   ·    have:Rb=[]:=List.length_eq_zero_iff.1 (by omega)
        subst this
        simp only[e1,e2,decide_true,decide_false,cond_true,cond_false,List.append_nil,List.nil_append,isort_asc aLb]
  ·have:Lb=[]:=List.length_eq_zero_iff.1 (by omega)
   subst this
   simp only[e1,decide_false,cond_false,List.nil_append,isort_asc aRb]
 have s1:i44_j24 m self (a:Int) (b:Int) (mid:Int) ((a+La.length:Nat):Int) ((k+Ra.length:Nat):Int) (X++(La++(Ra++(Lb++(Rb++Z))))) K=some (X++(isort (ltc c) (La++Lb++(Ra++Rb))++Z),K):=by
  have fin:i44_j26 m self (b:Int) (mid:Int) ((k+Ra.length:Nat):Int) (X++(isort (ltc c) (La++Ra)++(Lb++(Rb++Z)))) K=some (X++(isort (ltc c) (La++Lb++(Ra++Rb))++Z),K):=by
   have:=s2 (X++isort (ltc c) (La++Ra)) (by rw[List.length_append,isort_len,List.length_append];omega)
   rw[hfin]
   simpa using this
  simp only[i44_j24,i44_j25,dlt]
  by_cases e1:a<a+La.length
  ·by_cases e2:a+La.length<mid
   ·simp only[e1,e2,decide_true,cond_true,hs X La Ra (Lb++(Rb++Z)) a (a+La.length) mid ha rfl (by omega) (by omega) (by omega) (by omega) (by omega) aL aR (fun x hx=>hP x (by simp[hx])) (fun x hx=>hQ x (by simp[hx])),Option.bind_some,fin]
   ·    have:Ra=[]:=List.length_eq_zero_iff.1 (by omega)
        subst this
        simp only[e1,e2,decide_true,decide_false,cond_true,cond_false]
        simp only[List.append_nil,List.nil_append,isort_asc aL] at fin ⊢
        exact fin
  ·have:La=[]:=List.length_eq_zero_iff.1 (by omega)
   subst this
   simp only[e1,decide_false,cond_false]
   simp only[List.nil_append,isort_asc aR] at fin ⊢
   exact fin
 simp only[i44_j22,i44_j23,een,dlt]
 obtain⟨m,rfl⟩:∃q,m=q+2:=⟨m-2,by omega⟩
 by_cases e1:a+La.length<k
 ·by_cases e2:k<k+Ra.length
  ·have hr:=rot_eq K m (X++La) Lb Ra (Rb++Z) (a+La.length) k (k+Ra.length) (by simp;omega) (by omega) rfl (by omega) (by omega) (by omega) (by omega)
   have hr':i45 (m+2) ((a+La.length:Nat):Int) (k:Int) ((k+Ra.length:Nat):Int) (X++(La++Lb++(Ra++Rb++Z))) K=some (X++(La++(Ra++(Lb++(Rb++Z)))),K):=by simpa using hr
   simp only[e1,e2,decide_true,cond_true,hr',Option.bind_some,s1]
  ·have:Ra=[]:=List.length_eq_zero_iff.1 (by omega)
   subst this
   simp only[e1,e2,decide_true,decide_false,cond_true,cond_false]
   simp only[List.nil_append,List.append_assoc] at s1 ⊢
   exact s1
 ·have:Lb=[]:=List.length_eq_zero_iff.1 (by omega)
  subst this
  simp only[e1,decide_false,cond_false]
  simp only[List.nil_append,List.append_nil,List.append_assoc] at s1 ⊢
  exact s1
end
section
variable {c:Dt→Dt→Int} (hc:TPO c) {P:Dt→Prop} {K:List Dt} {m0:Nat} (hC:∀m,m0≤m→∀x y,P x→P y→i42 m x y K=some (c x y,K))
include hc hC
theorem sym_eq (B:Nat) (hB:B<288230376151711744) (hB0:m0≤B):∀(N m:Nat) (X L R Z:List Dt) (a k b:Nat),L.length+R.length≤N→N+B+4≤m→X.length=a→a+L.length=k→k+R.length=b→0<L.length→0<R.length→b≤B→Asc (ltc c) L→Asc (ltc c) R→(∀x∈L,P x)→(∀x∈R,P x)→
  i44 m (a:Int) (k:Int) (b:Int) (X++(L++(R++Z))) K=some (X++(isort (ltc c) (L++R)++Z),K)
 |0,_,_,L,R,_,_,_,_,h,_,_,_,_,hL,_,_,_,_,_,_=>by omega
 |N+    1,m,X,L,R,Z,a,k,b,hN,hm,ha,hk,hb,hL,hR,hbB,hA,hRa,hP,hQ=>by
  have h:=swo hc
  obtain⟨m,rfl⟩:∃q,m=q+1:=⟨m-1,by omega⟩
  have eka:IntKind.wrap IntKind.i64 ((k:Int)-(a:Int))=((L.length:Nat):Int):=wrN (by omega) (by omega)
  have ebk:IntKind.wrap IntKind.i64 ((b:Int)-(k:Int))=((R.length:Nat):Int):=wrN (by omega) (by omega)
  show (bif (IntKind.wrap IntKind.i64 ((k:Int)-(a:Int))==1) then i44_j0 m (i44 m) (a:Int) (k:Int) (b:Int) (X++(L++(R++Z))) K else i44_j8 m (i44 m) (a:Int) (k:Int) (b:Int) (X++(L++(R++Z))) K)=_
  rw[eka]
  by_cases h1:L.length=1
  ·obtain⟨x,rfl⟩:=List.length_eq_one_iff.1 h1
   have e:((([x].length:Nat):Int)==1)=true:=rfl
   rw[e]
   simp only[cond_true,i44_j0]
   simp only[List.length_cons,List.length_nil] at hk
   obtain⟨Ra,Rb,q1,q2,q3,q4⟩:=find_up hc hC m (by omega) (i44 m) X Z x a ha (hP x (by simp)) R.length (m+1) [] R [] k b rfl (by omega) (by simp;omega) hb (by omega) (by simp) (by simp) hRa hQ
   simp only[List.nil_append,List.append_nil] at q1 q4
   subst q1
   have q4':i44_l1 m (i44 m) (Nat.succ m) (a:Int) (k:Int) (b:Int) (X++([x]++(Ra++Rb++Z))) K=i44_j3 m (i44 m) (a:Int) ((a+1+Ra.length:Nat):Int) (X++x::(Ra++Rb++Z)) K:=q4
   rw[q4']
   simp only[i44_j3,i44_j4]
   have hu:=up_loop K m (i44 m) Ra (m+1) X x (Rb++Z) a (a+1+Ra.length) ha (by omega) (by simp at hN hb;omega) (by simp at hb;omega)
   have hu':i44_l5 m (i44 m) (Nat.succ m) ((a+1+Ra.length:Nat):Int) (a:Int) (X++x::(Ra++Rb++Z)) K=some (X++(Ra++x::(Rb++Z)),K):=by
        simpa using hu
   rw[hu']
   have hasc:Asc (ltc c) (Ra++x::Rb):=by
        obtain⟨r1,r2,r3⟩:=asc_of_append hRa
        refine asc_append r1 ⟨q3,r2⟩ fun y hy z hz=>?_
        rcases List.mem_cons.1 hz with rfl|hz
        ·exact h.asy (q2 y hy)
        ·exact r3 y hy z hz
   have hj:=isort_jump h x Ra [] Rb q2
   simp only[List.nil_append] at hj
   have:isort (ltc c) ([x]++(Ra++Rb))=Ra++x::Rb:=by
        have e2:[x]++(Ra++Rb)=x::Ra++Rb:=by simp
        rw[e2,hj,isort_asc hasc]
   rw[this]
   simp
  ·have e:(((L.length:Nat):Int)==1)=false:=by rw[beq_eq_false_iff_ne];omega
   rw[e]
   simp only[cond_false,i44_j8,ebk]
   by_cases h2:R.length=1
   ·    obtain⟨y,rfl⟩:=List.length_eq_one_iff.1 h2
        have e:((([y].length:Nat):Int)==1)=true:=rfl
        rw[e]
        simp only[cond_true,i44_j9]
        simp only[List.length_cons,List.length_nil] at hb
        obtain⟨La,Lb,q1,q2,q3,q4⟩:=find_down hc hC m (by omega) (i44 m) X Z y a k ha (hQ y (by simp)) L.length (m+1) [] L [] a k rfl (by omega) (by simp) hk (by simp) (by omega) (by simp) (by simp) hA hP
        simp only[List.nil_append,List.append_nil] at q1 q4
        subst q1
        have q4':i44_l10 m (i44 m) (Nat.succ m) (k:Int) (a:Int) (k:Int) (X++(La++Lb++([y]++Z))) K=i44_j12 m (i44 m) (k:Int) ((a+La.length:Nat):Int) (X++(La++Lb++y::Z)) K:=q4
        rw[q4']
        rw[List.length_append] at hk hN
        simp only[i44_j12,i44_j13]
        have hd:=down_loop K m (i44 m) Lb.length (m+1) (X++La) Lb y Z (a+La.length) k rfl (by simp;omega) (by omega) (by omega) (by omega)
        have hd':i44_l14 m (i44 m) (Nat.succ m) ((a+La.length:Nat):Int) (k:Int) (X++(La++Lb++y::Z)) K=some (X++(La++(y::(Lb++Z))),K):=by
         simpa using hd
        rw[hd']
        have hasc:Asc (ltc c) (La++y::Lb):=by
         obtain⟨r1,r2,r3⟩:=asc_of_append hA
         refine asc_append r1 ⟨fun z hz=>h.asy (q3 z hz),r2⟩ fun z hz w hw=>?_
         rcases List.mem_cons.1 hw with rfl|hw
         ·exact q2 z hz
         ·exact r3 z hz w hw
        have hr:=isort_rot h Lb [y] La [] (fun u hu v hv=>by rw[List.mem_singleton] at hv;subst hv;exact q3 u hu)
        simp only[List.append_nil,List.singleton_append] at hr
        have:isort (ltc c) (La++Lb++[y])=La++y::Lb:=by
         rw[List.append_assoc,hr,isort_asc hasc]
        rw[this]
        simp
   ·    have e:(((R.length:Nat):Int)==1)=false:=by rw[beq_eq_false_iff_ne];omega
        rw[e]
        obtain⟨mid,hmid⟩:∃mid,mid=(a+b)/2:=⟨_,rfl⟩
        have emid:=half (i:=a) (j:=b) (by omega)
        rw[←hmid] at emid
        have en:IntKind.wrap IntKind.i64 ((mid:Int)+(k:Int))=((mid+k:Nat):Int):=wrN (by omega) (by omega)
        have ep:IntKind.wrap IntKind.i64 (((mid+k:Nat):Int)-1)=((mid+k-1:Nat):Int):=wrN (by omega) (by omega)
        simp only[cond_false,i44_j17,emid,en,dlt,i44_j18,ep,i44_j19]
        have hself:∀(X' L' R' Z':List Dt) (a' k' b':Nat),X'.length=a'→a'+L'.length=k'→k'+R'.length=b'→0<L'.length→0<R'.length→b'≤b→L'.length+R'.length<b-a→Asc (ltc c) L'→Asc (ltc c) R'→(∀x∈L',P x)→(∀x∈R',P x)→i44 m (a':Int) (k':Int) (b':Int) (X'++(L'++(R'++Z'))) K=some (X'++(isort (ltc c) (L'++R')++Z'),K):=
         fun X' L' R' Z' a' k' b' g1 g2 g3 g4 g5 g6 g7 g8 g9 g10 g11=>sym_eq B hB hB0 N m X' L' R' Z' a' k' b' (by omega) (by omega) g1 g2 g3 g4 g5 (by omega) g8 g9 g10 g11
        have done:∀(La Lb Ra Rb:List Dt),L=La++Lb→R=Ra++Rb→(∀x∈La,∀y∈Rb,ltc c y x=false)→(∀x∈Lb,∀y∈Ra,ltc c y x=true)→mid+k-1+1=a+La.length+k+Ra.length→
          i44_j22 m (i44 m) (a:Int) (k:Int) (b:Int) (mid:Int) ((mid+k:Nat):Int) ((a+La.length:Nat):Int) (X++(La++Lb++(Ra++Rb++Z))) K=some (X++(isort (ltc c) (La++Lb++(Ra++Rb))++Z),K):=by
         intro La Lb Ra Rb eL eR g1 g2 g3
         subst eL eR
         rw[List.length_append] at hk hb hN h1 h2 hL hR
         exact sym_cut hc m B hB (by omega) X La Lb Ra Rb Z a k b mid (mid+k) ha hk hb hbB (by omega) rfl hA hRa g1 g2 hP hQ _ hself (by omega) (by omega)
        by_cases hmk:mid<k
        ·have enb:IntKind.wrap IntKind.i64 (((mid+k:Nat):Int)-(b:Int))=((mid+k-b:Nat):Int):=wrN (by omega) (by omega)
         simp only[hmk,decide_true,cond_true,enb]
         obtain⟨L1,L0,e1,e2⟩:=split_at L (mid+k-b-a) (by omega)
         obtain⟨T,L2,e3,e4⟩:=split_at L0 (mid-(mid+k-b)) (by rw[e1,List.length_append] at hk;omega)
         subst e3
         have hLl:L.length=L1.length+(T.length+L2.length):=by rw[e1];simp
         obtain⟨La,Lb,Ra,Rb,q1,q2,q3,q4,q5,q6⟩:=find_cut hc hC m (by omega) (i44 m) X Z a k b mid (mid+k) ha T.length (m+1) L1 T L2 [] R [] (mid+k-b) mid (mid+k-1) rfl (by omega) (by omega) (by omega) (by omega) (by omega) (by simp;omega) (by simp;omega) (by simp) (by simp) (by rw[←e1];exact hA) (by simpa using hRa) (fun x hx=>hP x (by rw[e1];simp[hx])) hQ
         simp only[List.nil_append,List.append_nil] at q2 q6
         rw[←e1] at q1 q6
         refine q6.trans ?_
         have:=done La Lb Ra Rb q1 q2 q3 q4 q5
         rw[←q1,←q2] at this
         exact this
        ·simp only[hmk,decide_false,cond_false]
         obtain⟨R1,R0,e1,e2⟩:=split_at R (mid-k) (by omega)
         obtain⟨U,R2,e3,e4⟩:=split_at R0 L.length (by rw[e1,List.length_append] at hb;omega)
         subst e3
         have hRl:R.length=R1.length+(U.length+R2.length):=by rw[e1];simp
         obtain⟨La,Lb,Ra,Rb,q1,q2,q3,q4,q5,q6⟩:=find_cut hc hC m (by omega) (i44 m) X Z a k b mid (mid+k) ha L.length (m+1) [] L [] R1 U R2 a k (mid+k-1) rfl e4 (by omega) (by simp) hk (by simp) (by omega) (by omega) (by simp) (by simp) (by simpa using hA) (by rw[←e1];exact hRa) hP (fun x hx=>hQ x (by rw[e1];simp[hx]))
         simp only[List.nil_append,List.append_nil] at q1 q6
         rw[←e1] at q2 q6
         refine q6.trans ?_
         have:=done La Lb Ra Rb q1 q2 q3 q4 q5
         rw[←q1,←q2] at this
         exact this
inductive AB (lt:Dt→Dt→Bool) (s:Nat):List Dt→Prop where
 |last {l:List Dt} (h:l.length≤s) (a:Asc lt l):AB lt s l
 |cons {x l:List Dt} (h:x.length=s) (a:Asc lt x) (r:AB lt s l):AB lt s (x++l)
omit hc hC in
theorem AB.asc {lt:Dt→Dt→Bool} {s:Nat} {l:List Dt} (h:AB lt s l) (hs:0<s) (hl:l.length≤s):Asc lt l:=by
 cases h with
 |last _ a=>exact a
 | @cons x l h a r=>
   rw[List.length_append] at hl
   have:l=[]:=List.length_eq_zero_iff.1 (by omega)
   subst this
   simpa using a
theorem st_l1 (m B:Nat) (hB:B<288230376151711744) (hmB:B+4≤m) (hB0:m0+1≤m) (n:Nat) (hnB:n≤B):∀(q M:Nat) (X R:List Dt) (a:Nat),R.length≤q→q<M→X.length=a→a+R.length=n→(∀x∈R,P x)→
  ∃R',AB (ltc c) 20 R'∧R'.length=R.length∧isort (ltc c) R'=isort (ltc c) R∧(∀x∈R',P x)∧i40_l1 m M (n:Int) 20 (a:Int) ((a+20:Nat):Int) (X++R) K=i40_j4 m (n:Int) 20 (X++R') K:=by
 have h:=swo hc
 obtain⟨m,rfl⟩:∃k,m=k+1:=⟨m-1,by omega⟩
 intro q
 induction q using Nat.strongRecOn with
 |_ q   ih=>
  intro M X R a hR hM ha hn hP
  obtain⟨M,rfl⟩:∃k,M=k+1:=⟨M-1,by omega⟩
  simp only[i40_l1,dle]
  by_cases hle:a+20≤n
  · obtain⟨x,R2,rfl,hx⟩:=split_at R 20 (by omega)
    rw[List.length_append] at hn hR
    have hi:=ins_eq hc hC m (by omega) X x R2 a (a+20) ha (by omega) (by omega) (by omega) (fun y hy=>hP y (by simp[hy]))
    obtain⟨R',g1,g2,g3,g4,g5⟩:=ih (q-20) (by omega) M (X++isort (ltc c) x) R2 (a+20) (by omega) (by omega) (by rw[List.length_append,isort_len];omega) (by omega) (fun y hy=>hP y (by simp[hy]))
    refine⟨isort (ltc c) x++R',.cons (by rw[isort_len];exact hx) (asc_isort h x) g1,by rw[List.length_append,List.length_append,isort_len,g2],?_,fun y hy=>?_,?_⟩
    ·exact(isort_ctx2 h (by have:=isort_isort h x [];simpa using this) g3)
    ·   rcases List.mem_append.1 hy with hy|hy
        ·exact hP y (by simp[mem_isort.1 hy])
        ·exact g4 y hy
    ·   have ew:IntKind.wrap IntKind.i64 (((a+20:Nat):Int)+20)=((a+20+20:Nat):Int):=wrN (by omega) (by omega)
        simp only[hle,decide_true,cond_true,i40_j2,hi,Option.bind_some,ew]
        simp only[List.append_assoc] at g5 ⊢
        exact g5
  · have hi:=ins_eq hc hC m (by omega) X R [] a n ha hn (by omega) (by omega) hP
    simp only[List.append_nil] at hi
    refine⟨isort (ltc c) R,.last (by rw[isort_len];omega) (asc_isort h R),isort_len R,by have:=isort_isort h R [];simpa using this,fun y hy=>hP y (mem_isort.1 hy),?_⟩
    simp only[hle,decide_false,cond_false,i40_j3,hi,Option.bind_some]
theorem st_l8 (m B:Nat) (hB:B<288230376151711744) (hmB:2*B+6≤m) (hB0:m0≤B) (n s:Nat) (hnB:n≤B) (hs:0<s) (hsB:s≤B) (rec5:Int→Int→List Dt→List Dt→Option (List Dt×List Dt)):∀(q M:Nat) (X R:List Dt) (a:Nat),R.length≤q→q<M→X.length=a→a+R.length=n→AB (ltc c) s R→(∀x∈R,P x)→
  ∃R',AB (ltc c) (2*s) R'∧R'.length=R.length∧isort (ltc c) R'=isort (ltc c) R∧(∀x∈R',P x)∧i40_l8 m rec5 M (n:Int) (s:Int) (a:Int) ((a+2*s:Nat):Int) (X++R) K=i40_j11 m rec5 (n:Int) (s:Int) (X++R') K:=by
 have h:=swo hc
 intro q
 induction q using Nat.strongRecOn with
 |_ q   ih=>
  intro M X R a hR hM ha hn hAB hP
  obtain⟨M,rfl⟩:∃k,M=k+1:=⟨M-1,by omega⟩
  have eas:IntKind.wrap IntKind.i64 ((a:Int)+(s:Int))=((a+s:Nat):Int):=wrN (by omega) (by omega)
  have e2s:IntKind.wrap IntKind.i64 ((2:Int)*(s:Int))=((2*s:Nat):Int):=wrN (by omega) (by omega)
  simp only[i40_l8,dle]
  by_cases hle:a+2*s≤n
  · cases hAB with
    |last hl _=>omega
    |   @cons x R1 hx ax r1=>
        rw[List.length_append] at hn hR
        have hy:∃y R2,R1=y++R2∧y.length=s∧Asc (ltc c) y∧AB (ltc c) s R2:=by
         cases r1 with
         |last hl al=>exact⟨R1,[],by simp,by omega,al,.last (by simp) trivial⟩
         | @cons y R2 hy ay r2=>exact⟨y,R2,rfl,hy,ay,r2⟩
        obtain⟨y,R2,rfl,hy,ay,r2⟩:=hy
        rw[List.length_append] at hn hR
        have hsy:=sym_eq hc hC B hB hB0 (2*s) m X x y R2 a (a+s) (a+2*s) (by omega) (by omega) ha (by omega) (by omega) (by omega) (by omega) (by omega) ax ay (fun z hz=>hP z (by simp[hz])) (fun z hz=>hP z (by simp[hz]))
        obtain⟨R',g1,g2,g3,g4,g5⟩:=ih (q-2*s) (by omega) M (X++isort (ltc c) (x++y)) R2 (a+2*s) (by omega) (by omega) (by rw[List.length_append,isort_len,List.length_append];omega) (by omega) r2 (fun z hz=>hP z (by simp[hz]))
        have exy:isort (ltc c) (isort (ltc c) (x++y))=isort (ltc c) (x++y):=by have:=isort_isort h (x++y) [];simpa using this
        refine⟨isort (ltc c) (x++y)++R',.cons (by rw[isort_len,List.length_append];omega) (asc_isort h _) g1,by simp only[List.length_append,isort_len,g2];omega,?_,fun z hz=>?_,?_⟩
        ·rw[←List.append_assoc]
         exact isort_ctx2 h exy g3
        ·rcases List.mem_append.1 hz with hz|hz
         ·exact hP z (by have:=mem_isort.1 hz;simp only[List.mem_append] at this ⊢;rcases this with q|q<;>simp[q])
         ·exact g4 z hz
        ·have ew:IntKind.wrap IntKind.i64 (((a+2*s:Nat):Int)+((2*s:Nat):Int))=((a+2*s+2*s:Nat):Int):=wrN (by omega) (by omega)
         have hsy':i44 m (a:Int) ((a+s:Nat):Int) ((a+2*s:Nat):Int) (X++(x++(y++R2))) K=some (X++(isort (ltc c) (x++y)++R2),K):=hsy
         simp only[hle,decide_true,cond_true,i40_j9,eas,e2s,hsy',Option.bind_some,ew]
         simp only[List.append_assoc] at g5 ⊢
         exact g5
  · simp only[hle,decide_false,cond_false,i40_j10,eas,dlt]
    by_cases hlt:a+s<n
    ·   have hsp:∃x y,R=x++y∧x.length=s∧Asc (ltc c) x∧Asc (ltc c) y:=by
         cases hAB with
         |last hl al=>omega
         | @cons x y hx ax r1=>
           rw[List.length_append] at hn
           exact⟨x,y,rfl,hx,ax,r1.asc hs (by omega)⟩
        obtain⟨x,y,rfl,hx,ax,ay⟩:=hsp
        rw[List.length_append] at hn hR
        have hsy:=sym_eq hc hC B hB hB0 B m X x y [] a (a+s) n (by omega) (by omega) ha (by omega) (by omega) (by omega) (by omega) (by omega) ax ay (fun z hz=>hP z (by simp[hz])) (fun z hz=>hP z (by simp[hz]))
        simp only[List.append_nil] at hsy
        have exy:isort (ltc c) (isort (ltc c) (x++y))=isort (ltc c) (x++y):=by have:=isort_isort h (x++y) [];simpa using this
        refine⟨isort (ltc c) (x++y),.last (by rw[isort_len,List.length_append];omega) (asc_isort h _),isort_len _,exy,fun z hz=>hP z (mem_isort.1 hz),?_⟩
        simp only[hlt,decide_true,cond_true,hsy,Option.bind_some]
    ·   refine⟨R,.last (by omega) (hAB.asc hs (by omega)),rfl,rfl,hP,?_⟩
        simp only[hlt,decide_false,cond_false]
theorem st_l5 (m B:Nat) (hB:B<144115188075855872) (hmB:2*B+6≤m) (hB0:m0≤B) (n:Nat) (hnB:2*n+40≤B):∀(q M s:Nat) (R:List Dt),n-s≤q→q<M→20≤s→s≤2*n+20→R.length=n→AB (ltc c) s R→(∀x∈R,P x)→
  i40_l5 m M (n:Int) (s:Int) R K=some (isort (ltc c) R,K):=by
 have h:=swo hc
 intro q
 induction q using Nat.strongRecOn with
 |_ q ih=>
  intro M s R hq hM hs hs2 hR hAB hP
  obtain⟨M,rfl⟩:∃k,M=k+1:=⟨M-1,by omega⟩
  simp only[i40_l5,dlt]
  by_cases hlt:s<n
  · obtain⟨R',g1,g2,g3,g4,g5⟩:=st_l8 hc hC m B (by omega) hmB hB0 n s (by omega) (by omega) (by omega) (i40_l5 m M) n (m+1) [] R 0 (by omega) (by omega) rfl (by omega) hAB hP
    have e2s:IntKind.wrap IntKind.i64 ((2:Int)*(s:Int))=((0+2*s:Nat):Int):=wrN (by omega) (by omega)
    have es2:IntKind.wrap IntKind.i64 ((s:Int)*2)=((2*s:Nat):Int):=wrN (by omega) (by omega)
    have g5':i40_l8 m (i40_l5 m M) (Nat.succ m) (n:Int) (s:Int) 0 ((0+2*s:Nat):Int) R K=i40_j11 m (i40_l5 m M) (n:Int) (s:Int) R' K:=g5
    simp only[hlt,decide_true,cond_true,i40_j6,i40_j7,e2s,g5',i40_j11,es2]
    rw[ih (n-2*s) (by omega) M (2*s) R' (by omega) (by omega) (by omega) (by omega) (by omega) g1 g4,g3]
  · simp only[hlt,decide_false,cond_false]
    rw[isort_asc (hAB.asc (by omega) (by omega))]
theorem stable_eq (m B:Nat) (hB:B<144115188075855872) (hmB:2*B+6≤m) (hB0:m0≤B) (R:List Dt) (hnB:2*R.length+40≤B) (hP:∀x∈R,P x):i39 (m+2) R K=some (isort (ltc c) R,K):=by
 obtain⟨R',g1,g2,g3,g4,g5⟩:=st_l1 hc hC m B (by omega) (by omega) (by omega) R.length (by omega) R.length (m+1) [] R 0 (Nat.le_refl _) (by omega) rfl (by omega) hP
 have g5':i40_l1 m (Nat.succ m) ((R.length:Nat):Int) 20 0 20 R K=i40_j4 m ((R.length:Nat):Int) 20 R' K:=g5
 have h5:=st_l5 hc hC m B hB hmB hB0 R.length hnB R.length (m+1) 20 R' (by omega) (by omega) (by omega) (by omega) g2 g1 g4
 have h5':i40_l5 m (Nat.succ m) ((R.length:Nat):Int) 20 R' K=some (isort (ltc c) R',K):=h5
 simp only[i39,i40,i40_j0,g5',i40_j4,h5',Option.bind_some,g3]
end
end Go.Proofs.YtpifchdngodgjaaGreatDoor
namespace Go.Proofs.YtpifchdngodgjaaGreatDoor
open Go.Am Go.Am.Srt
noncomputable def rowD (l:List Dt) (d:Dt):Dt:= .agg [d,.lst (keysD l d)]
def cmpR (l:List Dt) (x y:Dt):Int:=cmpKs l (Dt.L x 1) (Dt.L y 1)
theorem tpoR (l:List Dt):TPO (cmpR l):=(tpoK l).key fun x=>Dt.L x 1
noncomputable def sortD (l:List Dt) (D:List Dt):List Dt:=isort (ltc (cmpO l)) D
theorem isort_map {A B:Type} {lt:A→A→Bool} {lt':B→B→Bool} (f:A→B) (h:∀a b,lt' (f a) (f b)=lt a b):∀D:List A,isort lt' (D.map f)=(isort lt D).map f
 | []=>rfl
 |a::D=>by
  have hi:∀(x:A) (s:List A),ins lt' (f x) (s.map f)=(ins lt x s).map f:=by
   intro x s
   induction s with
   |nil=>rfl
   |    cons y s ih=>
        simp only[List.map_cons,ins,h]
        cases lt y x
        ·rfl
        ·simp only[cond_true,List.map_cons,ih]
  show ins lt' (f a) (isort lt' (D.map f))=(ins lt a (isort lt D)).map f
  rw[isort_map f h D,hi]
theorem ofirst_l1 (m:Nat) (hm:300000000000≤m∧m<8000000000000000000) (x0:Int) (l D:List Dt) (z:Dt) (hl:l.length≤0) (hD:∀d∈D,DocOK d) (hDl:D.length≤1000000):∀(M i:Nat),i≤D.length→D.length-i<M→
  qT_l1 (m+3) M x0 D (D.length:Int) (i:Int) l ((D.take i).map (rowD l)++List.replicate (D.length-i) z)=qT_j4 (m+3) x0 l (D.map (rowD l))
 |0,i,_,h=>by omega
 |M+    1,i,hi,h=>by
  simp only[qT_l1,dlt]
  by_cases hlt:i<D.length
  ·have hk:=okeys_eq m (by omega) l D[i] (hD _ (List.getElem_mem hlt)) hl
   have lm:((D.take i).map (rowD l)).length=i:=by simp;omega
   have hx:i<((D.take i).map (rowD l)++List.replicate (D.length-i) z).length:=by rw[List.length_append,lm,List.length_replicate];omega
   have hs:((D.take i).map (rowD l)++List.replicate (D.length-i) z).set i (Dt.agg [D[i],Dt.lst (keysD l D[i])])=(D.take (i+1)).map (rowD l)++List.replicate (D.length-(i+1)) z:=by
        rw[List.set_append_right _ _ (by omega),lm,Nat.sub_self,show D.length-i=(D.length-(i+1))+1 by omega,List.replicate_succ,List.set_cons_zero,List.take_succ_eq_append_getElem hlt,List.map_append,List.append_assoc]
        rfl
   simp only[hlt,decide_true,cond_true,qT_j2,qT_j3,idx_lt hlt,Option.bind_some,hk,inL_lt hx,Int.toNat_natCast,List.getElem?_eq_getElem hx,hs,wrapS (show i<9223372036854775807 by omega)]
   exact ofirst_l1 m hm x0 l D z hl hD hDl M (i+1) (by omega) (by omega)
  ·have:i=D.length:=by omega
   subst this
   simp
theorem ofirst_l6 (m:Nat) (hm:1048576≤m) (R:List Dt) (hl:R.length≤1000000) (hR:∀r∈R,qG m (Dt.fld r 0)=some (Dt.fld r 0)):∀(M i:Nat),i≤R.length→R.length-i<M→qT_l6 m M R (R.length:Int) (i:Int) ((R.take i).map fun r=>Dt.fld r 0)=some (R.map fun r=>Dt.fld r 0)
 |0,i,_,h=>by omega
 |M+    1,i,hi,h=>by
  simp only[qT_l6,dlt]
  by_cases hlt:i<R.length
  ·simp only[hlt,decide_true,cond_true,qT_j7,qT_j8,idx_lt hlt,Option.bind_some,hR _ (List.getElem_mem hlt),wrapS (show i<9223372036854775807 by omega)]
   rw[app_le (by simp;omega)]
   have e:((R.take i).map fun r=>Dt.fld r 0)++[Dt.fld R[i] 0]=(R.take (i+1)).map fun r=>Dt.fld r 0:=by
        rw[List.take_succ_eq_append_getElem hlt,List.map_append];rfl
   rw[Option.bind_some,e]
   exact ofirst_l6 m hm R hl hR M (i+1) (by omega) (by omega)
  ·have:i=R.length:=by omega
   subst this
   simp[qT_j9]
theorem row_fld (l:List Dt) (d:Dt):Dt.fld (rowD l d) 0=d:=rfl
theorem ofirst_eq (m:Nat) (hm:300000000000≤m∧m<8000000000000000000) (l D:List Dt) (n:Nat) (hl:l.length≤0) (hD:∀d∈D,DocOK d) (hDl:D.length≤1000) (hn:n≤D.length):qT (m+4) l D (n:Int)=some ((sortD l D).take n):=by
 have hmk:=mkL_nat (n:=D.length) (z:=Dt.agg [zeroVal,Dt.lst []]) (by omega)
 have h1:=ofirst_l1 m hm (n:Int) l D (Dt.agg [zeroVal,Dt.lst []]) hl hD (by omega) (m+4) 0 (Nat.zero_le _) (by omega)
 simp only[List.take_zero,List.map_nil,List.nil_append,Nat.sub_zero] at h1
 have h1':qT_l1 (m+3) (Nat.succ (m+3)) (n:Int) D ((D.length:Nat):Int) 0 l (List.replicate D.length (Dt.agg [zeroVal,Dt.lst []]))=qT_j4 (m+3) (n:Int) l (D.map (rowD l)):=h1
 have hC:∀k,80000000002≤k→∀x y,(∃d,DocOK d∧x=rowD l d)→(∃d,DocOK d∧y=rowD l d)→i42 k x y l=some (cmpR l x y,l):=by
  rintro k hk x y ⟨a,ha,rfl⟩ ⟨b,hb,rfl⟩
  obtain⟨k,rfl⟩:∃q,k=q+2:=⟨k-2,by omega⟩
  have e:=ocmp_eq k (by omega) l (keysD l a) (keysD l b) (by simp[keysD]) (by simp[keysD]) hl (fun x hx=>by
   obtain⟨o,_,rfl⟩:=List.mem_map.1 hx
   exact(keyD_wv ha o).2)
  have e':qY (k+1) l (Dt.L (rowD l a) 1) (Dt.L (rowD l b) 1)=some (cmpR l (rowD l a) (rowD l b)):=e
  simp only[i42,e',Option.bind_some]
 have hs:=stable_eq (tpoR l) (P:=fun x=>∃d,DocOK d∧x=rowD l d) (K:=l) (m0:=80000000002) hC (m+1) 100000000000 (by omega) (by omega) (by omega) (D.map (rowD l)) (by simp;omega) (fun x hx=>by
  obtain⟨d,hd,rfl⟩:=List.mem_map.1 hx
  exact⟨d,hD d hd,rfl⟩)
 have hmap:isort (ltc (cmpR l)) (D.map (rowD l))=(sortD l D).map (rowD l):=isort_map (rowD l) (fun a b=>rfl) D
 have hlen:(sortD l D).length=D.length:=isort_len D
 have hcut:cutL ((sortD l D).map (rowD l)) 0 (n:Int)=some (((sortD l D).take n).map (rowD l)):=by
  rw[cutL_zero (by simp;omega),List.map_take]
 have h6:=ofirst_l6 (m+3) (by omega) (((sortD l D).take n).map (rowD l)) (by simp;omega) (fun r hr=>by
  obtain⟨d,hd,rfl⟩:=List.mem_map.1 hr
  have hd':DocOK d:=hD d (mem_isort.1 (List.mem_of_mem_take hd))
  rw[row_fld]
  exact oclone_eq 1048576 d hd'.bulk (by omega) hd'.wv (m+2) (by omega)) (m+4) 0 (Nat.zero_le _) (by simp;omega)
 simp only[List.take_zero,List.map_nil] at h6
 have h6':qT_l6 (m+3) (Nat.succ (m+3)) (((sortD l D).take n).map (rowD l)) (((((sortD l D).take n).map (rowD l)).length:Nat):Int) 0 []=_:=h6
 have hs':i39 (m+3) (D.map (rowD l)) l=some ((sortD l D).map (rowD l),l):=by
  rw[←hmap];exact hs
 rw[qT]
 show (mkL ((D.length:Nat):Int) ((D.length:Nat):Int) (Dt.agg [zeroVal,Dt.lst []])).bind _=_
 rw[hmk]
 simp only[Option.bind_some,qT_j0,h1',qT_j4,hs',hcut,qT_j5,h6',List.map_map]
 congr 1
 conv=>rhs;rw[←List.map_id ((sortD l D).take n)]
 exact List.map_congr_left fun d _=>rfl
theorem oSort_eq (m:Nat) (hm:300000000000≤m∧m<8000000000000000000) (l D:List Dt) (hl:l.length≤0) (hD:∀d∈D,DocOK d) (hDl:D.length≤1000):zU (m+5) l D=some (sortD l D):=by
 simp only[zU,ofirst_eq m hm l D D.length hl hD hDl (Nat.le_refl _),Option.bind_some]
 rw[List.take_of_length_le (by rw[sortD,isort_len];exact Nat.le_refl _)]
end Go.Proofs.YtpifchdngodgjaaGreatDoor
