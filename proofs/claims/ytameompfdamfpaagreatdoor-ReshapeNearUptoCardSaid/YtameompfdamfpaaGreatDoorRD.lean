/- The loops of Near, the program's and the reference's, at an abstract distance.
The reference's Near:its lists are those of the sorted places so far.
Each value is the same as itself (layer 3's functions). -/
import Derived.Test.YtameompfdamfpaaGreatDoorRC
import Derived.Test.YtameompfdamfpaaGreatDoorMTpo
import Derived.Test.YtameompfdamfpaaGreatDoorRA
set_option linter.unusedVariables false
set_option linter.unusedSimpArgs false
namespace Go.Proofs.YtameompfdamfpaaGreatDoor
open Go.Am Go.Am.Srt
def ltd (x y:Dt):Bool:=decide (Dt.I x 1-Dt.I y 1<0)
theorem ltd_swo:SWO ltd:=⟨fun x=>by simp[ltd],fun x y z h1 h2=>by simp only[ltd,decide_eq_true_eq] at*;omega,fun x y z h1 h2=>by simp only[ltd,decide_eq_false_iff_not] at*;omega⟩
def plc (d:Dt) (n:Int):Dt:= .agg [d,.int n]
def pls (nf:Dt→Int×Bool):List Dt→List Dt
 | []=>[]
 |d::r=>bif (nf d).2 then plc d (nf d).1::pls nf r else pls nf r
theorem pls_len (nf:Dt→Int×Bool):∀l,(pls nf l).length≤l.length
 | []=>Nat.le_refl _
 |d::r=>by
  have:=pls_len nf r
  unfold pls
  cases (nf d).2<;>simp only[cond_true,cond_false,List.length_cons]<;>omega
theorem pls_mem {nf:Dt→Int×Bool} {Q:Dt→Prop}:∀{l:List Dt},(∀d∈l,Q (plc d (nf d).1))→∀x∈pls nf l,Q x
 | [],_,x,hx=>by cases hx
 |d::r,h,x,hx=>by
  unfold pls at hx
  cases hd:(nf d).2 with
  |true=>
   rw[hd,cond_true] at hx
   rcases List.mem_cons.1 hx with rfl|hx
   ·exact h d (by simp)
   ·exact pls_mem (fun e he=>h e (by simp[he])) x hx
  |false=>
   rw[hd,cond_false] at hx
   exact pls_mem (fun e he=>h e (by simp[he])) x hx
theorem near_l3 (m:Nat) (nf:Dt→Int×Bool) (p:List Dt) (name:ByteArray) (docs:List Dt) (s:Dt) (hl:docs.length≤1000000) (hn:∀d∈docs,reshape_nearest m s p d=some (nf d)):∀(M i:Nat) (out:List Dt),i≤docs.length→docs.length-i<M→out.length+(docs.length-i)≤1000000→
  reshape_Near_l3 m M p name docs (docs.length:Int) (i:Int) s out=reshape_Near_j6 m name (out++pls nf (docs.drop i))
 |0,i,_,_,h,_=>by omega
 |M+    1,i,out,hi,h,ho=>by
  simp only[reshape_Near_l3,dlt]
  by_cases hlt:i<docs.length
  ·rw[List.drop_eq_getElem_cons hlt,pls]
   simp only[hlt,decide_true,cond_true,reshape_Near_j4,reshape_Near_j5,idx_lt hlt,Option.bind_some,hn _ (List.getElem_mem hlt),wrapS (show i<9223372036854775807 by omega)]
   cases (nf docs[i]).2 with
   |    true=>
        simp only[cond_true,app_one (show out.length<137438953472 by omega),Option.bind_some]
        rw[near_l3 m nf p name docs s hl hn M (i+1) _ (by omega) (by omega) (by simp;omega),List.append_assoc]
        rfl
   |    false=>
        simp only[cond_false]
        exact near_l3 m nf p name docs s hl hn M (i+1) out (by omega) (by omega) (by omega)
  ·have e:i=docs.length:=by omega
   subst e
   simp[pls]
theorem near_l8 (m:Nat) (name:ByteArray) (res:Dt→Dt) (P:List Dt) (hl:P.length≤1000000) (hp:∀q∈P,∃v c,reshape_copyValue m (Dt.fld q 0)=some v∧reshape_integer m (Dt.I q 1)=some c∧reshape_named m v name c=some (res q)) (z:Dt):∀(M i:Nat),i≤P.length→P.length-i<M→
  reshape_Near_l8 m M name P (P.length:Int) (i:Int) ((P.map res).take i++List.replicate ((P.map res).length-i) z)=some (P.map res)
 |0,i,_,h=>by omega
 |M+1,i,hi,h=>by
  simp only[reshape_Near_l8,dlt]
  by_cases hlt:i<P.length
  ·have hlt':i<(P.map res).length:=by rw[List.length_map];exact hlt
   have hx:i<((P.map res).take i++List.replicate ((P.map res).length-i) z).length:=by rw[row_len (P.map res) z i (by omega)];exact hlt'
   obtain⟨v,c,e1,e2,e3⟩:=hp _ (List.getElem_mem hlt)
   have e4:res P[i]=(P.map res)[i]:=by rw[List.getElem_map]
   simp only[hlt,decide_true,cond_true,reshape_Near_j9,reshape_Near_j10,idx_lt hlt,Option.bind_some,e1,e2,e3,inL_lt hx,Int.toNat_natCast,List.getElem?_eq_getElem hx,wrapS (show i<9223372036854775807 by omega)]
   rw[e4,set_step (P.map res) z i hlt']
   exact near_l8 m name res P hl hp z M (i+1) (by omega) (by omega)
  ·have e:i=(P.map res).length:=by rw[List.length_map];omega
   simp only[hlt,decide_false,cond_false,reshape_Near_j11]
   rw[e,List.take_length,Nat.sub_self]
   simp
def bk (x:Int) (R:List Dt):Nat→Nat
 |0=>0
 |k+1=>bif decide (x<Dt.I (R.getD k kza2373) 1) then bk x R k else k+1
theorem bk_le (x:Int) (R:List Dt):∀k,bk x R k≤k
 |0=>Nat.le_refl _
 |k+1=>by
  have:=bk_le x R k
  unfold bk
  cases decide (x<Dt.I (R.getD k kza2373) 1)<;>simp only[cond_true,cond_false]<;>omega
theorem bk_gt (x:Int) (R:List Dt):∀k j,bk x R k≤j→j<k→x<Dt.I (R.getD j kza2373) 1
 |0,j,_,h=>by omega
 |k+1,j,h1,h2=>by
  unfold bk at h1
  cases h:decide (x<Dt.I (R.getD k kza2373) 1) with
  |true=>
   rw[h,cond_true] at h1
   by_cases e:j=k
   ·subst e;exact of_decide_eq_true h
   ·exact bk_gt x R k j h1 (by omega)
  |false=>rw[h,cond_false] at h1;omega
theorem bk_at (x:Int) (R:List Dt):∀k,0<bk x R k→¬x<Dt.I (R.getD (bk x R k-1) kza2373) 1
 |0,h=>by simp[bk] at h
 |k+1,h=>by
  unfold bk at h ⊢
  cases hd:decide (x<Dt.I (R.getD k kza2373) 1) with
  |true=>rw[hd,cond_true] at h;simp only[cond_true];exact bk_at x R k h
  |false=>simp only[cond_false];exact of_decide_eq_false hd
def dsL (R:List Dt):List Dt:=R.map fun q=> .int (Dt.I q 1)
theorem rnear_l8 (m:Nat) (rec3:List Dt→ByteArray→List Dt→List Dt→List Dt→Int→Dt→Option (List Dt)) (p:List Dt) (name:ByteArray) (docs out:List Dt) (R:List Dt) (hR:R.length<1000000) (i x:Int) (s:Dt):∀(M k:Nat),k≤R.length→k<M→
  ref36_Near_l8 m rec3 M p name docs out (dsL R) i x (k:Int) s=ref36_Near_j10 m rec3 p name docs out (dsL R) i x ((bk x R k:Nat):Int) s
 |0,k,_,h=>by omega
 |M+1,0,_,_=>by
  simp only[ref36_Near_l8,bk]
  rfl
 |M+1,k+1,hk,h=>by
  have hk':k<(dsL R).length:=by unfold dsL;rw[List.length_map];omega
  have e0:decide ((0:Int)<((k+1:Nat):Int))=true:=decide_eq_true (by omega)
  have ew:IntKind.wrap .i64 (((k+1:Nat):Int)-1)=(k:Int):=by rw[wrap64 (by omega) (by omega)];omega
  have eg:Dt.toInt (dsL R)[k]=Dt.I (R.getD k kza2373) 1:=by
   rw[List.getD,List.getElem?_eq_getElem (show k<R.length by omega)]
   simp only[dsL,List.getElem_map]
   rfl
  simp only[ref36_Near_l8,e0,cond_true,ew,idx_lt hk',Option.bind_some,eg,bk]
  cases decide (x<Dt.I (R.getD k kza2373) 1) with
  |true=>
   simp only[cond_true,ref36_Near_j9,ew]
   exact rnear_l8 m rec3 p name docs out R hR i x s M k (by omega) (by omega)
  |false=>rfl
theorem isort_snoc {lt:Dt→Dt→Bool} (h:SWO lt) (A B:List Dt) (x:Dt) (hA:Asc lt (A++x::B)) (h2:∀b∈B,lt x b=true):isort lt (A++B++[x])=A++x::B:=by
 have:=isort_rot h B [x] A [] (fun u hu v hv=>by rw[List.mem_singleton.1 hv];exact h2 u hu)
 rw[List.append_nil,List.append_nil] at this
 rw[List.append_assoc,this]
 exact isort_asc hA
end Go.Proofs.YtameompfdamfpaaGreatDoor
namespace Go.Proofs.YtameompfdamfpaaGreatDoor
open Go.Am Go.Am.Srt
theorem getD_at {l:List Dt} {k:Nat} {z:Dt} (h:k<l.length):l.getD k z=l[k]:=by rw[List.getD,List.getElem?_eq_getElem h];rfl
theorem put_in (S:List Dt) (q:Dt):isort ltd (S++[q])=(isort ltd S).take (bk (Dt.I q 1) (isort ltd S) (isort ltd S).length)++q::(isort ltd S).drop (bk (Dt.I q 1) (isort ltd S) (isort ltd S).length):=by
 have hA:=asc_isort ltd_swo S
 have e1:=isort_isort ltd_swo S [q]
 generalize isort ltd S=R at hA e1 ⊢
 have hk:=bk_le (Dt.I q 1) R R.length
 have hg:=bk_gt (Dt.I q 1) R R.length
 have ha:=bk_at (Dt.I q 1) R R.length
 generalize bk (Dt.I q 1) R R.length=k at hk hg ha ⊢
 have hs:R.take k++R.drop k=R:=List.take_append_drop k R
 have hA':Asc ltd (R.take k++R.drop k):=by rw[hs];exact hA
 obtain⟨a1,a2,a3⟩:=asc_of_append hA'
 have hB:∀b∈R.drop k,Dt.I q 1<Dt.I b 1:=by
  intro b hb
  obtain⟨j,hj,rfl⟩:=List.mem_iff_getElem.1 hb
  rw[List.length_drop] at hj
  have:=hg (k+j) (by omega) (by omega)
  rw[getD_at (by omega)] at this
  rw[List.getElem_drop]
  exact this
 have hL:∀a∈R.take k,Dt.I a 1≤Dt.I q 1:=by
  intro a hm
  by_cases h0:k=0
  ·subst h0;simp at hm
  ·have h1:=ha (by omega)
   have hlt:k-1<R.length:=by omega
   rw[getD_at hlt] at h1
   have et:R.take k=R.take (k-1)++[R[k-1]]:=by
        have:=take_snoc (l:=R) hlt
        rw[this,show k-1+1=k by omega]
   rw[et] at hm a1
   obtain⟨_,_,c3⟩:=asc_of_append a1
   rcases List.mem_append.1 hm with hm|hm
   ·    have:=c3 a hm _ (List.mem_singleton.2 rfl)
        simp only[ltd,decide_eq_false_iff_not] at this
        omega
   ·rw[List.mem_singleton.1 hm];omega
 have hAsc:Asc ltd (R.take k++q::R.drop k):=by
  refine asc_append a1 ⟨fun y hy=>?_,a2⟩ fun a hm y hy=>?_
  ·have:=hB y hy
   simp only[ltd,decide_eq_false_iff_not];omega
  ·rcases List.mem_cons.1 hy with rfl|hy
   ·    have:=hL a hm
        simp only[ltd,decide_eq_false_iff_not];omega
   ·exact a3 a hm y hy
 have e2:=isort_snoc ltd_swo (R.take k) (R.drop k) q hAsc (fun b hb=>by have:=hB b hb;simp only[ltd,decide_eq_true_eq];omega)
 rw[hs] at e2
 rw[←e1,e2]
theorem cut_drop {l:List Dt} {k:Nat} (h:k≤l.length):cutL l (k:Int) (l.length:Int)=some (l.drop k):=by
 rw[Go.Proofs.YtameompfdamfpaaGreatDoor.cutL_nat h (Nat.le_refl _)]
 congr 1
 exact List.take_of_length_le (by rw[List.length_drop];omega)
theorem cut_take {l:List Dt} {k:Nat} (h:k≤l.length):cutL l 0 (k:Int)=some (l.take k):=by
 have:=Go.Proofs.YtameompfdamfpaaGreatDoor.cutL_nat (l:=l) (i:=0) (j:=k) (Nat.zero_le _) h
 simpa using this
theorem app_nil' {l:List Dt} (h:l.length≤137438953472):app [] l=some l:=by rw[app_le (by simpa using h)];rfl
theorem rnear_l3 (m:Nat) (nf:Dt→Int×Bool) (res:Dt→Dt) (p:List Dt) (name:ByteArray) (docs:List Dt) (s:Dt) (hl:docs.length≤1000) (hm:2000≤m) (hn:∀d∈docs,ref36_Distance m s p d=some (nf d))
  (hr:∀d∈docs,(nf d).2=true→∃c,ref36_integer m (nf d).1=some c∧ref36_with m d name c=some (res (plc d (nf d).1))):∀(M i:Nat) (S:List Dt),i≤docs.length→docs.length-i<M→S.length+(docs.length-i)≤1000→
  ref36_Near_l3 m M p name docs ((isort ltd S).map res) (dsL (isort ltd S)) (i:Int) s=some ((isort ltd (S++pls nf (docs.drop i))).map res)
 |0,i,_,_,h,_=>by omega
 |M+    1,i,S,hi,h,hS=>by
  simp only[ref36_Near_l3,dlt]
  by_cases hlt:i<docs.length
  ·rw[   List.drop_eq_getElem_cons hlt,pls]
   simp only[hlt,decide_true,cond_true,ref36_Near_j4,idx_lt hlt,Option.bind_some,hn _ (List.getElem_mem hlt)]
   cases hd:(nf docs[i]).2 with
   |    false=>
        simp only[Bool.not_false,cond_true,cond_false,ref36_Near_j5,wrapS (show i<9223372036854775807 by omega)]
        exact rnear_l3 m nf res p name docs s hl hm hn hr M (i+1) S (by omega) (by omega) (by omega)
   |    true=>
        obtain⟨c,c1,c2⟩:=hr _ (List.getElem_mem hlt) hd
        have hp:=put_in S (plc docs[i] (nf docs[i]).1)
        have ih:=rnear_l3 m nf res p name docs s hl hm hn hr M (i+1) (S++[plc docs[i] (nf docs[i]).1]) (by omega) (by omega) (by simp;omega)
        have hRl:(isort ltd S).length=S.length:=isort_len S
        rw[List.append_assoc] at ih
        simp only[Bool.not_true,cond_false,cond_true,ref36_Near_j6,ref36_Near_j7]
        rw[hp] at ih
        rw[show Dt.I (plc docs[i] (nf docs[i]).1) 1=(nf docs[i]).1 from rfl] at ih
        generalize isort ltd S=R at hRl ih ⊢
        have hk:=bk_le (nf docs[i]).1 R R.length
        have h8:=rnear_l8 m (ref36_Near_l3 m M) p name docs (R.map res) R (by omega) (i:Int) (nf docs[i]).1 s (Nat.succ m) R.length (Nat.le_refl _) (by omega)
        rw[List.length_map]
        refine Eq.trans h8 ?_
        generalize bk (nf docs[i]).1 R R.length=k at hk ih ⊢
        have hk1:k≤(R.map res).length:=by rw[List.length_map];exact hk
        have hk2:k≤(dsL R).length:=by unfold dsL;rw[List.length_map];exact hk
        have l1:((R.map res).take k).length≤1000:=by rw[List.length_take,List.length_map];omega
        have l2:((R.map res).drop k).length≤1000:=by rw[List.length_drop,List.length_map];omega
        have l3:((dsL R).take k).length≤1000:=by unfold dsL;rw[List.length_take,List.length_map];omega
        have l4:((dsL R).drop k).length≤1000:=by unfold dsL;rw[List.length_drop,List.length_map];omega
        simp only[ref36_Near_j10,cut_take hk1,cut_drop hk1,cut_take hk2,cut_drop hk2,Option.bind_some,cond_true,idx_lt hlt,c1,c2,app_nil' (show ((R.map res).take k).length≤137438953472 by omega),app_nil' (show ((dsL R).take k).length≤137438953472 by omega),
         app_one (show ((R.map res).take k).length<137438953472 by omega),app_one (show ((dsL R).take k).length<137438953472 by omega),app_le (show ((R.map res).take k++[res (plc docs[i] (nf docs[i]).1)]).length+((R.map res).drop k).length≤137438953472 by rw[List.length_append,List.length_singleton];omega),
         app_le (show ((dsL R).take k++[Dt.int (nf docs[i]).1]).length+((dsL R).drop k).length≤137438953472 by rw[List.length_append,List.length_singleton];omega),ref36_Near_j5,wrapS (show i<9223372036854775807 by omega)]
        refine Eq.trans ?_ ih
        congr 1
        ·rw[List.map_append,List.map_cons,List.map_take,List.map_drop,List.append_assoc];rfl
        ·unfold dsL
         rw[List.map_append,List.map_cons,List.map_take,List.map_drop,List.append_assoc];rfl
  ·have e:i=docs.length:=by omega
   subst e
   simp[pls,ref36_Near_j11]
end Go.Proofs.YtameompfdamfpaaGreatDoor
namespace Go.Proofs.YtameompfdamfpaaGreatDoor
open Go.Am
theorem r03_l (m:Nat) (self5:List Dt→List Dt→Option Bool) (self:Dt→Dt→Option Bool) (d:Dt) (hl:(Dt.L d 4).length<1000000000000) (hs:∀f∈Dt.L d 4,self (Dt.fld f 1) (Dt.fld f 1)=some true) (hL:self5 (Dt.L d 3) (Dt.L d 3)=some true):∀(M i:Nat),i≤(Dt.L d 4).length→(Dt.L d 4).length-i<M→law03_Same_l3 m self5 self M ((Dt.L d 4).length:Int) (i:Int) d d=some true
 |0,i,_,h=>by omega
 |M+1,i,hi,h=>by
  simp only[law03_Same_l3,dlt]
  by_cases hlt:i<(Dt.L d 4).length
  ·simp only[hlt,decide_true,cond_true,law03_Same_j4,law03_Same_j5,law03_Same_j6,idx_lt hlt,Option.bind_some,beq_self_eq_true,Bool.not_true,cond_false,hs _ (List.getElem_mem hlt),wrapS (show i<9223372036854775807 by omega)]
   exact r03_l m self5 self d hl hs hL M (i+1) (by omega) (by omega)
  ·simp only[hlt,decide_false,cond_false,law03_Same_j7,hL,Option.bind_some]
theorem r03L_l (m:Nat) (self:Dt→Dt→Option Bool) (l:List Dt) (hl:l.length<1000000000000) (hs:∀e∈l,self e e=some true):∀(M i:Nat),i≤l.length→l.length-i<M→law03_SameList_l2 m self M l l (l.length:Int) (i:Int)=some true
 |0,i,_,h=>by omega
 |M+1,i,hi,h=>by
  simp only[law03_SameList_l2,dlt]
  by_cases hlt:i<l.length
  ·simp only[hlt,decide_true,cond_true,law03_SameList_j3,law03_SameList_j4,idx_lt hlt,Option.bind_some,Bool.not_true,cond_false,hs _ (List.getElem_mem hlt),wrapS (show i<9223372036854775807 by omega)]
   exact r03L_l m self l hl hs M (i+1) (by omega) (by omega)
  ·simp only[hlt,decide_false,cond_false,law03_SameList_j5]
theorem r03_list (m:Nat) (l:List Dt) (hl:l.length≤m) (hl2:l.length<1000000000000) (hs:∀e∈l,law03_Same m e e=some true):law03_SameList (m+1) l l=some true:=by
 show (bif ((((l.length:Nat):Int) !=((l.length:Nat):Int)):Bool) then some false else law03_SameList_j0 m (law03_Same m) l l)=_
 rw[bne_self_eq_false]
 exact r03L_l m (law03_Same m) l hl2 hs (m+1) 0 (Nat.zero_le _) (by omega)
theorem r03_refl:∀(N:Nat) (d:Dt),d.bulk≤N→N<1000000000000→∀m,2*N≤m→law03_Same (m+1) d d=some true
 |0,d,h,_,_,_=>by have:=bulk_posA d;omega
 |N+1,d,h,hN,m,hm=>by
  obtain⟨m,rfl⟩:∃k,m=k+2:=⟨m-2,by omega⟩
  have h3:=L_len d 3
  have h4:=L_len d 4
  have hL:=r03_list (m+1) (Dt.L d 3) (by omega) (by omega) fun e he=>r03_refl N e (by have:=L_mem he;omega) (by omega) m (by omega)
  have key:=r03_l (m+2) (law03_SameList (m+2)) (law03_Same (m+2)) d (by omega) (fun f hf=>r03_refl N (Dt.fld f 1) (by have:=L_mem hf;have:=fld_bulk f 1;omega) (by omega) (m+1) (by omega)) hL (m+3) 0 (Nat.zero_le _) (by omega)
  rw[law03_Same]
  simp only[bne_self_eq_false,beq_self_eq_true,Bool.not_true,cond_false,law03_Same_j0]
  exact key
end Go.Proofs.YtameompfdamfpaaGreatDoor
