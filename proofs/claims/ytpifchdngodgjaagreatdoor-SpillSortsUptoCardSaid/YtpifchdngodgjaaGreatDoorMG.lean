/- Merging two sorted lists is the stable sort of both, one after the other.
What a path passes to:the program's function and the reference's.
Reach:the program's functions and the reference's.
Sort keys:the program's function and the reference's,in plain Lean.
Copies of values,by layer 12's function. -/
import Derived.Test.YtpifchdngodgjaaGreatDoorMTpo
import Derived.Test.YtpifchdngodgjaaGreatDoorMF
import Derived.Test.YtpifchdngodgjaaGreatDoorMA
import Derived.Test.YtpifchdngodgjaaGreatDoorMD
set_option linter.unusedVariables false
set_option linter.unusedSimpArgs false
namespace Go.Am.Srt
variable {A:Type} {lt:A→A→Bool}
def mg (lt:A→A→Bool):Nat→List A→List A→List A
 |0,a,b=>a++b
 |_+1,[],b=>b
 |_+1,x::a,[]=>x::a
 |n+1,x::a,y::b=>bif lt y x then y::mg lt n (x::a) b else x::mg lt n a (y::b)
theorem isort_min (h:SWO lt) {x:A} {s:List A} (hx:∀z∈s,lt z x=false):isort lt (x::s)=x::isort lt s:=
 isort_split h (X:=[x]) (Y:=s) fun a ha b hb=>by rw[List.mem_singleton.1 ha];exact hx b hb
theorem isort_front (h:SWO lt) {y:A} {L R:List A} (hy:∀z∈L,lt y z=true):isort lt (L++y::R)=isort lt (y::(L++R)):=by
 have:=isort_rot h L [y] [] R fun u hu v hv=>by rw[List.mem_singleton.1 hv];exact hy u hu
 simpa using this
theorem mg_isort (h:SWO lt):∀(n:Nat) (X Y:List A),X.length+Y.length≤n→Asc lt X→Asc lt Y→mg lt n X Y=isort lt (X++Y)
 |0,X,Y,hn,_,_=>by
  have e1:X=[]:=List.length_eq_zero_iff.1 (by omega)
  have e2:Y=[]:=List.length_eq_zero_iff.1 (by omega)
  subst e1 e2
  rfl
 |n+1,[],Y,_,_,hY=>(isort_asc hY).symm
 |n+1,x::a,[],_,hX,_=>by rw[List.append_nil,isort_asc hX];rfl
 |n+    1,x::a,y::b,hn,hX,hY=>by
  simp only[List.length_cons] at hn
  rw[mg]
  cases e:lt y x with
  |true=>
   have hlt:∀z∈x::a,lt y z=true:=fun z hz=>by
        rcases List.mem_cons.1 hz with rfl|hz
        ·exact e
        ·cases e2:lt y z with
         |true=>rfl
         |false=>
          have:=h.ntr _ _ _ e2 (hX.1 z hz)
          rw[e] at this;cases this
   rw[cond_true,isort_front h hlt,isort_min h (fun z hz=>?_),mg_isort h n (x::a) b (by simp only[List.length_cons];omega) hX hY.2]
   rcases List.mem_append.1 hz with hz|hz
   ·exact h.asy (hlt z hz)
   ·exact hY.1 z hz
  |false=>
   rw[cond_false,List.cons_append,isort_min h (fun z hz=>?_),mg_isort h n a (y::b) (by simp only[List.length_cons];omega) hX.2 hY]
   rcases List.mem_append.1 hz with hz|hz
   ·exact hX.1 z hz
   ·    rcases List.mem_cons.1 hz with rfl|hz
        ·exact e
        ·exact h.ntr _ _ _ (hY.1 z hz) e
end Go.Am.Srt
namespace Go.Am.Srt
variable {A:Type} {lt:A→A→Bool}
def pairUp (lt:A→A→Bool):List (List A)→List (List A)
 | []=>[]
 | [x]=>[x]
 |x::y::r=>isort lt (x++y)::pairUp lt r
theorem pairUp_len:∀l:List (List A),(pairUp lt l).length=(l.length+1)/2
 | []=>by simp[pairUp]
 | [x]=>by simp[pairUp]
 |x::y::r=>by
  rw[pairUp,List.length_cons,pairUp_len r,List.length_cons,List.length_cons]
  omega
theorem pairUp_inv (h:SWO lt):∀l:List (List A),(∀r∈l,Asc lt r)→(∀r∈pairUp lt l,Asc lt r)∧isort lt (pairUp lt l).flatten=isort lt l.flatten
 | [],_=>⟨fun r hr=>absurd hr List.not_mem_nil,rfl⟩
 | [x],hl=>by rw[pairUp];exact⟨hl,rfl⟩
 |x::y::r,hl=>by
  obtain⟨h1,h2⟩:=pairUp_inv h r fun s hs=>hl s (by simp[hs])
  refine⟨fun s hs=>?_,?_⟩
  ·rcases List.mem_cons.1 hs with rfl|hs
   ·exact asc_isort h _
   ·exact h1 s hs
  ·rw[pairUp,List.flatten_cons,List.flatten_cons,List.flatten_cons,←List.append_assoc]
   refine isort_ctx2 h ?_ h2
   have:=isort_isort h (x++y) []
   simpa using this
theorem one_run (h:SWO lt) {r:List A} (hr:Asc lt r) {D:List A} (e:isort lt [r].flatten=isort lt D):r=isort lt D:=by
 rw[←e]
 have:[r].flatten=r:=by simp
 rw[this,isort_asc hr]
theorem flat_isort (h:SWO lt):∀l:List (List A),isort lt (l.map (isort lt)).flatten=isort lt l.flatten
 | []=>rfl
 |x::r=>by
  rw[List.map_cons,List.flatten_cons,List.flatten_cons]
  refine isort_ctx2 h ?_ (flat_isort h r)
  have:=isort_isort h x []
  simpa using this
end Go.Am.Srt
namespace Go.Proofs.YtpifchdngodgjaaGreatDoor
open Go.Am
def DL:Nat→Dt→Prop
 |0,_=>False
 |n+1,d=>∀e∈prts d,DL n e
theorem bulkL_app:∀a b:List Dt,Dt.bulkL (a++b)=Dt.bulkL a+Dt.bulkL b
 | [],b=>by simp[Dt.bulkL]
 |x::a,b=>by simp only[List.cons_append,Dt.bulkL,bulkL_app a b];omega
theorem cutL_nat {l:List Dt} {i j:Nat} (h1:i≤j) (h2:j≤l.length):cutL l (i:Int) (j:Int)=some ((l.drop i).take (j-i)):=by
 unfold cutL
 rw[if_pos ⟨by omega,by omega,by omega⟩]
 simp
theorem cutL_tail (x:Dt) (q:List Dt):cutL (x::q) 1 (((x::q).length:Nat):Int)=some q:=by
 have:=cutL_nat (l:=x::q) (i:=1) (j:=(x::q).length) (by simp) (Nat.le_refl _)
 rw[show ((1:Nat):Int)=1 from rfl] at this
 rw[this]
 simp
theorem idx_head (x:Dt) (q:List Dt):idx (x::q) 0=some x:=by
 have:=idx_lt (l:=x::q) (i:=0) (by simp)
 exact this
theorem rget_b (m:Nat) (s:ByteArray) (v:Dt) (hw:WV v) (h5:Dt.I v 0=5) (hm:v.bulk≤m) (hm2:m<9223372036854775807):yD (m+2) v s=some (gtV v s,(fi s (Dt.L v 4)).isSome):=by
 have hn:=L_len v 4
 rw[yD,at_eq m s v h5 (by omega) hm2,Option.bind_some,gtV]
 cases h:fi s (Dt.L v 4) with
 |none=>rw[oIn,dn2,cond_true];rfl
 |some k=>
  have hk:=fi_lt h
  obtain⟨e1,e2,e3⟩:=ch_F hw hk
  rw[oI0,dp2,cond_false,yD_j0,idx_lt hk,Option.bind_some,←e1];rfl
theorem pass_loop {Q:Dt→Prop} (m m':Nat) (self:Dt→List Dt→List Dt→Option (List Dt)) (self':Dt→List Dt→Option (List Dt)) (p:List Dt) (d:Dt) (c:Nat) (hl:(Dt.L d 3).length<9223372036854775807)
  (hs:∀e∈Dt.L d 3,∃r,(∀x∈r,Q x)∧Dt.bulkL r≤c*e.bulk∧self' e p=some r∧∀l,l.length+c*e.bulk≤137438953472→self e p l=some (l++r)):∀(M M' i:Nat),i≤(Dt.L d 3).length→(Dt.L d 3).length-i<M→(Dt.L d 3).length-i<M'→
  ∃R,(∀x∈R,Q x)∧Dt.bulkL R≤c*Dt.bulkL ((Dt.L d 3).drop i)∧
   (∀l:List Dt,l.length+c*Dt.bulkL ((Dt.L d 3).drop i)≤137438953472→i72_l3 m self M p (Dt.L d 3) ((Dt.L d 3).length:Int) (i:Int) l d=i72_j6 m self p (l++R) d)∧
   (∀l:List Dt,l.length+c*Dt.bulkL ((Dt.L d 3).drop i)≤137438953472→qO_l5 m' self' M' p (i:Int) d l=qO_j8 m' self' p d (l++R))
 |0,_,i,_,h,_=>by omega
 |_,0,i,_,_,h=>by omega
 |M+    1,M'+1,i,hi,h,h'=>by
  by_cases hlt:i<(Dt.L d 3).length
  ·obtain⟨R,hR1,hR2,hR3,hR4⟩:=pass_loop m m' self self' p d c hl hs M M' (i+1) (by omega) (by omega) (by omega)
   obtain⟨r,hr1,hr2,hr3,hr4⟩:=hs _ (List.getElem_mem hlt)
   have hdrop:c*Dt.bulkL ((Dt.L d 3).drop i)=c*(Dt.L d 3)[i].bulk+c*Dt.bulkL ((Dt.L d 3).drop (i+1)):=by
        rw[List.drop_eq_getElem_cons hlt]
        simp only[Dt.bulkL]
        exact Nat.mul_add _ _ _
   have hlr:=len_bulk r
   cases hk:(Dt.I (Dt.L d 3)[i] 0==5)
   ·    refine⟨R,hR1,by omega,fun l hle=>?_,fun l hle=>?_⟩
        ·simp only[i72_l3,dlt,hlt,decide_true,cond_true,i72_j4,i72_j5,idx_lt hlt,Option.bind_some,hk,cond_false,wrapS (show i<9223372036854775807 by omega)]
         exact hR3 l (by omega)
        ·simp only[qO_l5,dlt,hlt,decide_true,cond_true,qO_j6,qO_j7,idx_lt hlt,Option.bind_some,hk,cond_false,wrapS (show i<9223372036854775807 by omega)]
         exact hR4 l (by omega)
   ·    refine⟨r++R,fun x hx=>?_,by rw[bulkL_app];omega,fun l hle=>?_,fun l hle=>?_⟩
        ·rcases List.mem_append.1 hx with hx|hx
         ·exact hr1 x hx
         ·exact hR1 x hx
        ·simp only[i72_l3,dlt,hlt,decide_true,cond_true,i72_j4,i72_j5,idx_lt hlt,Option.bind_some,hk,hr4 l (by omega),wrapS (show i<9223372036854775807 by omega)]
         rw[hR3 (l++r) (by rw[List.length_append];omega),List.append_assoc]
        ·simp only[qO_l5,dlt,hlt,decide_true,cond_true,qO_j6,qO_j7,idx_lt hlt,Option.bind_some,hk,hr3,app_le (show l.length+r.length≤137438953472 by omega),wrapS (show i<9223372036854775807 by omega)]
         rw[hR4 (l++r) (by rw[List.length_append];omega),List.append_assoc]
  ·refine⟨[],by simp,by simp[Dt.bulkL],fun l _=>?_,fun l _=>?_⟩
   ·simp only[i72_l3,dlt,hlt,decide_false,cond_false,List.append_nil]
   ·simp only[qO_l5,dlt,hlt,decide_false,cond_false,List.append_nil]
theorem rpass_eq:∀(N:Nat) (d:Dt),d.bulk≤N→N≤137438953472→WV d→∀n,DL n d→2^n*d.bulk≤137438953472→∀(p:List Dt) (m m':Nat),N+10≤m→N+10≤m'→m<9223372036854775807→m'<9223372036854775807→
  ∃r,(∀x∈r,WV x)∧Dt.bulkL r≤2^n*d.bulk∧qO (m'+1) d p=some r∧∀l,l.length+2^n*d.bulk≤137438953472→i72 (m+1) d p l=some (l++r)
 |0,d,h,_,_,_,_,_,_,_,_,_,_,_,_=>by have:=bulk_pos d;omega
 |N+1,d,h,hN,hw,0,hD,_,_,_,_,_,_,_,_=>hD.elim
 |N+1,d,h,hN,hw,n+1,hD,hlim,[],m,m',hm,hm',_,_=>by
  have hp:1≤2^(n+1):=Nat.one_le_two_pow
  have hb:=bulk_pos d
  have h1:d.bulk≤2^(n+1)*d.bulk:=Nat.le_mul_of_pos_left _ hp
  refine⟨[d],fun x hx=>by rw[List.mem_singleton.1 hx];exact hw,by simpa [Dt.bulkL] using h1,rfl,fun l hl=>?_⟩
  show Option.bind (app l [d]) _=_
  rw[app_le (by simp;omega)]
  rfl
 |N+    1,d,h,hN,hw,n+1,hD,hlim,x::q,m,m',hm,hm',hm2,hm2'=>by
  have hw0:=hw
  obtain⟨m,rfl⟩:∃k,m=k+2:=⟨m-2,by omega⟩
  obtain⟨m',rfl⟩:∃k,m'=k+2:=⟨m'-2,by omega⟩
  have hpw:2^(n+1)*d.bulk=2^n*d.bulk+2^n*d.bulk:=by rw[Nat.pow_succ,Nat.mul_assoc,Nat.two_mul,Nat.mul_add]
  have hsub:∀e∈prts d,2^n*e.bulk≤2^n*d.bulk:=fun e he=>Nat.mul_le_mul_left _ (Nat.le_of_lt (prts_wv hw0 e he).2)
  have ih:∀e∈prts d,∀p',∃r,(∀x∈r,WV x)∧Dt.bulkL r≤2^n*e.bulk∧qO (m'+2) e p'=some r∧∀l,l.length+2^n*e.bulk≤137438953472→i72 (m+2) e p' l=some (l++r):=fun e he p'=>by
   have h1:=hsub e he
   exact rpass_eq N e (by have:=(prts_wv hw0 e he).2;omega) (by omega) (prts_wv hw0 e he).1 n (hD e he) (by omega) p' (m+1) (m'+1) (by omega) (by omega) (by omega) (by omega)
  have hne:((((x::q).length:Nat):Int)==0)=false:=by rw[beq_eq_false_iff_ne];simp;omega
  have hl3:=L_len d 3
  have hl4:=L_len d 4
  have hb3:Dt.bulkL (Dt.L d 3)≤d.bulk:=by
   cases hw with
   | @mk k i t l ds hl hd=>rw[bulk_val];show Dt.bulkL l≤_;omega
  have E1:qO (m'+2+1) d (x::q)=qO_j0 (m'+2) (qO (m'+2)) (x::q) d:=by
   show (bif ((((x::q).length:Nat):Int)==0) then _ else _)=_
   rw[hne]
   rfl
  have E2:∀l,i72 (m+2+1) d (x::q) l=i72_j0 (m+2) (i72 (m+2)) (x::q) l d:=fun l=>by
   show (bif ((((x::q).length:Nat):Int)==0) then _ else _)=_
   rw[hne]
   rfl
  have hpn:=path_num (m+1) (by omega) (Dt.toStr x)
  have hrn:=ref_num (m'+1) (by omega) (Dt.toStr x)
  simp only[E1,E2,i72_j0,qO_j0]
  by_cases h5:Dt.I d 0=5
  ·have hpl:prts d=(Dt.L d 4).map (·.fld 1):=by unfold prts;rw[h5];rfl
   have hf:=zR_fi (m+1) (Dt.toStr x) (Dt.L d 4) (by omega) (by omega)
   have hg:=rget_b m' (Dt.toStr x) d hw0 h5 (by omega) (by omega)
   simp only[h5,show ((5:Int)==5)=true from rfl,cond_true,idx_head,Option.bind_some,hf,hg]
   cases hfi:fi (Dt.toStr x) (Dt.L d 4) with
   |    none=>
        refine⟨[],by simp,by simp[Dt.bulkL],rfl,fun l _=>?_⟩
        simp[oIn,i72_j1]
   |    some j=>
        have hj:=fi_lt hfi
        obtain⟨e1,_,_⟩:=ch_F hw0 hj
        have hm4:chF d j∈prts d:=by rw[hpl,e1];exact List.mem_map_of_mem (List.getElem_mem hj)
        obtain⟨r,hr1,hr2,hr3,hr4⟩:=ih _ hm4 q
        have hs1:=hsub _ hm4
        have hgt:gtV d (Dt.toStr x)=chF d j:=by unfold gtV;rw[hfi]
        refine⟨r,hr1,by omega,?_,fun l hle=>?_⟩
        ·simp only[Option.isSome_some,cond_true,cutL_tail,Option.bind_some,hgt,hr3]
        ·simp only[oI0,dp1,cond_true,idx_lt hj,Option.bind_some,cutL_tail,←e1,hr4 l (by omega),i72_j1]
  ·have e5  :(Dt.I d 0==5)=false:=by rw[beq_eq_false_iff_ne];exact h5
   by_cases h6:Dt.I d 0=6
   ·    have hpl:prts d=Dt.L d 3:=by unfold prts;rw[h6];rfl
        obtain⟨R,hR1,hR2,hR3,hR4⟩:=pass_loop (Q:=WV) (m+2) (m'+2) (i72 (m+2)) (qO (m'+2)) (x::q) d (2^n) (by omega) (fun e he=>ih e (by rw[hpl];exact he) (x::q)) (m+3) (m'+3) 0 (Nat.zero_le _) (by omega) (by omega)
        rw[List.drop_zero] at hR2 hR3 hR4
        have hcb:2^n*Dt.bulkL (Dt.L d 3)≤2^n*d.bulk:=Nat.mul_le_mul_left _ hb3
        have hlR:=len_bulk R
        have h3':∀l:List Dt,l.length+2^n*Dt.bulkL (Dt.L d 3)≤137438953472→i72_l3 (m+2) (i72 (m+2)) (Nat.succ (m+2)) (x::q) (Dt.L d 3) ((Dt.L d 3).length:Int) 0 l d=i72_j6 (m+2) (i72 (m+2)) (x::q) (l++R) d:=hR3
        have h4':qO_l5 (m'+2) (qO (m'+2)) (Nat.succ (m'+2)) (x::q) 0 d []=qO_j8 (m'+2) (qO (m'+2)) (x::q) d ([]++R):=hR4 [] (by simp;omega)
        simp only[e5,h6,show ((6:Int)==5)=false from rfl,show ((6:Int)==6)=true from rfl,show ((6:Int) !=6)=false from rfl,cond_true,cond_false,qO_j2,qO_j3,qO_j4,i72_j2,h4',List.nil_append,qO_j8,idx_head,Option.bind_some,hrn]
        cases hnu:nu (Dt.toStr x) with
        |none=>
         refine⟨R,hR1,by omega,by simp only[oPn,cond_false,qO_j9,qO_j10],fun l hle=>?_⟩
         rw[h3' l (by omega)]
         simp only[i72_j6,idx_head,Option.bind_some,hpn,hnu,oPn,cond_false,i72_j7,i72_j1]
        |some j=>
         by_cases h8:j<(Dt.L d 3).length
         ·have hm3:(Dt.L d 3)[j]∈prts d:=by rw[hpl];exact List.getElem_mem h8
          obtain⟨r,hr1,hr2,hr3,hr4⟩:=ih _ hm3 q
          have hs1:=hsub _ hm3
          have hlr:=len_bulk r
          have h8':(((j:Nat):Int)<((Dt.L d 3).length:Int))=True:=eq_true (by omega)
          refine⟨R++r,fun y hy=>?_,by rw[bulkL_app];omega,?_,fun l hle=>?_⟩
          · rcases List.mem_append.1 hy with hy|hy
            ·exact hR1 y hy
            ·exact hr1 y hy
          ·simp only[oP1,cond_true,h8',decide_true,decide_false,qO_j9,qO_j10,idx_lt h8,Option.bind_some,cutL_tail,hr3,app_le (show R.length+r.length≤137438953472 by omega)]
          · rw[h3' l (by omega)]
            simp only[i72_j6,idx_head,Option.bind_some,hpn,hnu,oP1,cond_true,h8',decide_true,decide_false,i72_j7,idx_lt h8,cutL_tail,hr4 (l++R) (by rw[List.length_append];omega),i72_j1,List.append_assoc]
         ·have h8':(((j:Nat):Int)<((Dt.L d 3).length:Int))=False:=eq_false (by omega)
          refine⟨R,hR1,by omega,by simp only[oP1,cond_true,h8',decide_true,decide_false,qO_j9,qO_j10,cond_false],fun l hle=>?_⟩
          rw[h3' l (by omega)]
          simp only[i72_j6,idx_head,Option.bind_some,hpn,hnu,oP1,cond_true,h8',decide_true,decide_false,i72_j7,cond_false,i72_j1]
   ·    have e6:(Dt.I d 0==6)=false:=by rw[beq_eq_false_iff_ne];exact h6
        have n6:(Dt.I d 0 !=6)=true:=by rw[bne,e6];rfl
        refine⟨[],by simp,by simp[Dt.bulkL],by simp only[e5,cond_false,qO_j2,n6,cond_true],fun l _=>?_⟩
        simp only[e5,e6,cond_false,i72_j1,List.append_nil]
end Go.Proofs.YtpifchdngodgjaaGreatDoor
namespace Go.Proofs.YtpifchdngodgjaaGreatDoor
open Go.Am
theorem reach_loop (m:Nat) (L:List Dt) (hl:L.length<9223372036854775807) (hc:∀e∈L,IsVal e∧qN m e=some (prt5 e)):∀(M i:Nat),i≤L.length→L.length-i<M→zP_l2 m M (L.length:Int) (i:Int) L=some L
 |0,i,_,h=>by omega
 |M+1,i,hi,h=>by
  simp only[zP_l2,dlt]
  by_cases hlt:i<L.length
  ·obtain⟨e1,e2⟩:=hc _ (List.getElem_mem hlt)
   simp only[hlt,decide_true,cond_true,zP_j3,zP_j4,inL_lt hlt,Int.toNat_natCast,List.getElem?_eq_getElem hlt,Option.bind_some,e2,prt5_back e1,List.set_getElem_self,wrapS (show i<9223372036854775807 by omega)]
   exact reach_loop m L hl hc M (i+1) (by omega) (by omega)
  ·simp[hlt,zP_j5]
theorem kz_wv:WV kza2373:= .mk (by simp) (by simp)
theorem reach_eq (d:Dt) (hw:WV d) (n:Nat) (hD:DL n d) (hb:2^n*d.bulk≤68719476736) (p:List Dt) (m m':Nat) (hm:68719476800≤m) (hm2:m<9223372036854775000) (hm':68719476800≤m') (hm2':m'<9223372036854775000):
  ∃r,(∀x∈r,WV x)∧r≠[]∧Dt.bulkL r≤68719476736∧zP (m+1) d p=some r∧zX (m'+1) d p=some r:=by
 have hp:1≤2^n:=Nat.one_le_two_pow
 have h1:d.bulk≤2^n*d.bulk:=Nat.le_mul_of_pos_left _ hp
 obtain⟨m,rfl⟩:∃k,m=k+2:=⟨m-2,by omega⟩
 obtain⟨m',rfl⟩:∃k,m'=k+2:=⟨m'-2,by omega⟩
 obtain⟨r,r1,r2,r3,r4⟩:=rpass_eq d.bulk d (Nat.le_refl _) (by omega) hw n hD (by omega) p (m+1) (m'+1) (by omega) (by omega) (by omega) (by omega)
 have r4:=r4 [] (by simp;omega)
 rw[List.nil_append] at r4
 rw[zP,zX,r3,r4,Option.bind_some,Option.bind_some]
 cases r with
 |nil=>exact⟨[kza2373],fun x hx=>by rw[List.mem_singleton.1 hx];exact kz_wv,by simp,by decide,rfl,rfl⟩
 |cons x q=>
  have hne:((((x::q).length:Nat):Int)==0)=false:=by rw[beq_eq_false_iff_ne];simp;omega
  have hlr:=len_bulk (x::q)
  refine⟨x::q,r1,by simp,by omega,?_,?_⟩
  ·rw[hne,cond_false]
   exact reach_loop (m+2) (x::q) (by omega) (fun e he=>⟨(r1 e he).isVal,qN_cp _ e (Nat.le_refl _) (by have:=bulk_mem he;omega) (r1 e he) (m+1) (by have:=bulk_mem he;omega)⟩) (m+3) 0 (Nat.zero_le _) (by omega)
  ·rw[hne,cond_false,zX_j0]
end Go.Proofs.YtpifchdngodgjaaGreatDoor
namespace Go.Proofs.YtpifchdngodgjaaGreatDoor
open Go.Am
structure DocOK (d:Dt):Prop where
 wv:WV d
 bulk:d.bulk≤1048576
 dl:DL 16 d
def zeroVal:Dt:= .agg [.int 0,.int 0,.str (ByteArray.mk (List.toArray [])),.lst [],.lst []]
noncomputable def rchR (d:Dt) (p:List Dt):List Dt:=(zX 300000000001 d p).getD []
theorem rchR_eq {d:Dt} (h:DocOK d) (p:List Dt):(∀x∈rchR d p,WV x)∧rchR d p≠[]∧Dt.bulkL (rchR d p)≤68719476736∧(∀m,300000000000≤m∧m<9000000000000000000→zP (m+1) d p=some (rchR d p))∧(∀m,300000000000≤m∧m<9000000000000000000→zX (m+1) d p=some (rchR d p)):=by
 have hp:2^16*d.bulk≤68719476736:=by
  have h1:=h.bulk
  have:2^16*d.bulk≤2^16*1048576:=Nat.mul_le_mul_left _ h1
  omega
 obtain⟨r,h1,h2,h3,h4,h5⟩:=reach_eq d h.wv 16 h.dl hp p 300000000000 300000000000 (by omega) (by omega) (by omega) (by omega)
 have e:rchR d p=r:=by
  have h5':zX 300000000001 d p=some r:=h5
  unfold rchR
  rw[h5']
  rfl
 rw[e]
 refine⟨h1,h2,h3,fun m hm=>?_,fun m hm=>?_⟩
 ·obtain⟨r',_,_,_,g4,g5⟩:=reach_eq d h.wv 16 h.dl hp p m 300000000000 (by omega) (by omega) (by omega) (by omega)
  rw[h5] at g5
  cases g5
  exact g4
 ·obtain⟨r',_,_,_,g4,g5⟩:=reach_eq d h.wv 16 h.dl hp p 300000000000 m (by omega) (by omega) (by omega) (by omega)
  rw[h4] at g4
  cases g4
  exact g5
def nullV:Dt:= .agg [.int 2,.int 0,.str (ByteArray.mk (List.toArray [])),.lst [],.lst []]
def vals1 (v:Dt):List Dt:=bif Dt.I v 0==0 then[nullV] else bif (Dt.I v 0==6&&decide (0<(Dt.L v 3).length)) then Dt.L v 3 else[v]
def vals (r:List Dt):List Dt:=r.flatMap vals1
def better (desc:Bool) (c:Int):Bool:=(decide (c<0)&&!desc)||(decide (0<c)&&desc)
def bestS (desc:Bool):Dt→List Dt→Dt
 |b,[]=>b
 |b,v::r=>bif better desc (cmpD v b) then bestS desc v r else bestS desc b r
def keyS (desc:Bool):List Dt→Dt
 | []=>zeroVal
 |v::r=>bestS desc v r
theorem vals1_ne (v:Dt):vals1 v≠[]:=by
 unfold vals1
 cases Dt.I v 0==0
 ·cases h:(Dt.I v 0==6&&decide (0<(Dt.L v 3).length))
  ·simp
  ·simp only[Bool.and_eq_true,decide_eq_true_eq] at h
   simp only[cond_false,cond_true]
   intro e
   rw[e] at h
   simp at h
 ·simp
theorem null_wv:WV nullV:= .mk (by simp) (by simp)
theorem vals1_wv {v:Dt} (h:WV v):(∀x∈vals1 v,WV x∧x.bulk≤v.bulk)∧(vals1 v).length≤v.bulk:=by
 have hb:6≤v.bulk:=by
  cases h with
  | @mk k i t l ds hl hd=>rw[bulk_val];omega
 unfold vals1
 cases Dt.I v 0==0
 ·cases (Dt.I v 0==6&&decide (0<(Dt.L v 3).length))
  ·exact⟨fun x hx=>by simp at hx;subst hx;exact⟨h,Nat.le_refl _⟩,by simp;omega⟩
  ·refine⟨fun x hx=>?_,?_⟩
   ·    have:=L_mem (d:=v) (i:=3) hx
        cases h with
        | @mk k i t l ds hl hd=>exact⟨hl x hx,by omega⟩
   ·    have:=L_len v 3
        simp only[cond_false,cond_true];omega
 ·refine⟨fun x hx=>?_,by simp;omega⟩
  simp at hx
  subst hx
  exact⟨null_wv,by show 6≤v.bulk;exact hb⟩
theorem vals_cons (v:Dt) (r:List Dt):vals (v::r)=vals1 v++vals r:=by simp[vals]
theorem vals_wv {r:List Dt} (h:∀x∈r,WV x):(∀x∈vals r,WV x∧x.bulk≤Dt.bulkL r)∧(vals r).length≤Dt.bulkL r:=by
 induction r with
 |nil=>exact⟨by simp[vals],by simp[vals]⟩
 |cons v r ih=>
  obtain⟨i1,i2⟩:=ih fun x hx=>h x (by simp[hx])
  obtain⟨g1,g2⟩:=vals1_wv (h v (by simp))
  have e:vals (v::r)=vals1 v++vals r:=by simp[vals]
  rw[e]
  simp only[Dt.bulkL]
  refine⟨fun x hx=>?_,by rw[List.length_append];omega⟩
  rcases List.mem_append.1 hx with hx|hx
  ·exact⟨(g1 x hx).1,by have:=(g1 x hx).2;omega⟩
  ·exact⟨(i1 x hx).1,by have:=(i1 x hx).2;omega⟩
theorem vals_ne {r:List Dt} (h:r≠[]):vals r≠[]:=by
 cases r with
 |nil=>exact absurd rfl h
 |cons v r=>
  intro e
  have:vals1 v++vals r=[]:=by simpa [vals] using e
  exact vals1_ne v (List.append_eq_nil_iff.1 this).1
theorem okey_l1 (m:Nat) (r:List Dt) (o z:Dt) (hl:Dt.bulkL r≤68719476736):∀(M i:Nat) (out:List Dt),i≤r.length→r.length-i<M→out.length+Dt.bulkL (r.drop i)≤68719476736→(∀x∈r,WV x)→
  qW_l1 m M r (r.length:Int) (i:Int) o z out=qW_j5 m o z (out++vals (r.drop i))
 |0,i,_,_,h,_,_=>by omega
 |M+    1,i,out,hi,h,hb,hw=>by
  have hlr:=len_bulk r
  simp only[qW_l1,dlt]
  by_cases hlt:i<r.length
  ·obtain⟨_,g2⟩:=vals1_wv (hw _ (List.getElem_mem hlt))
   have hbp:=bulk_pos r[i]
   have hd:r.drop i=r[i]::r.drop (i+1):=List.drop_eq_getElem_cons hlt
   rw[hd] at hb
   simp only[Dt.bulkL] at hb
   have ih:=okey_l1 m r o z hl M (i+1) (out++vals1 r[i]) (by omega) (by omega) (by rw[List.length_append];omega) hw
   have e:out++vals (r.drop i)=out++vals1 r[i]++vals (r.drop (i+1)):=by rw[hd,vals_cons,List.append_assoc]
   rw[e,←ih]
   have ha:∀L:List Dt,L.length≤r[i].bulk→app out L=some (out++L):=fun L hL=>app_le (by omega)
   simp only[hlt,decide_true,cond_true,qW_j2,qW_j3,qW_j4,idx_lt hlt,Option.bind_some,wrapS (show i<9223372036854775807 by omega)]
   unfold vals1 at g2 ⊢
   cases h0:(Dt.I r[i] 0==0)
   ·    cases h6:(Dt.I r[i] 0==6)
        ·simp only[cond_false,Bool.false_and]
         rw[ha [r[i]] (by simp;omega)];rfl
        ·have e3:decide ((0:Int)<(((Dt.L r[i] 3).length:Nat):Int))=decide (0<(Dt.L r[i] 3).length):=dlt (i:=0)
         rw[h0,h6] at g2
         simp only[cond_false,cond_true,Bool.true_and,e3] at g2 ⊢
         cases h3:decide (0<(Dt.L r[i] 3).length)
         ·simp only[cond_false]
          rw[ha [r[i]] (by simp;omega)];rfl
         ·rw[h3] at g2
          simp only[cond_true] at g2 ⊢
          rw[ha _ g2];rfl
   ·    simp only[cond_true]
        show Option.bind (app out [nullV]) _=_
        rw[ha [nullV] (by simp;omega)];rfl
  ·have:i=r.length:=by omega
   subst this
   simp[vals]
theorem okey_l6 (m:Nat) (V:List Dt) (o z:Dt) (hl:V.length<1000000000000) (hm:80000000000≤m) (hV:∀x∈V,x.bulk≤68719476736):∀(M i:Nat) (b:Dt),i≤V.length→V.length-i<M→
  qW_l7 m M V (V.length:Int) (i:Int) o z b=some (bestS (Dt.B o 1) b (V.drop i))
 |0,i,_,_,h=>by omega
 |M+1,i,b,hi,h=>by
  obtain⟨m,rfl⟩:∃k,m=k+3:=⟨m-3,by omega⟩
  simp only[qW_l7,dlt]
  by_cases hlt:i<V.length
  ·have hb:=hV _ (List.getElem_mem hlt)
   rw[List.drop_eq_getElem_cons hlt]
   simp only[hlt,decide_true,cond_true,qW_j8,qW_j9,qW_j10,idx_lt hlt,Option.bind_some,vcmp_D V[i] b m (by omega) (by omega),wrapS (show i<9223372036854775807 by omega),okey_l6 (m+3) V o z hl hm hV M (i+1) _ (by omega) (by omega),bestS,better]
   cases decide (cmpD V[i] b<0)<;>cases decide (0<cmpD V[i] b)<;>cases Dt.B o 1<;>rfl
  ·have:i=V.length:=by omega
   subst this
   simp[qW_j11,bestS]
theorem inL_hd (x:Dt) (V:List Dt):inL (x::V) 0=some ():=by
 unfold inL
 rw[if_pos ⟨by omega,by rw[List.length_cons];omega⟩]
theorem okey_eq {d:Dt} (h:DocOK d) (o:Dt) (m:Nat) (hm:300000000000≤m∧m<9000000000000000000):qW (m+2) o d=some (keyS (Dt.B o 1) (vals (rchR d (Dt.L o 0)))):=by
 obtain⟨h1,h2,h3,h4,_⟩:=rchR_eq h (Dt.L o 0)
 obtain⟨v1,v2⟩:=vals_wv h1
 simp only[qW,h4 m hm,Option.bind_some,qW_j0]
 have e1:=okey_l1 (m+1) (rchR d (Dt.L o 0)) o zeroVal h3 (m+2) 0 [] (Nat.zero_le _) (by have:=len_bulk (rchR d (Dt.L o 0));omega) (by simp;omega) h1
 rw[List.drop_zero,List.nil_append] at e1
 refine Eq.trans e1 ?_
 cases hv:vals (rchR d (Dt.L o 0)) with
 |nil=>exact absurd hv (vals_ne h2)
 |cons x V=>
  rw[hv] at v1 v2
  have ex:inL (x::V) 0=some ():=inL_hd x V
  have ec:cutL (x::V) 1 (((x::V).length:Nat):Int)=some V:=cutL_tail x V
  have e6:=okey_l6 (m+1) V o zeroVal (by simp only[List.length_cons] at v2;omega) (by omega) (fun y hy=>by have:=(v1 y (by simp[hy])).2;omega) (m+2) 0 x (Nat.zero_le _) (by simp only[List.length_cons] at v2;omega)
  rw[List.drop_zero] at e6
  have e6':qW_l7 (m+1) (Nat.succ (m+1)) V ((V.length:Nat):Int) 0 o zeroVal x=_:=e6
  simp only[qW_j5,ex,ec,List.getElem?_cons_zero,Option.bind_some,qW_j6,keyS]
  exact e6'
theorem rvals_l1 (m:Nat) (r:List Dt) (hl:Dt.bulkL r≤68719476736):∀(M i:Nat) (out:List Dt),i≤r.length→r.length-i<M→out.length+Dt.bulkL (r.drop i)≤68719476736→(∀x∈r,WV x)→
  zB_l1 m M r (i:Int) out=some (out++vals (r.drop i))
 |0,i,_,_,h,_,_=>by omega
 |M+    1,i,out,hi,h,hb,hw=>by
  have hlr:=len_bulk r
  simp only[zB_l1,dlt]
  by_cases hlt:i<r.length
  ·obtain⟨_,g2⟩:=vals1_wv (hw _ (List.getElem_mem hlt))
   have hbp:=bulk_pos r[i]
   have hd:r.drop i=r[i]::r.drop (i+1):=List.drop_eq_getElem_cons hlt
   rw[hd] at hb
   simp only[Dt.bulkL] at hb
   have ih:=rvals_l1 m r hl M (i+1) (out++vals1 r[i]) (by omega) (by omega) (by rw[List.length_append];omega) hw
   have e:out++vals (r.drop i)=out++vals1 r[i]++vals (r.drop (i+1)):=by rw[hd,vals_cons,List.append_assoc]
   rw[e,←ih]
   have ha:∀L:List Dt,L.length≤r[i].bulk→app out L=some (out++L):=fun L hL=>app_le (by omega)
   simp only[hlt,decide_true,cond_true,zB_j3,zB_j4,zB_j2,zB_j5,zB_j0,idx_lt hlt,Option.bind_some,wrapS (show i<9223372036854775807 by omega)]
   unfold vals1 at g2 ⊢
   cases h0:(Dt.I r[i] 0==0)
   ·    cases h6:(Dt.I r[i] 0==6)
        ·simp only[cond_false,Bool.false_and]
         rw[ha [r[i]] (by simp;omega)];rfl
        ·have e3:decide ((0:Int)<(((Dt.L r[i] 3).length:Nat):Int))=decide (0<(Dt.L r[i] 3).length):=dlt (i:=0)
         rw[h0,h6] at g2
         simp only[cond_false,cond_true,Bool.true_and,e3] at g2 ⊢
         cases h3:decide (0<(Dt.L r[i] 3).length)
         ·simp only[cond_false]
          rw[ha [r[i]] (by simp;omega)];rfl
         ·rw[h3] at g2
          simp only[cond_true] at g2 ⊢
          rw[ha _ g2];rfl
   ·    simp only[cond_true]
        show Option.bind (app out [nullV]) _=_
        rw[ha [nullV] (by simp;omega)];rfl
  ·have:i=r.length:=by omega
   subst this
   simp[vals,zB_j3,zB_j4,zB_j2,zB_j5,zB_j0]
theorem rkey_l1 (m:Nat) (V:List Dt) (o z:Dt) (hl:V.length<1000000000000) (hm:80000000000≤m) (hm2:m<900000000000) (hV:∀x∈V,x.bulk≤68719476736):∀(M i:Nat) (b:Dt),i≤V.length→V.length-i<M→
  zK_l1 m M V (i:Int) o z b=some (bestS (Dt.B o 1) b (V.drop i))
 |0,i,_,_,h=>by omega
 |M+1,i,b,hi,h=>by
  obtain⟨m,rfl⟩:∃k,m=k+3:=⟨m-3,by omega⟩
  simp only[zK_l1,dlt]
  by_cases hlt:i<V.length
  ·have hb:=hV _ (List.getElem_mem hlt)
   rw[List.drop_eq_getElem_cons hlt]
   simp only[hlt,decide_true,cond_true,zK_j4,zK_j3,zK_j2,zK_j5,zK_j0,idx_lt hlt,Option.bind_some,rcmp_D V[i] b m (by omega) (by omega),wrapS (show i<9223372036854775807 by omega),rkey_l1 (m+3) V o z hl hm hm2 hV M (i+1) _ (by omega) (by omega),bestS,better]
   cases decide (cmpD V[i] b<0)<;>cases decide (0<cmpD V[i] b)<;>cases Dt.B o 1<;>rfl
  ·have:i=V.length:=by omega
   subst this
   simp[zK_j4,zK_j3,zK_j2,zK_j5,zK_j0,bestS]
theorem rkey_eq {d:Dt} (h:DocOK d) (o:Dt) (m:Nat) (hm:300000000000≤m∧m<9000000000000000000) (hm2:m<800000000000):zK (m+3) o d=some (keyS (Dt.B o 1) (vals (rchR d (Dt.L o 0)))):=by
 obtain⟨h1,h2,h3,_,h4⟩:=rchR_eq h (Dt.L o 0)
 obtain⟨v1,v2⟩:=vals_wv h1
 have e1:=rvals_l1 (m+1) (rchR d (Dt.L o 0)) h3 (m+2) 0 [] (Nat.zero_le _) (by have:=len_bulk (rchR d (Dt.L o 0));omega) (by simp;omega) h1
 rw[List.drop_zero,List.nil_append] at e1
 have e1':zB_l1 (m+1) (Nat.succ (m+1)) (rchR d (Dt.L o 0)) 0 []=_:=e1
 simp only[zK,zB,h4 m hm,Option.bind_some,zB_j3,zB_j4,zB_j2,zB_j5,zB_j0,e1']
 cases hv:vals (rchR d (Dt.L o 0)) with
 |nil=>exact absurd hv (vals_ne h2)
 |cons x V=>
  rw[hv] at v1 v2
  have e6:=rkey_l1 (m+2) (x::V) o zeroVal (by omega) (by omega) (by omega) (fun y hy=>by have:=(v1 y hy).2;omega) (m+3) 1 x (by simp) (by simp only[List.length_cons] at v2 ⊢;omega)
  have e6':zK_l1 (m+2) (Nat.succ (m+2)) (x::V) 1 o zeroVal x=_:=e6
  simp only[idx_head,Option.bind_some,zK_j4,zK_j3,zK_j2,zK_j5,zK_j0,keyS]
  exact e6'
theorem bestS_mem (desc:Bool):∀(b:Dt) (V:List Dt),bestS desc b V=b∨bestS desc b V∈V
 |b,[]=> .inl rfl
 |b,v::V=>by
  unfold bestS
  cases better desc (cmpD v b)
  ·rcases bestS_mem desc b V with h|h
   ·exact .inl h
   ·exact .inr (by simp only[cond_false];exact List.mem_cons_of_mem _ h)
  ·rcases bestS_mem desc v V with h|h
   ·exact .inr (by simp only[cond_true];rw[h];exact List.mem_cons_self)
   ·exact .inr (by simp only[cond_true];exact List.mem_cons_of_mem _ h)
noncomputable def keyD (o d:Dt):Dt:=keyS (Dt.B o 1) (vals (rchR d (Dt.L o 0)))
theorem keyD_wv {d:Dt} (h:DocOK d) (o:Dt):WV (keyD o d)∧(keyD o d).bulk≤68719476736:=by
 obtain⟨h1,h2,h3,_,_⟩:=rchR_eq h (Dt.L o 0)
 obtain⟨v1,v2⟩:=vals_wv h1
 unfold keyD
 cases hv:vals (rchR d (Dt.L o 0)) with
 |nil=>exact absurd hv (vals_ne h2)
 |cons x V=>
  rw[hv] at v1
  have:bestS (Dt.B o 1) x V∈x::V:=by
   rcases bestS_mem (Dt.B o 1) x V with e|e
   ·rw[e];exact List.mem_cons_self
   ·exact List.mem_cons_of_mem _ e
  exact⟨(v1 _ this).1,by have:=(v1 _ this).2;show (bestS (Dt.B o 1) x V).bulk≤_;omega⟩
noncomputable def keysD (l:List Dt) (d:Dt):List Dt:=l.map fun o=>keyD o d
theorem okeys_l1 (m:Nat) (hm:300000000000≤m∧m<9000000000000000000) (l:List Dt) (d:Dt) (h:DocOK d) (hl:l.length≤100):∀(M i:Nat),i≤l.length→l.length-i<M→zS_l1 (m+2) M l (l.length:Int) (i:Int) d ((l.take i).map fun o=>keyD o d)=some (keysD l d)
 |0,i,_,h=>by omega
 |M+    1,i,hi,h1=>by
  simp only[zS_l1,dlt]
  by_cases hlt:i<l.length
  ·simp only[hlt,decide_true,cond_true,zS_j2,zS_j3,idx_lt hlt,Option.bind_some,okey_eq h l[i] m hm,wrapS (show i<9223372036854775807 by omega)]
   rw[app_le (by simp;omega)]
   have e:(l.take i).map (fun o=>keyD o d)++[keyS (Dt.B l[i] 1) (vals (rchR d (Dt.L l[i] 0)))]=(l.take (i+1)).map fun o=>keyD o d:=by
        rw[List.take_succ_eq_append_getElem hlt,List.map_append];rfl
   rw[Option.bind_some,e]
   exact okeys_l1 m hm l d h hl M (i+1) (by omega) (by omega)
  ·have:i=l.length:=by omega
   subst this
   simp[zS_j4,keysD]
theorem okeys_eq (m:Nat) (hm:300000000000≤m∧m<9000000000000000000) (l:List Dt) (d:Dt) (h:DocOK d) (hl:l.length≤100):zS (m+3) l d=some (keysD l d):=
 okeys_l1 m hm l d h hl (m+3) 0 (Nat.zero_le _) (by omega)
def sgn (o:Dt) (c:Int):Int:=bif Dt.B o 1 then-c else c
def cmpKs:List Dt→List Dt→List Dt→Int
 | [],_,_=>0
 |o::l,a,b=>bif sgn o (cmpD (a.headD zeroVal) (b.headD zeroVal)) !=0 then sgn o (cmpD (a.headD zeroVal) (b.headD zeroVal)) else cmpKs l a.tail b.tail
theorem tpoK:∀l,TPO (cmpKs l)
 | []=>TPO.zero
 |o::l=>by
  have h1:TPO (fun a b:Dt=>sgn o (cmpD a b)):=by
   unfold sgn
   cases Dt.B o 1
   ·exact tpoD
   ·exact tpoD.neg
  exact(h1.key fun a:List Dt=>a.headD zeroVal).lex ((tpoK l).key fun a:List Dt=>a.tail)
noncomputable def cmpO (l:List Dt) (a b:Dt):Int:=cmpKs l (keysD l a) (keysD l b)
theorem tpoO (l:List Dt):TPO (cmpO l):=(tpoK l).key fun d=>keysD l d
theorem headD_drop {l:List Dt} {i:Nat} (h:i<l.length):(l.drop i).headD zeroVal=l[i]:=by rw[List.drop_eq_getElem_cons h];rfl
theorem neg_cmp (a b:Dt):IntKind.wrap IntKind.i64 (0-cmpD a b)= -cmpD a b:=by
 have:=tpoD.rng a b
 rw[wrap64 (by omega) (by omega)];omega
theorem neg_bne (x:Int):(- x !=0)=(x !=0):=by
 rw[Bool.eq_iff_iff];simp only[bne_iff_ne];omega
theorem ocmp_l1 (m:Nat) (hm:80000000000≤m) (l A B:List Dt) (hA:A.length=l.length) (hB:B.length=l.length) (hl:l.length≤100) (hb:∀x∈A,x.bulk≤68719476736):∀(M i:Nat),i≤l.length→l.length-i<M→
  zF_l1 m M A B l (l.length:Int) (i:Int)=some (cmpKs (l.drop i) (A.drop i) (B.drop i))
 |0,i,_,h=>by omega
 |M+    1,i,hi,h=>by
  obtain⟨m,rfl⟩:∃k,m=k+3:=⟨m-3,by omega⟩
  simp only[zF_l1,dlt]
  by_cases hlt:i<l.length
  ·have ha:i<A.length:=by omega
   have hb':i<B.length:=by omega
   have e:cmpKs (l.drop i) (A.drop i) (B.drop i)=bif sgn l[i] (cmpD A[i] B[i]) !=0 then sgn l[i] (cmpD A[i] B[i]) else cmpKs (l.drop (i+1)) (A.drop (i+1)) (B.drop (i+1)):=by
        rw[List.drop_eq_getElem_cons hlt]
        simp only[cmpKs,headD_drop ha,headD_drop hb',List.tail_drop]
   rw[e]
   simp only[hlt,decide_true,cond_true,zF_j2,zF_j3,zF_j4,idx_lt hlt,idx_lt ha,idx_lt hb',Option.bind_some,vcmp_D A[i] B[i] m (by have:=hb _ (List.getElem_mem ha);omega) (by have:=hb _ (List.getElem_mem ha);omega),neg_cmp,wrapS (show i<9223372036854775807 by omega),ocmp_l1 (m+3) hm l A B hA hB hl hb M (i+1) (by omega) (by omega),sgn]
   cases Dt.B l[i] 1
   ·    simp only[cond_false]
        by_cases e0:cmpD A[i] B[i]=0
        ·rw[bne_f e0,bne_f e0]
        ·rw[bne_t e0,bne_t e0]
   ·    simp only[cond_true]
        by_cases e0: -cmpD A[i] B[i]=0
        ·rw[bne_f e0,bne_f e0]
        ·rw[bne_t e0,bne_t e0]
  ·have:i=l.length:=by omega
   subst this
   simp[zF_j5,cmpKs]
theorem ocmp_eq (m:Nat) (hm:80000000000≤m) (l A B:List Dt) (hA:A.length=l.length) (hB:B.length=l.length) (hl:l.length≤100) (hb:∀x∈A,x.bulk≤68719476736):zF (m+1) l A B=some (cmpKs l A B):=by
 have:=ocmp_l1 m hm l A B hA hB hl hb (m+1) 0 (Nat.zero_le _) (by omega)
 rw[List.drop_zero,List.drop_zero,List.drop_zero] at this
 exact this
theorem oCompare_eq (m:Nat) (hm:300000000000≤m∧m<9000000000000000000) (l:List Dt) (a b:Dt) (ha:DocOK a) (hb:DocOK b) (hl:l.length≤100):yB (m+4) l a b=some (cmpO l a b):=by
 simp only[yB,okeys_eq m hm l a ha hl,okeys_eq m hm l b hb hl,Option.bind_some,ocmp_eq (m+2) (by omega) l (keysD l a) (keysD l b) (by simp[keysD]) (by simp[keysD]) hl (fun x hx=>by
  obtain⟨o,_,rfl⟩:=List.mem_map.1 hx
  exact(keyD_wv ha o).2)]
 rfl
theorem rCompare_l1 (m:Nat) (hm:300000000000≤m∧m<9000000000000000000) (hm2:m<800000000000) (l:List Dt) (a b:Dt) (ha:DocOK a) (hb:DocOK b) (hl:l.length≤100):∀(M i:Nat),i≤l.length→l.length-i<M→
  qX_l1 (m+3) M l (i:Int) a b=some (cmpKs (l.drop i) ((keysD l a).drop i) ((keysD l b).drop i))
 |0,i,_,h=>by omega
 |M+    1,i,hi,h=>by
  simp only[qX_l1,dlt]
  by_cases hlt:i<l.length
  ·have la:i<(keysD l a).length:=by simpa [keysD] using hlt
   have lb:i<(keysD l b).length:=by simpa [keysD] using hlt
   have ka:(keysD l a)[i]=keyD l[i] a:=by simp[keysD]
   have kb:(keysD l b)[i]=keyD l[i] b:=by simp[keysD]
   have e:cmpKs (l.drop i) ((keysD l a).drop i) ((keysD l b).drop i)=bif sgn l[i] (cmpD (keyD l[i] a) (keyD l[i] b)) !=0 then sgn l[i] (cmpD (keyD l[i] a) (keyD l[i] b)) else cmpKs (l.drop (i+1)) ((keysD l a).drop (i+1)) ((keysD l b).drop (i+1)):=by
        rw[List.drop_eq_getElem_cons hlt]
        simp only[cmpKs,headD_drop la,headD_drop lb,List.tail_drop,ka,kb]
   rw[e]
   have c1:zK (m+3) l[i] a=some (keyD l[i] a):=rkey_eq ha l[i] m hm hm2
   have c2:zK (m+3) l[i] b=some (keyD l[i] b):=rkey_eq hb l[i] m hm hm2
   have c3:qB (m+3) (keyD l[i] a) (keyD l[i] b)=some (cmpD (keyD l[i] a) (keyD l[i] b)):=rcmp_D _ _ m (by have:=(keyD_wv ha l[i]).2;omega) (by omega)
   simp only[hlt,decide_true,cond_true,qX_j5,qX_j4,qX_j3,qX_j2,qX_j6,qX_j0,idx_lt hlt,c1,c2,c3,Option.bind_some,neg_cmp,wrapS (show i<9223372036854775807 by omega),rCompare_l1 m hm hm2 l a b ha hb hl M (i+1) (by omega) (by omega),sgn]
   cases Dt.B l[i] 1
   ·    simp only[cond_false]
        cases (cmpD (keyD l[i] a) (keyD l[i] b) !=0)<;>rfl
   ·    simp only[cond_true,neg_bne]
        cases (cmpD (keyD l[i] a) (keyD l[i] b) !=0)<;>rfl
  ·have:i=l.length:=by omega
   subst this
   simp[qX_j5,qX_j4,qX_j3,qX_j2,qX_j6,qX_j0,cmpKs]
theorem rCompare_eq (m:Nat) (hm:300000000000≤m∧m<9000000000000000000) (hm2:m<800000000000) (l:List Dt) (a b:Dt) (ha:DocOK a) (hb:DocOK b) (hl:l.length≤100):qX (m+4) l a b=some (cmpO l a b):=by
 have:=rCompare_l1 m hm hm2 l a b ha hb hl (m+4) 0 (Nat.zero_le _) (by omega)
 rw[List.drop_zero,List.drop_zero,List.drop_zero] at this
 exact this
end Go.Proofs.YtpifchdngodgjaaGreatDoor
namespace Go.Proofs.YtpifchdngodgjaaGreatDoor
open Go.Am
theorem oclone_l1 (m:Nat) (self:Dt→Option Dt) (l:List Dt) (hl:l.length<9223372036854775807) (hs:∀e∈l,self e=some e) (z x3 x4:Dt) (x5 x6:Int) (x7:ByteArray):∀(M i:Nat),i≤l.length→l.length-i<M→
  qH_l1 m self M l (l.length:Int) (i:Int) x3 x4 x5 x6 x7 (l.take i++List.replicate (l.length-i) z)=qH_j4 m self x3 x4 x5 x6 x7 l
 |0,i,_,h=>by omega
 |M+1,i,hi,h=>by
  simp only[qH_l1,dlt]
  by_cases hlt:i<l.length
  ·have hx:i<(l.take i++List.replicate (l.length-i) z).length:=by rw[row_len l z i hi];exact hlt
   simp only[hlt,decide_true,cond_true,qH_j2,qH_j3,idx_lt hlt,Option.bind_some,hs _ (List.getElem_mem hlt),inL_lt hx,Int.toNat_natCast,List.getElem?_eq_getElem hx,set_step l z i hlt,wrapS (show i<9223372036854775807 by omega)]
   exact oclone_l1 m self l hl hs z x3 x4 x5 x6 x7 M (i+1) (by omega) (by omega)
  ·have e:i=l.length:=by omega
   subst e
   simp
theorem oclone_l6 (m:Nat) (self:Dt→Option Dt) (l:List Dt) (hl:l.length<9223372036854775807) (hf:∀f∈l,∃s v,f= .agg [.str s,v]∧self v=some v) (z x3:Dt) (x4 x5:Int) (x6:ByteArray) (x7:List Dt):∀(M i:Nat),i≤l.length→l.length-i<M→
  qH_l6 m self M l (l.length:Int) (i:Int) x3 x4 x5 x6 x7 (l.take i++List.replicate (l.length-i) z)=some (.agg [.int x4,.int x5,.str x6,.lst x7,.lst l])
 |0,i,_,h=>by omega
 |M+1,i,hi,h=>by
  simp only[qH_l6,dlt]
  by_cases hlt:i<l.length
  ·have hx:i<(l.take i++List.replicate (l.length-i) z).length:=by rw[row_len l z i hi];exact hlt
   obtain⟨s,v,e1,e2⟩:=hf _ (List.getElem_mem hlt)
   have e3:Dt.agg [.str (Dt.S l[i] 0),v]=l[i]:=by rw[e1];rfl
   have e4:Dt.fld l[i] 1=v:=by rw[e1];rfl
   simp only[hlt,decide_true,cond_true,qH_j7,qH_j8,idx_lt hlt,Option.bind_some,e4,e2,e3,inL_lt hx,Int.toNat_natCast,List.getElem?_eq_getElem hx,set_step l z i hlt,wrapS (show i<9223372036854775807 by omega)]
   exact oclone_l6 m self l hl hf z x3 x4 x5 x6 x7 M (i+1) (by omega) (by omega)
  ·have e:i=l.length:=by omega
   subst e
   simp[qH_j9]
theorem oclone_l13 (m:Nat) (self:Dt→Option Dt) (l:List Dt) (hl:l.length<9223372036854775807) (hf:∀f∈l,∃s v,f= .agg [.str s,v]∧self v=some v) (z x3:Dt) (x4 x5:Int) (x6:ByteArray) (x7:List Dt):∀(M i:Nat),i≤l.length→l.length-i<M→
  qH_l13 m self M l (l.length:Int) (i:Int) x3 x4 x5 x6 x7 (l.take i++List.replicate (l.length-i) z)=some (.agg [.int x4,.int x5,.str x6,.lst x7,.lst l])
 |0,i,_,h=>by omega
 |M+1,i,hi,h=>by
  simp only[qH_l13,dlt]
  by_cases hlt:i<l.length
  ·have hx:i<(l.take i++List.replicate (l.length-i) z).length:=by rw[row_len l z i hi];exact hlt
   obtain⟨s,v,e1,e2⟩:=hf _ (List.getElem_mem hlt)
   have e3:Dt.agg [.str (Dt.S l[i] 0),v]=l[i]:=by rw[e1];rfl
   have e4:Dt.fld l[i] 1=v:=by rw[e1];rfl
   simp only[hlt,decide_true,cond_true,qH_j14,qH_j15,idx_lt hlt,Option.bind_some,e4,e2,e3,inL_lt hx,Int.toNat_natCast,List.getElem?_eq_getElem hx,set_step l z i hlt,wrapS (show i<9223372036854775807 by omega)]
   exact oclone_l13 m self l hl hf z x3 x4 x5 x6 x7 M (i+1) (by omega) (by omega)
  ·have e:i=l.length:=by omega
   subst e
   simp[qH_j16]
theorem oclone_eq:∀(N:Nat) (d:Dt),d.bulk≤N→N≤137438953472→WV d→∀m,N≤m→qH (m+1) d=some d
 |0,d,h,_,_,_,_=>by have:=bulk_pos d;omega
 |N +   1,d,h,hN,hw,m,hm=>by
  cases hw with
  | @mk   k i t l ds hl hd=>
    rw[bulk_val] at h
    obtain⟨m,rfl⟩:∃q,m=q+1:=⟨m-1,by omega⟩
    have hself:∀e∈l,qH (m+1) e=some e:=fun e he=>oclone_eq N e (by have:=bulk_mem he;omega) (by omega) (hl e he) m (by omega)
    have hfld:∀f∈ds,∃s v,f= .agg [.str s,v]∧qH (m+1) v=some v:=fun f hf=>by
        have hb:=bulk_mem hf
        cases hd f hf with
        | @mk s v hv=>
          rw[bulk_fld] at hb
          exact⟨s,v,rfl,oclone_eq N v (by omega) (by omega) hv m (by omega)⟩
    have hl1:=len_bulk l
    have hd1:=len_bulk ds
    show (bif (decide ((0:Int)<((l.length:Nat):Int))) then _ else _)=_
    have key6:=fun(x3:Dt) (x7:List Dt) (z:Dt)=>oclone_l6 (m+1) (qH (m+1)) ds (by omega) hfld z x3 k i t x7 (m+2) 0 (by omega) (by omega)
    have key13:=fun(x3:Dt) (x7:List Dt) (z:Dt)=>oclone_l13 (m+1) (qH (m+1)) ds (by omega) hfld z x3 k i t x7 (m+2) 0 (by omega) (by omega)
    simp only[List.take_zero,List.nil_append,Nat.sub_zero] at key6 key13
    by_cases h0:0<l.length
    ·   have e0:decide ((0:Int)<((l.length:Nat):Int))=true:=by simp;omega
        have key:=fun(x3 x4:Dt) (z:Dt)=>oclone_l1 (m+1) (qH (m+1)) l (by omega) hself z x3 x4 k i t (m+2) 0 (by omega) (by omega)
        simp only[List.take_zero,List.nil_append,Nat.sub_zero] at key
        rw[e0]
        simp only[cond_true]
        show Option.bind (mkL ((l.length:Nat):Int) ((l.length:Nat):Int) _) _=_
        rw[mkL_nat (by omega),Option.bind_some]
        show qH_l1 (m+1) (qH (m+1)) (m+2) l ((l.length:Nat):Int) ((0:Nat):Int) _ _ k i t _=_
        rw[key]
        show (bif (decide ((0:Int)<((ds.length:Nat):Int))) then _ else _)=_
        by_cases h1:0<ds.length
        · have e1:decide ((0:Int)<((ds.length:Nat):Int))=true:=by simp;omega
          rw[e1]
          simp only[cond_true]
          show Option.bind (mkL ((ds.length:Nat):Int) ((ds.length:Nat):Int) _) _=_
          rw[mkL_nat (by omega),Option.bind_some]
          exact key6 _ _ _
        · have e1:decide ((0:Int)<((ds.length:Nat):Int))=false:=by rw[decide_eq_false_iff_not];omega
          have e2:ds=[]:=List.length_eq_zero_iff.1 (by omega)
          subst e2
          rfl
    ·   have e0:decide ((0:Int)<((l.length:Nat):Int))=false:=by rw[decide_eq_false_iff_not];omega
        have e3:l=[]:=List.length_eq_zero_iff.1 (by omega)
        subst e3
        show (bif (decide ((0:Int)<((ds.length:Nat):Int))) then _ else _)=_
        by_cases h1:0<ds.length
        · have e1:decide ((0:Int)<((ds.length:Nat):Int))=true:=by simp;omega
          rw[e1]
          simp only[cond_true]
          show Option.bind (mkL ((ds.length:Nat):Int) ((ds.length:Nat):Int) _) _=_
          rw[mkL_nat (by omega),Option.bind_some]
          exact key13 _ _ _
        · have e2:ds=[]:=List.length_eq_zero_iff.1 (by omega)
          subst e2
          rfl
end Go.Proofs.YtpifchdngodgjaaGreatDoor
