/- Merging two sorted lists is the stable sort of both, one after the other.
What a path passes to:the program's function and the reference's.
Sort keys of the empty sort order,in plain Lean.
Copies of values,by layer 12's function. -/
import Derived.Test.YtpifchdngodgjaaGreatDoorMTpo
import Derived.Test.YtpifchdngodgjaaGreatDoorMF
import Derived.Test.YtpifchdngodgjaaGreatDoorMA
import Derived.Test.YtpifchdngodgjaaGreatDoorMCm
set_option linter.unusedVariables false
set_option linter.unusedSimpArgs false
namespace Go.Am.Srt
variable {A:Type} {lt:A→A→Bool}
def mg (lt:A→A→Bool):Nat→List A→List A→List A
 |0,a,b=>a++b
 |_+1,[],b=>b
 |_+1,x::a,[]=>x::a
 |n+1,x::a,y::b=>bif lt y x then y::mg lt n (x::a) b else x::mg lt n a (y::b)
theorem isort_min (h:SWO lt) {x:A} {s:List A} (hx:∀z∈s,lt z x=false):isort lt (x::s)=x::isort lt s:=
 isort_split h (X:=[x]) (Y:=s) fun a ha b hb=>by rw[List.mem_singleton.1 ha];exact hx b hb
theorem isort_front (h:SWO lt) {y:A} {L R:List A} (hy:∀z∈L,lt y z=true):isort lt (L++y::R)=isort lt (y::(L++R)):=by
 have:=isort_rot h L [y] [] R fun u hu v hv=>by rw[List.mem_singleton.1 hv];exact hy u hu
 simpa using this
theorem mg_isort (h:SWO lt):∀(n:Nat) (X Y:List A),X.length+Y.length≤n→Asc lt X→Asc lt Y→mg lt n X Y=isort lt (X++Y)
 |0,X,Y,hn,_,_=>by
  have e1:X=[]:=List.length_eq_zero_iff.1 (by omega)
  have e2:Y=[]:=List.length_eq_zero_iff.1 (by omega)
  subst e1 e2
  rfl
 |n+1,[],Y,_,_,hY=>(isort_asc hY).symm
 |n+1,x::a,[],_,hX,_=>by rw[List.append_nil,isort_asc hX];rfl
 |n+    1,x::a,y::b,hn,hX,hY=>by
  simp only[List.length_cons] at hn
  rw[mg]
  cases e:lt y x with
  |true=>
   have hlt:∀z∈x::a,lt y z=true:=fun z hz=>by
        rcases List.mem_cons.1 hz with rfl|hz
        ·exact e
        ·cases e2:lt y z with
         |true=>rfl
         |false=>
          have:=h.ntr _ _ _ e2 (hX.1 z hz)
          rw[e] at this;cases this
   rw[cond_true,isort_front h hlt,isort_min h (fun z hz=>?_),mg_isort h n (x::a) b (by simp only[List.length_cons];omega) hX hY.2]
   rcases List.mem_append.1 hz with hz|hz
   ·exact h.asy (hlt z hz)
   ·exact hY.1 z hz
  |false=>
   rw[cond_false,List.cons_append,isort_min h (fun z hz=>?_),mg_isort h n a (y::b) (by simp only[List.length_cons];omega) hX.2 hY]
   rcases List.mem_append.1 hz with hz|hz
   ·exact hX.1 z hz
   ·    rcases List.mem_cons.1 hz with rfl|hz
        ·exact e
        ·exact h.ntr _ _ _ (hY.1 z hz) e
end Go.Am.Srt
namespace Go.Am.Srt
variable {A:Type} {lt:A→A→Bool}
def pairUp (lt:A→A→Bool):List (List A)→List (List A)
 | []=>[]
 | [x]=>[x]
 |x::y::r=>isort lt (x++y)::pairUp lt r
theorem pairUp_len:∀l:List (List A),(pairUp lt l).length=(l.length+1)/2
 | []=>by simp[pairUp]
 | [x]=>by simp[pairUp]
 |x::y::r=>by
  rw[pairUp,List.length_cons,pairUp_len r,List.length_cons,List.length_cons]
  omega
theorem pairUp_inv (h:SWO lt):∀l:List (List A),(∀r∈l,Asc lt r)→(∀r∈pairUp lt l,Asc lt r)∧isort lt (pairUp lt l).flatten=isort lt l.flatten
 | [],_=>⟨fun r hr=>absurd hr List.not_mem_nil,rfl⟩
 | [x],hl=>by rw[pairUp];exact⟨hl,rfl⟩
 |x::y::r,hl=>by
  obtain⟨h1,h2⟩:=pairUp_inv h r fun s hs=>hl s (by simp[hs])
  refine⟨fun s hs=>?_,?_⟩
  ·rcases List.mem_cons.1 hs with rfl|hs
   ·exact asc_isort h _
   ·exact h1 s hs
  ·rw[pairUp,List.flatten_cons,List.flatten_cons,List.flatten_cons,←List.append_assoc]
   refine isort_ctx2 h ?_ h2
   have:=isort_isort h (x++y) []
   simpa using this
theorem one_run (h:SWO lt) {r:List A} (hr:Asc lt r) {D:List A} (e:isort lt [r].flatten=isort lt D):r=isort lt D:=by
 rw[←e]
 have:[r].flatten=r:=by simp
 rw[this,isort_asc hr]
theorem flat_isort (h:SWO lt):∀l:List (List A),isort lt (l.map (isort lt)).flatten=isort lt l.flatten
 | []=>rfl
 |x::r=>by
  rw[List.map_cons,List.flatten_cons,List.flatten_cons]
  refine isort_ctx2 h ?_ (flat_isort h r)
  have:=isort_isort h x []
  simpa using this
end Go.Am.Srt
namespace Go.Proofs.YtpifchdngodgjaaGreatDoor
open Go.Am
def DL:Nat→Dt→Prop
 |0,_=>False
 |n+1,d=>∀e∈prts d,DL n e
theorem cutL_nat {l:List Dt} {i j:Nat} (h1:i≤j) (h2:j≤l.length):cutL l (i:Int) (j:Int)=some ((l.drop i).take (j-i)):=by
 unfold cutL
 rw[if_pos ⟨by omega,by omega,by omega⟩]
 simp
theorem cutL_tail (x:Dt) (q:List Dt):cutL (x::q) 1 (((x::q).length:Nat):Int)=some q:=by
 have:=cutL_nat (l:=x::q) (i:=1) (j:=(x::q).length) (by simp) (Nat.le_refl _)
 rw[show ((1:Nat):Int)=1 from rfl] at this
 rw[this]
 simp
theorem idx_head (x:Dt) (q:List Dt):idx (x::q) 0=some x:=by
 have:=idx_lt (l:=x::q) (i:=0) (by simp)
 exact this
end Go.Proofs.YtpifchdngodgjaaGreatDoor
namespace Go.Proofs.YtpifchdngodgjaaGreatDoor
open Go.Am
structure DocOK (d:Dt):Prop where
 wv:WV d
 bulk:d.bulk≤1048576
 dl:DL 16 d
def zeroVal:Dt:= .agg [.int 0,.int 0,.str (ByteArray.mk (List.toArray [])),.lst [],.lst []]
theorem zero_wv:WV zeroVal:= .mk (by simp) (by simp)
theorem inL_hd (x:Dt) (V:List Dt):inL (x::V) 0=some ():=by
 unfold inL
 rw[if_pos ⟨by omega,by rw[List.length_cons];omega⟩]
def keyD (_ _:Dt):Dt:=zeroVal
theorem keyD_wv {d:Dt} (_:DocOK d) (o:Dt):WV (keyD o d)∧(keyD o d).bulk≤68719476736:=⟨zero_wv,by show zeroVal.bulk≤68719476736;decide⟩
def keysD (l:List Dt) (d:Dt):List Dt:=l.map fun o=>keyD o d
theorem okeys_eq (m:Nat) (_:300000000000≤m∧m<9000000000000000000) (l:List Dt) (d:Dt) (_:DocOK d) (hl:l.length≤0):zH (m+3) l d=some (keysD l d):=by
 have e:l=[]:=List.eq_nil_of_length_eq_zero (by omega)
 subst e
 rfl
def sgn (o:Dt) (c:Int):Int:=bif Dt.B o 1 then-c else c
def cmpKs:List Dt→List Dt→List Dt→Int
 | [],_,_=>0
 |o::l,a,b=>bif sgn o (cmpD (a.headD zeroVal) (b.headD zeroVal)) !=0 then sgn o (cmpD (a.headD zeroVal) (b.headD zeroVal)) else cmpKs l a.tail b.tail
theorem tpoK:∀l,TPO (cmpKs l)
 | []=>TPO.zero
 |o::l=>by
  have h1:TPO (fun a b:Dt=>sgn o (cmpD a b)):=by
   unfold sgn
   cases Dt.B o 1
   ·exact tpoD
   ·exact tpoD.neg
  exact(h1.key fun a:List Dt=>a.headD zeroVal).lex ((tpoK l).key fun a:List Dt=>a.tail)
noncomputable def cmpO (l:List Dt) (a b:Dt):Int:=cmpKs l (keysD l a) (keysD l b)
theorem tpoO (l:List Dt):TPO (cmpO l):=(tpoK l).key fun d=>keysD l d
theorem headD_drop {l:List Dt} {i:Nat} (h:i<l.length):(l.drop i).headD zeroVal=l[i]:=by rw[List.drop_eq_getElem_cons h];rfl
theorem neg_cmp (a b:Dt):IntKind.wrap IntKind.i64 (0-cmpD a b)= -cmpD a b:=by
 have:=tpoD.rng a b
 rw[wrap64 (by omega) (by omega)];omega
theorem ocmp_l1 (m:Nat) (hm:80000000000≤m) (l A B:List Dt) (hA:A.length=l.length) (hB:B.length=l.length) (hl:l.length≤0) (hb:∀x∈A,x.bulk≤68719476736):∀(M i:Nat),i≤l.length→l.length-i<M→
  qY_l1 m M A B l (l.length:Int) (i:Int)=some (cmpKs (l.drop i) (A.drop i) (B.drop i))
 |0,i,_,h=>by omega
 |M+    1,i,hi,h=>by
  obtain⟨m,rfl⟩:∃k,m=k+3:=⟨m-3,by omega⟩
  simp only[qY_l1,dlt]
  by_cases hlt:i<l.length
  ·have ha:i<A.length:=by omega
   have hb':i<B.length:=by omega
   have e:cmpKs (l.drop i) (A.drop i) (B.drop i)=bif sgn l[i] (cmpD A[i] B[i]) !=0 then sgn l[i] (cmpD A[i] B[i]) else cmpKs (l.drop (i+1)) (A.drop (i+1)) (B.drop (i+1)):=by
        rw[List.drop_eq_getElem_cons hlt]
        simp only[cmpKs,headD_drop ha,headD_drop hb',List.tail_drop]
   rw[e]
   simp only[hlt,decide_true,cond_true,qY_j2,qY_j3,qY_j4,idx_lt hlt,idx_lt ha,idx_lt hb',Option.bind_some,vcmp_D A[i] B[i] m (by have:=hb _ (List.getElem_mem ha);omega) (by have:=hb _ (List.getElem_mem ha);omega),neg_cmp,wrapS (show i<9223372036854775807 by omega),ocmp_l1 (m+3) hm l A B hA hB hl hb M (i+1) (by omega) (by omega),sgn]
   cases Dt.B l[i] 1
   ·    simp only[cond_false]
        by_cases e0:cmpD A[i] B[i]=0
        ·rw[bne_f e0,bne_f e0]
        ·rw[bne_t e0,bne_t e0]
   ·    simp only[cond_true]
        by_cases e0: -cmpD A[i] B[i]=0
        ·rw[bne_f e0,bne_f e0]
        ·rw[bne_t e0,bne_t e0]
  ·have:i=l.length:=by omega
   subst this
   simp[qY_j5,cmpKs]
theorem ocmp_eq (m:Nat) (hm:80000000000≤m) (l A B:List Dt) (hA:A.length=l.length) (hB:B.length=l.length) (hl:l.length≤0) (hb:∀x∈A,x.bulk≤68719476736):qY (m+1) l A B=some (cmpKs l A B):=by
 have:=ocmp_l1 m hm l A B hA hB hl hb (m+1) 0 (Nat.zero_le _) (by omega)
 rw[List.drop_zero,List.drop_zero,List.drop_zero] at this
 exact this
theorem oCompare_eq (m:Nat) (hm:300000000000≤m∧m<9000000000000000000) (l:List Dt) (a b:Dt) (ha:DocOK a) (hb:DocOK b) (hl:l.length≤0):zO (m+4) l a b=some (cmpO l a b):=by
 simp only[zO,okeys_eq m hm l a ha hl,okeys_eq m hm l b hb hl,Option.bind_some,ocmp_eq (m+2) (by omega) l (keysD l a) (keysD l b) (by simp[keysD]) (by simp[keysD]) (by omega) (fun x hx=>by
  obtain⟨o,_,rfl⟩:=List.mem_map.1 hx
  exact(keyD_wv ha o).2)]
 rfl
end Go.Proofs.YtpifchdngodgjaaGreatDoor
namespace Go.Proofs.YtpifchdngodgjaaGreatDoor
open Go.Am
theorem oclone_l1 (m:Nat) (self:Dt→Option Dt) (l:List Dt) (hl:l.length<9223372036854775807) (hs:∀e∈l,self e=some e) (z x3 x4:Dt) (x5 x6:Int) (x7:ByteArray):∀(M i:Nat),i≤l.length→l.length-i<M→
  qG_l1 m self M l (l.length:Int) (i:Int) x3 x4 x5 x6 x7 (l.take i++List.replicate (l.length-i) z)=qG_j4 m self x3 x4 x5 x6 x7 l
 |0,i,_,h=>by omega
 |M+1,i,hi,h=>by
  simp only[qG_l1,dlt]
  by_cases hlt:i<l.length
  ·have hx:i<(l.take i++List.replicate (l.length-i) z).length:=by rw[row_len l z i hi];exact hlt
   simp only[hlt,decide_true,cond_true,qG_j2,qG_j3,idx_lt hlt,Option.bind_some,hs _ (List.getElem_mem hlt),inL_lt hx,Int.toNat_natCast,List.getElem?_eq_getElem hx,set_step l z i hlt,wrapS (show i<9223372036854775807 by omega)]
   exact oclone_l1 m self l hl hs z x3 x4 x5 x6 x7 M (i+1) (by omega) (by omega)
  ·have e:i=l.length:=by omega
   subst e
   simp
theorem oclone_l6 (m:Nat) (self:Dt→Option Dt) (l:List Dt) (hl:l.length<9223372036854775807) (hf:∀f∈l,∃s v,f= .agg [.str s,v]∧self v=some v) (z x3:Dt) (x4 x5:Int) (x6:ByteArray) (x7:List Dt):∀(M i:Nat),i≤l.length→l.length-i<M→
  qG_l6 m self M l (l.length:Int) (i:Int) x3 x4 x5 x6 x7 (l.take i++List.replicate (l.length-i) z)=some (.agg [.int x4,.int x5,.str x6,.lst x7,.lst l])
 |0,i,_,h=>by omega
 |M+1,i,hi,h=>by
  simp only[qG_l6,dlt]
  by_cases hlt:i<l.length
  ·have hx:i<(l.take i++List.replicate (l.length-i) z).length:=by rw[row_len l z i hi];exact hlt
   obtain⟨s,v,e1,e2⟩:=hf _ (List.getElem_mem hlt)
   have e3:Dt.agg [.str (Dt.S l[i] 0),v]=l[i]:=by rw[e1];rfl
   have e4:Dt.fld l[i] 1=v:=by rw[e1];rfl
   simp only[hlt,decide_true,cond_true,qG_j7,qG_j8,idx_lt hlt,Option.bind_some,e4,e2,e3,inL_lt hx,Int.toNat_natCast,List.getElem?_eq_getElem hx,set_step l z i hlt,wrapS (show i<9223372036854775807 by omega)]
   exact oclone_l6 m self l hl hf z x3 x4 x5 x6 x7 M (i+1) (by omega) (by omega)
  ·have e:i=l.length:=by omega
   subst e
   simp[qG_j9]
theorem oclone_l13 (m:Nat) (self:Dt→Option Dt) (l:List Dt) (hl:l.length<9223372036854775807) (hf:∀f∈l,∃s v,f= .agg [.str s,v]∧self v=some v) (z x3:Dt) (x4 x5:Int) (x6:ByteArray) (x7:List Dt):∀(M i:Nat),i≤l.length→l.length-i<M→
  qG_l13 m self M l (l.length:Int) (i:Int) x3 x4 x5 x6 x7 (l.take i++List.replicate (l.length-i) z)=some (.agg [.int x4,.int x5,.str x6,.lst x7,.lst l])
 |0,i,_,h=>by omega
 |M+1,i,hi,h=>by
  simp only[qG_l13,dlt]
  by_cases hlt:i<l.length
  ·have hx:i<(l.take i++List.replicate (l.length-i) z).length:=by rw[row_len l z i hi];exact hlt
   obtain⟨s,v,e1,e2⟩:=hf _ (List.getElem_mem hlt)
   have e3:Dt.agg [.str (Dt.S l[i] 0),v]=l[i]:=by rw[e1];rfl
   have e4:Dt.fld l[i] 1=v:=by rw[e1];rfl
   simp only[hlt,decide_true,cond_true,qG_j14,qG_j15,idx_lt hlt,Option.bind_some,e4,e2,e3,inL_lt hx,Int.toNat_natCast,List.getElem?_eq_getElem hx,set_step l z i hlt,wrapS (show i<9223372036854775807 by omega)]
   exact oclone_l13 m self l hl hf z x3 x4 x5 x6 x7 M (i+1) (by omega) (by omega)
  ·have e:i=l.length:=by omega
   subst e
   simp[qG_j16]
theorem oclone_eq:∀(N:Nat) (d:Dt),d.bulk≤N→N≤137438953472→WV d→∀m,N≤m→qG (m+1) d=some d
 |0,d,h,_,_,_,_=>by have:=bulk_pos d;omega
 |N +   1,d,h,hN,hw,m,hm=>by
  cases hw with
  | @mk   k i t l ds hl hd=>
    rw[bulk_val] at h
    obtain⟨m,rfl⟩:∃q,m=q+1:=⟨m-1,by omega⟩
    have hself:∀e∈l,qG (m+1) e=some e:=fun e he=>oclone_eq N e (by have:=bulk_mem he;omega) (by omega) (hl e he) m (by omega)
    have hfld:∀f∈ds,∃s v,f= .agg [.str s,v]∧qG (m+1) v=some v:=fun f hf=>by
        have hb:=bulk_mem hf
        cases hd f hf with
        | @mk s v hv=>
          rw[bulk_fld] at hb
          exact⟨s,v,rfl,oclone_eq N v (by omega) (by omega) hv m (by omega)⟩
    have hl1:=len_bulk l
    have hd1:=len_bulk ds
    show (bif (decide ((0:Int)<((l.length:Nat):Int))) then _ else _)=_
    have key6:=fun(x3:Dt) (x7:List Dt) (z:Dt)=>oclone_l6 (m+1) (qG (m+1)) ds (by omega) hfld z x3 k i t x7 (m+2) 0 (by omega) (by omega)
    have key13:=fun(x3:Dt) (x7:List Dt) (z:Dt)=>oclone_l13 (m+1) (qG (m+1)) ds (by omega) hfld z x3 k i t x7 (m+2) 0 (by omega) (by omega)
    simp only[List.take_zero,List.nil_append,Nat.sub_zero] at key6 key13
    by_cases h0:0<l.length
    ·   have e0:decide ((0:Int)<((l.length:Nat):Int))=true:=by simp;omega
        have key:=fun(x3 x4:Dt) (z:Dt)=>oclone_l1 (m+1) (qG (m+1)) l (by omega) hself z x3 x4 k i t (m+2) 0 (by omega) (by omega)
        simp only[List.take_zero,List.nil_append,Nat.sub_zero] at key
        rw[e0]
        simp only[cond_true]
        show Option.bind (mkL ((l.length:Nat):Int) ((l.length:Nat):Int) _) _=_
        rw[mkL_nat (by omega),Option.bind_some]
        show qG_l1 (m+1) (qG (m+1)) (m+2) l ((l.length:Nat):Int) ((0:Nat):Int) _ _ k i t _=_
        rw[key]
        show (bif (decide ((0:Int)<((ds.length:Nat):Int))) then _ else _)=_
        by_cases h1:0<ds.length
        · have e1:decide ((0:Int)<((ds.length:Nat):Int))=true:=by simp;omega
          rw[e1]
          simp only[cond_true]
          show Option.bind (mkL ((ds.length:Nat):Int) ((ds.length:Nat):Int) _) _=_
          rw[mkL_nat (by omega),Option.bind_some]
          exact key6 _ _ _
        · have e1:decide ((0:Int)<((ds.length:Nat):Int))=false:=by rw[decide_eq_false_iff_not];omega
          have e2:ds=[]:=List.length_eq_zero_iff.1 (by omega)
          subst e2
          rfl
    ·   have e0:decide ((0:Int)<((l.length:Nat):Int))=false:=by rw[decide_eq_false_iff_not];omega
        have e3:l=[]:=List.length_eq_zero_iff.1 (by omega)
        subst e3
        show (bif (decide ((0:Int)<((ds.length:Nat):Int))) then _ else _)=_
        by_cases h1:0<ds.length
        · have e1:decide ((0:Int)<((ds.length:Nat):Int))=true:=by simp;omega
          rw[e1]
          simp only[cond_true]
          show Option.bind (mkL ((ds.length:Nat):Int) ((ds.length:Nat):Int) _) _=_
          rw[mkL_nat (by omega),Option.bind_some]
          exact key13 _ _ _
        · have e2:ds=[]:=List.length_eq_zero_iff.1 (by omega)
          subst e2
          rfl
end Go.Proofs.YtpifchdngodgjaaGreatDoor
