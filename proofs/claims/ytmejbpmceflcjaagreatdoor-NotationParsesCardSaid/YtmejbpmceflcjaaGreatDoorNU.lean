/- The reference's parser reads as the plain one: names, objects.
The reference's parser reads as the plain one:objects.
The reference's parser reads as the plain one:what a value's first byte tells.
The reference's parser reads as the plain one:objects,values,the whole. -/
import Derived.Test.YtmejbpmceflcjaaGreatDoorNR
import Derived.Test.YtmejbpmceflcjaaGreatDoorNH
set_option linter.unusedVariables false
set_option linter.unusedSimpArgs false
namespace Go.Proofs.YtmejbpmceflcjaaGreatDoor
open Go.Am
theorem rspRow_eq (m:Nat) (L:List Dt) (hb:∀f∈L,(Dt.S (Dt.fld f 1) 2).size+20≤m) (hb2:∀f∈L,(Dt.S (Dt.fld f 1) 2).size≤100000000000):∃x,i43 (m+2) L=some (x,spc L,L)∧∀f,L=[f]→spc L=true→x=spV f:=by
 rcases one_len L with⟨f,rfl⟩| ⟨h1,h2⟩
 ·have hx :=unhex_eq m (Dt.S (Dt.fld f 1) 2) (hb f (by simp)) (hb2 f (by simp))
  have hi:inL [f] 0=some ():=rfl
  have hg:([f]:List Dt)[0]? =some f:=rfl
  obtain⟨n1,n2,n3,n4,n5⟩:=nm_eqs (Dt.S f 0)
  have hone:((([f].length:Nat):Int) !=1)=false:=rfl
  have key:i43 (m+2) [f]=i43_j1 (m+1) (bif Dt.I (Dt.fld f 1) 0==4&&hexS (Dt.S (Dt.fld f 1) 2) then⟨(unh (Dt.S (Dt.fld f 1) 2).data.toList).toArray⟩ else ByteArray.mk (List.toArray [])) (Dt.I (Dt.fld f 1) 0==4&&hexS (Dt.S (Dt.fld f 1) 2)) [f] kza2373 (Dt.fld f 1):=by
   simp only[i43,hone,cond_false,i43_j0,hi,hg,Option.bind_some,hx]
   cases (Dt.I (Dt.fld f 1) 0==4)<;>cases hexS (Dt.S (Dt.fld f 1) 2)<;>rfl
  rw[key]
  suffices H:∃x,_=some (x,spc [f],[f])∧(spc [f]=true→x=spV f) from by
   obtain⟨x,p,q⟩:=H
   exact⟨x,p,fun g hg hs=>by cases hg;exact q hs⟩
  show ∃x,_=some (x,spF f,[f])∧(spF f=true→x=spV f)
  simp only[i43_j1,i43_j2,i43_j3,i43_j4,i43_j5,i43_j6,i43_j7,hi,hg,Option.bind_some,n1,n2,n3,n4,n5]
  have ex:∀a b:ByteArray,eqb (Dt.S f 0) a=true→eqb (Dt.S f 0) b=true→a=b:=fun a b h1 h2=>((eqb_iff _ _).1 h1).symm.trans ((eqb_iff _ _).1 h2)
  have nI:∀b,eqb (Dt.S f 0) nmId=true→(nmId=b→False)→eqb (Dt.S f 0) b=false:=fun b h hn=>by cases hb:eqb (Dt.S f 0) b with|false=>rfl|true=>exact absurd (ex _ _ h hb) hn
  unfold spF spV
  cases e1:eqb (Dt.S f 0) nmId
  ·cases  e2:eqb (Dt.S f 0) nmBytes
   ·    cases e3:eqb (Dt.S f 0) nmTime
        ·cases e4:eqb (Dt.S f 0) nmMin
         ·cases e5:eqb (Dt.S f 0) nmMax
          ·exact⟨_,rfl,fun h=>by cases h⟩
          ·   cases (Dt.I (Dt.fld f 1) 0==3)
              ·exact⟨_,rfl,fun h=>by cases h⟩
              ·cases (Dt.I (Dt.fld f 1) 1==1)
               ·exact⟨_,rfl,fun h=>by cases h⟩
               ·exact⟨_,rfl,fun _=>rfl⟩
         ·have e5:eqb (Dt.S f 0) nmMax=false:=by cases hb:eqb (Dt.S f 0) nmMax with|false=>rfl|true=>exact absurd (ex _ _ e4 hb) (fun h=>by cases congrArg (fun b:ByteArray=>b.data.toList) h)
          cases (Dt.I (Dt.fld f 1) 0==3)
          ·rw[e5];exact⟨_,rfl,fun h=>by cases h⟩
          ·   cases (Dt.I (Dt.fld f 1) 1==1)
              ·rw[e5];exact⟨_,rfl,fun h=>by cases h⟩
              ·exact⟨_,rfl,fun _=>rfl⟩
        ·have e4:eqb (Dt.S f 0) nmMin=false:=by cases hb:eqb (Dt.S f 0) nmMin with|false=>rfl|true=>exact absurd (ex _ _ e3 hb) (fun h=>by cases congrArg (fun b:ByteArray=>b.data.toList) h)
         have e5:eqb (Dt.S f 0) nmMax=false:=by cases hb:eqb (Dt.S f 0) nmMax with|false=>rfl|true=>exact absurd (ex _ _ e3 hb) (fun h=>by cases congrArg (fun b:ByteArray=>b.data.toList) h)
         cases (Dt.I (Dt.fld f 1) 0==3)
         ·rw[e4,e5];exact⟨_,rfl,fun h=>by cases h⟩
         ·cases decide (0≤Dt.I (Dt.fld f 1) 1)
          ·rw[e4,e5];exact⟨_,rfl,fun h=>by cases h⟩
          ·exact⟨_,rfl,fun _=>rfl⟩
   ·    have e3:eqb (Dt.S f 0) nmTime=false:=by cases hb:eqb (Dt.S f 0) nmTime with|false=>rfl|true=>exact absurd (ex _ _ e2 hb) (fun h=>by cases congrArg (fun b:ByteArray=>b.data.toList) h)
        have e4:eqb (Dt.S f 0) nmMin=false:=by cases hb:eqb (Dt.S f 0) nmMin with|false=>rfl|true=>exact absurd (ex _ _ e2 hb) (fun h=>by cases congrArg (fun b:ByteArray=>b.data.toList) h)
        have e5:eqb (Dt.S f 0) nmMax=false:=by cases hb:eqb (Dt.S f 0) nmMax with|false=>rfl|true=>exact absurd (ex _ _ e2 hb) (fun h=>by cases congrArg (fun b:ByteArray=>b.data.toList) h)
        rw[e3,e4,e5]
        cases (Dt.I (Dt.fld f 1) 0==4&&hexS (Dt.S (Dt.fld f 1) 2))
        ·exact⟨_,rfl,fun h=>by cases h⟩
        ·exact⟨_,rfl,fun _=>rfl⟩
  ·have e2:eqb (Dt.S f 0) nmBytes=false:=nI _ e1 (fun h=>by cases congrArg (fun b:ByteArray=>b.data.toList) h)
   have e3:eqb (Dt.S f 0) nmTime=false:=nI _ e1 (fun h=>by cases congrArg (fun b:ByteArray=>b.data.toList) h)
   have e4:eqb (Dt.S f 0) nmMin=false:=nI _ e1 (fun h=>by cases congrArg (fun b:ByteArray=>b.data.toList) h)
   have e5:eqb (Dt.S f 0) nmMax=false:=nI _ e1 (fun h=>by cases congrArg (fun b:ByteArray=>b.data.toList) h)
   rw[e2,e3,e4,e5]
   cases h4:(Dt.I (Dt.fld f 1) 0==4&&hexS (Dt.S (Dt.fld f 1) 2))
   ·exact⟨_,rfl,fun h=>by cases h⟩
   ·    simp only[cond_true,len12 _ ((Bool.and_eq_true_iff).1 h4).2,Bool.true_and]
        cases Nat.beq (Dt.S (Dt.fld f 1) 2).size 24
        ·exact⟨_,rfl,fun h=>by cases h⟩
        ·exact⟨_,rfl,fun _=>rfl⟩
 ·exact⟨kza2373,by simp only[i43,bne,h1,Bool.not_false,cond_true,h2],fun f hf=>by rw[hf] at h1;cases h1⟩
theorem eqb_swp (a b:ByteArray):(a.toList==b.toList)=eqb b a:=by
 unfold eqb
 rw[Bool.eq_iff_iff,beq_iff_eq,beq_iff_eq]
 exact⟨fun h=>h.symm,fun h=>h.symm⟩
theorem dup_E (m:Nat) {s:ByteArray} {l:List UInt8} {n:Nat} {e o:Int} (he:e=2∨e=4) (from':Int) (nm:ByteArray) (a:List Dt) (ha:a.length<1000000000000):∀(M i:Nat),i≤a.length→a.length-i<M→i36_l2 (m+1) M from' nm (i:Int) (RE s l n e o) a=some (nm,RE s l n e o,a)
 |0,i,_,h=>by omega
 |M+1,i,hi,h=>by
  rw[i36_l2,dlt]
  by_cases hlt:i<a.length
  ·have ih:=dup_E m (s:=s) he (l:=l) (n:=n) (o:=o) from' nm a ha M (i+1) (by omega) (by omega)
   rw[decide_eq_true hlt,cond_true,i36_j3,inL_lt hlt,Option.bind_some,Int.toNat_natCast,List.getElem?_eq_getElem hlt,Option.bind_some]
   simp only[rfailE m he,Option.bind_some,i36_j4,wrapS (show i<9223372036854775807 by omega),ih]
   cases (ByteArray.toList (Dt.S a[i] 0)==ByteArray.toList nm)<;>rfl
  ·rw[decide_eq_false hlt];rfl
theorem dup_sl (m:Nat) {s:ByteArray} {l:List UInt8} {n:Nat} (from':Int) (nm:ByteArray) (a:List Dt) (ha:a.length<1000000000000):∀(M i:Nat),i≤a.length→a.length-i<M→i36_l2 (m+1) M from' nm (i:Int) (PQ s l n) a=some (nm,(bif ((a.drop i).map fun x=>Dt.S x 0).any (eqb nm) then RE s l n 4 from' else PQ s l n),a)
 |0,i,_,h=>by omega
 |M+1,i,hi,h=>by
  rw[i36_l2,dlt]
  by_cases hlt:i<a.length
  ·have ih:=dup_sl m (s:=s) (l:=l) (n:=n) from' nm a ha M (i+1) (by omega) (by omega)
   have ihE:=dup_E m (s:=s) (l:=l) (n:=n) (e:=4) (o:=from') (.inr rfl) from' nm a ha M (i+1) (by omega) (by omega)
   rw[decide_eq_true hlt,cond_true,i36_j3,inL_lt hlt,Option.bind_some,Int.toNat_natCast,List.getElem?_eq_getElem hlt,Option.bind_some,eqb_swp,List.drop_eq_getElem_cons hlt,List.map_cons,List.any_cons]
   simp only[rfail0,Option.bind_some,i36_j4,wrapS (show i<9223372036854775807 by omega),ih,ihE]
   cases eqb nm (Dt.S a[i] 0)<;>rfl
  ·rw[decide_eq_false hlt,List.drop_eq_nil_of_le (by omega)];rfl
theorem rlit_bad (m:Nat) {s:ByteArray} {l:List UInt8} {n:Nat} (h:Sf s l) (hc:∀c r,l=c::r→c.toNat≠34):i37 (m+3) (PQ s l n)=some (nulB,RE s l n 4 ((s.size-l.length:Nat):Int)):=by
 rw[i37,rtake_no m h 34 (fun c r hcr=>by have:=hc c r hcr;omega),Option.bind_some]
 show i37_l1 (m+2) (m+2+1) nulB (RE s l n 4 ((s.size-l.length:Nat):Int))=_
 rw[i37_l1,re_z (.inr rfl)]
 rfl
theorem rname_E (m:Nat) {s:ByteArray} {st:Dt} {l:List UInt8} {n:Nat} {e o:Int} (he:e=2∨e=4) (b:ByteArray) (a:List Dt) (ha:a.length≤m) (hm:200≤m) (hm2:m<1000000000000) (hl:i37 (m+1) st=some (b,RE s l n e o)):i36 (m+2) st a=some (b,RE s l n e o,a):=by
 have hd:=fun f=>dup_E m (s:=s) (l:=l) (n:=n) (o:=o) he f b a (by omega) (m+2) 0 (Nat.zero_le _) (by omega)
 have hj:∀f,i36_j0 (m+1) f b (RE s l n e o) a=some (b,RE s l n e o,a):=fun f=>hd f
 rw[i36,hl,Option.bind_some]
 simp only[rfailE m he,Option.bind_some,hj]
 cases h128:decide ((128:Int)<((ByteArray.size b:Nat):Int))
 ·have h128:=of_decide_eq_false h128
  rw[cond_false,label_eq m b (by omega) (by omega),Option.bind_some]
  cases wd b<;>rfl
 ·rfl
theorem bind4 {α β γ δ R A B:Type} {X:Option α} {Y:α→Option β} {Z:α→β→Option γ} {W:γ→Option δ} {f:α→A} {g:α→B} {K:A→δ→B→Option R} {x:A} {y:δ} {z:B} (h:(X.bind fun r3=>(Y r3).bind fun r4=>(Z r3 r4).bind fun r5=>(W r5).bind fun r6=>some (f r3,r6,g r3))=some (x,y,z)):
  (X.bind fun r3=>(Y r3).bind fun r4=>(Z r3 r4).bind fun r5=>(W r5).bind fun r6=>K (f r3) r6 (g r3))=K x y z:=by
 cases X with
 |none=>cases h
 |some a=>
  rw[Option.bind_some] at h ⊢
  cases hy:Y a with
  |none=>rw[hy] at h;cases h
  |some b=>
   rw[hy] at h
   rw[Option.bind_some] at h ⊢
   cases hz:Z a b with
   |none=>rw[hz] at h;cases h
   |    some c=>
        rw[hz] at h
        rw[Option.bind_some] at h ⊢
        cases hw:W c with
        |none=>rw[hw] at h;cases h
        |some d=>
         rw[hw] at h
         rw[Option.bind_some] at h ⊢
         injection h with h
         injection h with h1 h2
         injection h2 with h2 h3
         rw[h1,h2,h3]
noncomputable def nmC (m:Nat) (st:Dt) (a:List Dt):Option (ByteArray×Dt×List Dt):=
 (i36 m st a).bind fun r3=>(i27 m r3.2.1).bind fun r4=>(i34 m 58 r4).bind fun r5=>(i27 m r5).bind fun r6=>some (r3.1,r6,r3.2.2)
theorem nmC_E (m:Nat) {s:ByteArray} (hs:s.size<1000000000) {st:Dt} {l:List UInt8} {n:Nat} {e o:Int} (he:e=2∨e=4) (h:Sf s l) (hm:s.size≤m) (b:ByteArray) (a:List Dt) (hn:i36 (m+2) st a=some (b,RE s l n e o,a)):∃l',Sf s l'∧nmC (m+2) st a=some (b,RE s l' n e o,a):=by
 have hs':s.size<1000000000000:=by omega
 have hl:=sf_len h
 obtain⟨l1,h1,e1⟩:=rtakeE m hs' (n:=n) (o:=o) he (sf_bl h) 58
 have hl1:=sf_len h1
 refine⟨sBl l1,sf_bl h1,?_⟩
 rw[nmC,hn,Option.bind_some]
 simp only[rblanks (m+1) hs' h (show l.length≤m+1 by omega),Option.bind_some,e1,rblanks (m+1) hs' h1 (show l1.length≤m+1 by omega)]
theorem rname_sim (m:Nat) {s:ByteArray} (hs:s.size<1000000000) (n:Nat) (a:List Dt) (ha:a.length≤m) {l:List UInt8} (h:Sf s l) (hm:s.size+200≤m) (hm2:m<100000000000):
  match sNam (a.map fun x=>Dt.S x 0) l with
  | .er e l'=>(e=2∨e=4)∧Sf s l'∧∃nm l2 n',Sf s l2∧nmC (m+32) (PQ s l n) a=some (nm,RE s l2 n' (e:Int) ((s.size-l'.length:Nat):Int),a)
  | .ok nm l'=>Sf s l'∧nmC (m+32) (PQ s l n) a=some (nm,PQ s l' n,a):=by
 have hs':s.size<1000000000000:=by omega
 have hlen:=sf_len h
 have bad:(∀c r,l=c::r→c.toNat≠34)→∃nm l2 n',Sf s l2∧nmC (m+32) (PQ s l n) a=some (nm,RE s l2 n' ((4:Nat):Int) ((s.size-l.length:Nat):Int),a):=fun hc=>by
  have h1:=rname_E (m+30) (.inr rfl) nulB a (by omega) (by omega) (by omega) (rlit_bad (m+28) (n:=n) h hc)
  obtain⟨l2,h2,h3⟩:=nmC_E (m+30) hs (.inr rfl) h (by omega) nulB a h1
  exact⟨nulB,l2,n,h2,h3⟩
 cases l with
 |nil=>exact⟨.inr rfl,h,bad fun c r hcr=>by cases hcr⟩
 |cons c t=>
  rw[List.length_cons] at hlen
  rw[sNam]
  by_cases h34:c.toNat=34
  ·rw[   if_pos h34]
   have hl:=rliteral_sim m hs n h h34 (by omega)
   have ho:=sLit_ok (t.length+2) [] t (by omega)
   cases hr:sLit (t.length+2) [] t with
   |    er e l=>
        rw[hr] at hl
        obtain⟨p1,p2,b,l',n',p3,p4,p5⟩:=hl
        have he:(e:Int)=2∨(e:Int)=4:=by omega
        have h1:=rname_E (m+30) he b a (by omega) (by omega) (by omega) p5
        obtain⟨l2,h2,h3⟩:=nmC_E (m+30) hs he p4 (by omega) b a h1
        exact⟨p1,p2,b,l2,n',h2,h3⟩
   |    ok w l=>
        rw[hr] at hl ho
        obtain⟨p1,p2⟩:=hl
        have hls:=sf_len p1
        have hsz:(⟨w.toArray⟩:ByteArray).size=w.length:=mkB_size w
        have hw:(⟨w.toArray⟩:ByteArray).data.toList=w:=by simp
        have ed:decide ((128:Int)<((ByteArray.size ⟨w.toArray⟩:Nat):Int))=decide (128<w.length):=by rw[hsz];simp;omega
        have err:∀k:Int,k=2∨k=4→i36_j0 (m+31) ((s.size-(c::t).length:Nat):Int) ⟨w.toArray⟩ (RE s l n k ((s.size-(c::t).length:Nat):Int)) a=some (⟨w.toArray⟩,RE s l n k ((s.size-(c::t).length:Nat):Int),a):=fun k hk=>
         dup_E (m+30) hk _ _ a (by omega) (m+32) 0 (Nat.zero_le _) (by omega)
        have nm0:i36 (m+32) (PQ s (c::t) n) a=(bif decide (128<w.length) then some (⟨w.toArray⟩,RE s l n 2 ((s.size-(c::t).length:Nat):Int),a) else bif !(wd ⟨w.toArray⟩) then some (⟨w.toArray⟩,RE s l n 4 ((s.size-(c::t).length:Nat):Int),a) else some (⟨w.toArray⟩,(bif (a.map fun x=>Dt.S x 0).any (eqb ⟨w.toArray⟩) then RE s l n 4 ((s.size-(c::t).length:Nat):Int) else PQ s l n),a)):=by
         have hdup:=dup_sl (m+30) (s:=s) (l:=l) (n:=n) ((s.size-(c::t).length:Nat):Int) ⟨w.toArray⟩ a (by omega) (m+32) 0 (Nat.zero_le _) (by omega)
         rw[List.drop_zero] at hdup
         have hdup':i36_j0 (m+31) ((s.size-(c::t).length:Nat):Int) ⟨w.toArray⟩ (PQ s l n) a=_:=hdup
         rw[i36,p2,Option.bind_some]
         show (bif decide ((128:Int)<((ByteArray.size ⟨w.toArray⟩:Nat):Int)) then((i31 (m+31) 2 ((s.size-(c::t).length:Nat):Int) (PQ s l n)).bind fun r1=>i36_j0 (m+31) ((s.size-(c::t).length:Nat):Int) ⟨w.toArray⟩ r1 a) else((ref05_Label (m+31) ⟨w.toArray⟩).bind fun r5=>bif Bool.not r5 then((i31 (m+31) 4 ((s.size-(c::t).length:Nat):Int) (PQ s l n)).bind fun r6=>i36_j0 (m+31) ((s.size-(c::t).length:Nat):Int) ⟨w.toArray⟩ r6 a) else i36_j0 (m+31) ((s.size-(c::t).length:Nat):Int) ⟨w.toArray⟩ (PQ s l n) a))=_
         rw[ed,rfail0,rfail0,Option.bind_some,Option.bind_some,err 2 (.inl rfl),err 4 (.inr rfl),hdup']
         cases h128:decide (128<w.length)
         ·have h128:=of_decide_eq_false h128
          rw[cond_false,cond_false,label_eq (m+30) _ (by omega) (by omega),Option.bind_some]
         ·rfl
        have toE:∀k:Nat,k=2∨k=4→i36 (m+32) (PQ s (c::t) n) a=some (⟨w.toArray⟩,RE s l n (k:Int) ((s.size-(c::t).length:Nat):Int),a)→(k=2∨k=4)∧Sf s (c::t)∧∃nm l2 n',Sf s l2∧nmC (m+32) (PQ s (c::t) n) a=some (nm,RE s l2 n' (k:Int) ((s.size-(c::t).length:Nat):Int),a):=fun k hk hn=>by
         obtain⟨l2,h2,h3⟩:=nmC_E (m+30) hs (show (k:Int)=2∨(k:Int)=4 by omega) p1 (by omega) _ a hn
         exact⟨hk,h,_,l2,n,h2,h3⟩
        simp only[Rs.bd]
        cases h128:decide (128<w.length)
        ·rw[h128,cond_false] at nm0
         have h128:=of_decide_eq_false h128
         have hwd:wd ⟨w.toArray⟩=(w.all okW&&decide (1≤w.length)):=by
          unfold wd
          rw[hsz,hw,decide_eq_true (show w.length≤128 by omega)]
          cases decide (1≤w.length)<;>cases w.all okW<;>rfl
         rw[hwd] at nm0
         rw[cond_false]
         cases hb:(w.all okW&&decide (1≤w.length))
         ·rw[hb] at nm0
          exact toE 4 (.inr rfl) nm0
         ·rw[hb,Bool.not_true,cond_false] at nm0
          rw[Bool.not_true,Bool.false_or]
          cases hsn:(a.map fun x=>Dt.S x 0).any (eqb ⟨w.toArray⟩)
          · rw[   hsn,cond_false] at nm0
            rw[cond_false]
            have q1:=sf_bl p1
            have hcol:nmC (m+32) (PQ s (c::t) n) a=(i34 (m+32) 58 (PQ s (sBl l) n)).bind fun r5=>(i27 (m+32) r5).bind fun r6=>some (⟨w.toArray⟩,r6,a):=by
             rw[nmC,nm0,Option.bind_some]
             show ((i27 (m+32) (RE s l n 0 0)).bind _)=_
             rw[rblanks (m+31) hs' p1 (by omega),Option.bind_some]
            have no:(∀x k,sBl l=x::k→x.toNat≠58)→∃nm l2 n',Sf s l2∧nmC (m+32) (PQ s (c::t) n) a=some (nm,RE s l2 n' ((4:Nat):Int) ((s.size-(sBl l).length:Nat):Int),a):=fun hx=>by
             have hbl:=sBl_len l
             refine⟨⟨w.toArray⟩,sBl (sBl l),n,sf_bl q1,?_⟩
             rw[hcol,rtake_no (m+30) q1 58 (fun x k hxk=>by have:=hx x k hxk;omega),Option.bind_some,rblanks (m+31) hs' q1 (by omega),Option.bind_some]
             rfl
            cases hbl:sBl l with
            |nil=>
             rw[hbl] at q1 no
             exact⟨.inr rfl,q1,no fun x k hxk=>by cases hxk⟩
            |cons x k=>
             have hll:=sBl_len l
             rw[hbl,List.length_cons] at hll
             rw[hbl] at q1 no hcol
             by_cases h58:x.toNat=58
             ·    simp only[]
                  rw[if_pos h58]
                  refine⟨sf_bl (sf_tail q1),?_⟩
                  rw[hcol,re_pq,rtake_ok (m+31) hs' q1 58 (by omega),Option.bind_some,rblanks (m+31) hs' (sf_tail q1) (by omega),Option.bind_some]
             ·    simp only[]
                  rw[if_neg h58]
                  exact⟨.inr rfl,q1,no fun x' k' hxk=>by injection hxk with hxk _;subst hxk;exact h58⟩
          · rw[hsn,cond_true] at nm0
            exact toE 4 (.inr rfl) nm0
        ·rw[h128,cond_true] at nm0
         exact toE 2 (.inl rfl) nm0
  ·rw[if_neg h34]
   exact⟨.inr rfl,h,bad fun c' r hcr=>by injection hcr with hcr _;subst hcr;exact h34⟩
end Go.Proofs.YtmejbpmceflcjaaGreatDoor
namespace Go.Proofs.YtmejbpmceflcjaaGreatDoor
open Go.Am
theorem tx_le {v:Dt} (hsn:∀N,v.bulk≤N→sndF wd N v=true):(Dt.S v 2).size≤4096:=by
 obtain⟨q,hq⟩:∃q,v.bulk=q+1:=⟨v.bulk-1,by have:=bulk_pos v;omega⟩
 have hb:=hsn _ (Nat.le_refl _)
 rw[hq] at hb
 obtain⟨b1,b2,b3,b4⟩:=snd_body hb
 obtain⟨_,i2⟩:=snd_int hb
 by_cases k4:Dt.I v 0=4
 ·exact(b3 k4).1
 by_cases k8:Dt.I v 0=8
 ·have:=b4 k8;omega
 by_cases k7:Dt.I v 0=7
 ·simp only[sndF,k7] at hb
  have hb:=(Bool.and_eq_true_iff.1 hb).2
  have hb:decide (((Dt.S v 2).size:Int)≤4096)=true:=hb
  have:=of_decide_eq_true hb
  omega
 ·rw[i2 k4 k7 k8];exact Nat.zero_le _
def wts (a:List Dt) (nm:ByteArray) (k:List UInt8):Bool:=(a.isEmpty&&isSp nm)&&sch k
theorem choose_in {β:Type} (f:Bool→β) (k:List UInt8):(bif hdB k==34 then f true else bif hdB k==45 then f true else bif decide ((48:Int)≤hdB k) then f (decide (hdB k≤57)) else f false)=f (sch k):=by
 cases k with
 |nil=>rfl
 |cons c t=>
  have q34:((hdB (c::t))==34)=decide (c.toNat=34):=hd_eq (l:=c::t) 34 (by omega)
  have q45:((hdB (c::t))==45)=decide (c.toNat=45):=hd_eq (l:=c::t) 45 (by omega)
  have d1:decide ((48:Int)≤hdB (c::t))=decide (48≤c.toNat):=by
   show decide ((48:Int)≤(c.toNat:Int))=_
   rw[Bool.eq_iff_iff];simp;omega
  have d2:decide (hdB (c::t)≤57)=decide (c.toNat≤57):=by
   show decide ((c.toNat:Int)≤57)=_
   rw[Bool.eq_iff_iff];simp;omega
  rw[q34,q45,d1,d2,sch,isD]
  cases decide (c.toNat=34)<;>cases decide (c.toNat=45)<;>cases decide (48≤c.toNat)<;>cases decide (c.toNat≤57)<;>rfl
theorem robj_j2 (m:Nat) (self:Int→Bool→Dt→Option (Dt×Dt)) (rec1:Int→Dt→Dt→Int→Int→ByteArray→List Dt→List Dt→Option (Dt×Dt)) {s:ByteArray} {st:Dt} {a:List Dt} {nm:ByteArray} {k:List UInt8} {n:Nat} {e o:Int} (hk:Sf s k) (hc:nmC (m+1) st a=some (nm,RE s k n e o,a)) (lv:Int) (e0:Dt):
  i35_j2 (m+1) self rec1 lv st e0 5 0 (ByteArray.mk (List.toArray [])) [] a=i35_j3 (m+1) self rec1 lv nm ((s.size-k.length:Nat):Int) (wts a nm k) (RE s k n e o) e0 5 0 (ByteArray.mk (List.toArray [])) [] a:=by
 let C:ByteArray→Dt→Int×Dt→List Dt→Option (Dt×Dt):=fun x y r7 z=>bif r7.1==34 then i35_j3 (m+1) self rec1 lv x (Dt.I y 1) true r7.2 e0 5 0 (ByteArray.mk (List.toArray [])) [] z else bif r7.1==45 then i35_j3 (m+1) self rec1 lv x (Dt.I y 1) true r7.2 e0 5 0 (ByteArray.mk (List.toArray [])) [] z else bif decide ((48:Int)≤r7.1) then i35_j3 (m+1) self rec1 lv x (Dt.I y 1) (decide (r7.1≤57)) r7.2 e0 5 0 (ByteArray.mk (List.toArray [])) [] z else i35_j3 (m+1) self rec1 lv x (Dt.I y 1) false r7.2 e0 5 0 (ByteArray.mk (List.toArray [])) [] z
 refine Eq.trans ?_ (Eq.trans (bind4 (K:=fun x y z=>(i29 (m+1) y).bind fun r7=>
   bif ((z.length:Int)==0) then(bif ((ByteArray.toList x)==[36,105,100]) then C x y r7 z
   else bif ((ByteArray.toList x)==[36,98,121,116,101,115]) then C x y r7 z
   else bif ((ByteArray.toList x)==[36,116,105,109,101]) then C x y r7 z
   else bif ((ByteArray.toList x)==[36,109,105,110]) then C x y r7 z
   else bif ((ByteArray.toList x)==[36,109,97,120]) then C x y r7 z
   else i35_j3 (m+1) self rec1 lv x (Dt.I y 1) false r7.2 e0 5 0 (ByteArray.mk (List.toArray [])) [] z)
   else i35_j3 (m+1) self rec1 lv x (Dt.I y 1) false r7.2 e0 5 0 (ByteArray.mk (List.toArray [])) [] z) hc) ?_)
 ·rw[i35_j2]
 ·obtain⟨n1,n2,n3,n4,n5⟩:=nm_eqs nm
  have ch:=choose_in (fun w=>i35_j3 (m+1) self rec1 lv nm (Dt.I (RE s k n e o) 1) w (RE s k n e o) e0 5 0 (ByteArray.mk (List.toArray [])) [] a) k
  have ch':C nm (RE s k n e o) (hdB k,RE s k n e o) a=i35_j3 (m+1) self rec1 lv nm (Dt.I (RE s k n e o) 1) (sch k) (RE s k n e o) e0 5 0 (ByteArray.mk (List.toArray [])) [] a:=ch
  simp only[rnext m hk,Option.bind_some,n1,n2,n3,n4,n5,ch',wts]
  cases a with
  |nil=>
   have e:((([]:List Dt).length:Int)==0)=true:=rfl
   rw[e,cond_true,List.isEmpty_nil,Bool.true_and,isSp]
   cases eqb nm nmId<;>cases eqb nm nmBytes<;>cases eqb nm nmTime<;>cases eqb nm nmMin<;>cases eqb nm nmMax<;>rfl
  |cons x r=>
   have e:((((x::r).length:Nat):Int)==0)=false:=by rw[beq_eq_false_iff_ne,List.length_cons];omega
   rw[e,cond_false,List.isEmpty_cons,Bool.false_and,Bool.false_and]
   rfl
theorem robj_lE (m M:Nat) (self:Int→Bool→Dt→Option (Dt×Dt)) {s:ByteArray} {l:List UInt8} {n:Nat} {e o:Int} (he:e=2∨e=4) (lv:Int) (e0:Dt) (a:List Dt):i35_l1 m self (M+1) lv (RE s l n e o) e0 5 0 (ByteArray.mk (List.toArray [])) [] a=some (vDoc a,RE s l n e o):=by
 rw[i35_l1,re_z he,cond_false];rfl
theorem robj_7E (m M:Nat) (self:Int→Bool→Dt→Option (Dt×Dt)) {s:ByteArray} (hs:s.size<1000000000) {l:List UInt8} {n:Nat} {e o:Int} (he:e=2∨e=4) (h:Sf s l) (hm:s.size≤m) (lv b:Int) (e0:Dt) (a:List Dt):
  ∃w l',Sf s l'∧i35_j7 (m+2) self (i35_l1 (m+2) self (M+1)) lv b (RE s l n e o) e0 5 0 (ByteArray.mk (List.toArray [])) [] a=some (w,RE s l' n e o):=by
 have hs':s.size<1000000000000:=by omega
 obtain⟨l1,h1,e1⟩:=rtakeE m hs' (n:=n) (o:=o) he h 44
 have hl1:=sf_len h1
 rw[i35_j7]
 cases (b==125)
 ·refine⟨vDoc a,sBl l1,sf_bl h1,?_⟩
  rw[cond_false,i35_j8,e1,Option.bind_some,rblanks (m+1) hs' h1 (by omega),Option.bind_some,robj_lE (m+2) M self he]
 ·exact⟨vDoc a,l,h,rfl⟩
theorem robj_tE (m M:Nat) (self:Int→Bool→Dt→Option (Dt×Dt)) {s:ByteArray} (hs:s.size<1000000000) {st:Dt} {l:List UInt8} {n:Nat} {e o:Int} (he:e=2∨e=4) (h:Sf s l) (hm:s.size≤m) (lv:Nat) (hlv:lv≤16) (nm:ByteArray) (p:Int) (w:Bool) (v:Dt) (e0:Dt) (a:List Dt) (ha:a.length<100000000000) (hv:self ((lv+1:Nat):Int) (!w) st=some (v,RE s l n e o)):
  ∃x l',Sf s l'∧i35_j3 (m+2) self (i35_l1 (m+2) self (M+1)) (lv:Int) nm p w st e0 5 0 (ByteArray.mk (List.toArray [])) [] a=some (x,RE s l' n e o):=by
 have hs':s.size<1000000000000:=by omega
 have w1:IntKind.wrap .i64 ((lv:Int)+1)=((lv+1:Nat):Int):=wrapS (by omega)
 have hl:=sf_len h
 have ap:app a [Dt.agg [Dt.str nm,v]]=some (a++[Dt.agg [Dt.str nm,v]]):=app_le (by simp;omega)
 obtain⟨x,l',k1,k2⟩:=robj_7E m M self hs (n:=n) (o:=o) he (sf_bl h) hm (lv:Int) (hdB (sBl l)) e0 (a++[Dt.agg [Dt.str nm,v]])
 refine⟨x,l',k1,?_⟩
 rw[i35_j3,w1,hv,Option.bind_some]
 simp only[ap,Option.bind_some,rblanks (m+1) hs' h (show l.length≤m+1 by omega),rnext (m+1) (sf_bl h),re_z he,cond_false,i35_j4,i35_j5,i35_j6,k2]
theorem robj_sl (m:Nat) (self:Int→Bool→Dt→Option (Dt×Dt)) {s:ByteArray} (hs:s.size<1000000000) (lv:Nat) (hlv:lv≤16) (sv:Bool→Nat→List UInt8→Rs (Dt×Nat)) (hsf:RSlf s self (lv+1) sv)
  (hg:∀b n l,n≤1024→match sv b n l with| .er e _=>e=2∨e=4| .ok v l'=>Gv (lv+1) b n l.length v.1 v.2 l'.length) (hti:∀b n l v l',sv b n l= .ok v l'→isTI v.1=sch l) (e0:Dt) (hm:s.size+20000≤m) (hm2:m<10000000000):∀(N M:Nat) (a:List Dt) (n:Nat) (l:List UInt8),N<M→l.length<N→n≤1024→Sf s l→a.length+l.length≤s.size→(∀f∈a,(Dt.S (Dt.fld f 1) 2).size≤4096)→
  RSim (fun _=>True) (fun v:Dt×Nat=>v.1) (fun v=>v.2) s (i35_l1 (m+32) self M (lv:Int) (PQ s l n) e0 5 0 (ByteArray.mk (List.toArray [])) [] a) (sOb sv lv N a n l)
 |0,_,_,_,_,_,h,_,_,_,_=>by omega
 |_+1,0,_,_,_,h,_,_,_,_,_=>by omega
 |_+1,1,_,_,_,h,_,_,_,_,_=>by omega
 |N+    1,M+2,   a,n,l,hM,hN,hn,h,ha,htx=>by
  have hs':s.size<1000000000000:=by omega
  have w1:IntKind.wrap .i64 ((lv:Int)+1)=((lv+1:Nat):Int):=wrapS (by omega)
  have hz:(Dt.I (PQ s l n) 3==0)=true:=rfl
  have hnm:=rname_sim m hs n a (by omega) h (by omega) (by omega)
  have hno:=sNam_ok (a.map fun x=>Dt.S x 0) l
  rw[i35_l1,hz,cond_true,sOb]
  cases hr0:sNam (a.map fun x=>Dt.S x 0) l with
  |er e l'=>
   rw[hr0] at hnm
   obtain⟨p1,p2,nm,l2,n',p4,p5⟩:=hnm
   have he:(e:Int)=2∨(e:Int)=4:=by omega
   obtain⟨x,l3,k1,k2⟩:=robj_tE (m+30) M self hs he p4 (by omega) lv hlv nm ((s.size-l2.length:Nat):Int) (wts a nm l2) kza2373 e0 a (by omega) (hsf.er (!(wts a nm l2)) n' l2 (e:Int) ((s.size-l'.length:Nat):Int) he p4)
   refine⟨p1,p2,x,l3,n',trivial,k1,?_⟩
   rw[robj_j2 (m+31) self _ p4 p5]
   exact k2
  |ok nm  l1=>
   rw[hr0] at hnm hno
   obtain⟨q1,q2⟩:=hnm
   obtain⟨o1,_,_,_⟩:=hno
   rw[robj_j2 (m+31) self _ (o:=0) (e:=0) q1 q2]
   have h1:=hsf.ok (a.isEmpty&&isSp nm) n l1 hn q1
   have h2:=hg (a.isEmpty&&isSp nm) n l1 hn
   have h1':RSim (fun _=>True) (fun v:Dt×Nat=>v.1) (fun v=>v.2) s (self ((lv+1:Nat):Int) (!(wts a nm l1)) (PQ s l1 n)) (sv (a.isEmpty&&isSp nm) n l1):=h1
   simp only[Rs.bd]
   cases hr:sv (a.isEmpty&&isSp nm) n l1 with
   |    er e l'=>
        rw[hr] at h1'
        obtain⟨p1,p2,b,l2,n',_,p4,p5⟩:=h1'
        have he:(e:Int)=2∨(e:Int)=4:=by omega
        obtain⟨x,l3,k1,k2⟩:=robj_tE (m+30) M self hs he p4 (by omega) lv hlv nm ((s.size-l1.length:Nat):Int) (wts a nm l1) b e0 a (by omega) p5
        exact⟨p1,p2,x,l3,n',trivial,k1,k2⟩
   |    ok v l2 =>
        rw[hr] at h1' h2
        obtain⟨p1,p2⟩:=h1'
        have hl2:=h2.ln
        have hn2:=h2.nn
        have hls:=sf_len p1
        have ht1:=hti _ _ _ _ _ hr
        have hw:((a.isEmpty&&isSp nm)&&isTI v.1)=wts a nm l1:=by rw[ht1];rfl
        have ap:app a [Dt.agg [Dt.str nm,v.1]]=some (a++[Dt.agg [Dt.str nm,v.1]]):=app_le (by simp;omega)
        have r1:=sf_bl p1
        have hb:=sBl_len l2
        have htv:=tx_le h2.sn
        have htx':∀f∈a++[Dt.agg [Dt.str nm,v.1]],(Dt.S (Dt.fld f 1) 2).size≤4096:=fun f hf=>by
         rcases List.mem_append.1 hf with hf|hf
         ·exact htx f hf
         ·rw[List.mem_singleton] at hf
          subst hf
          exact htv
        obtain⟨x,hsp1,hsp2⟩:=rspRow_eq (m+30) (a++[Dt.agg [Dt.str nm,v.1]]) (fun f hf=>by have:=htx' f hf;omega) (fun f hf=>by have:=htx' f hf;omega)
        simp only[hw]
        have start:i35_j3 (m+32) self (i35_l1 (m+32) self (M+1)) (lv:Int) nm ((s.size-l1.length:Nat):Int) (wts a nm l1) (RE s l1 n 0 0) e0 5 0 (ByteArray.mk (List.toArray [])) [] a=i35_j4 (m+32) self (i35_l1 (m+32) self (M+1)) (lv:Int) ((s.size-l1.length:Nat):Int) (hdB (sBl l2)) (wts a nm l1) (hdB (sBl l2)==125) (PQ s (sBl l2) v.2) e0 5 0 (ByteArray.mk (List.toArray [])) [] (a++[Dt.agg [Dt.str nm,v.1]]):=by
         have hz:(Dt.I (RE s (sBl l2) v.2 0 0) 3==0)=true:=rfl
         rw[i35_j3,w1,←re_pq,p2,Option.bind_some]
         simp only[ap,Option.bind_some,re_pq,rblanks (m+31) hs' p1 (show l2.length≤m+31 by omega),rnext (m+31) r1,hz,cond_true]
        have start':i35_j3 (m+31+1) self (i35_l1 (m+32) self (M+1)) (lv:Int) nm ((s.size-l1.length:Nat):Int) (wts a nm l1) (RE s l1 n 0 0) e0 5 0 (ByteArray.mk (List.toArray [])) [] a=_:=start
        rw[start']
        have hbg:∀k,i32 (m+32) ((s.size-l1.length:Nat):Int) ((lv+1:Nat):Int) (PQ s k v.2)=some (bif cnt (lv+1) v.2 then RE s k (v.2+1) 2 ((s.size-l1.length:Nat):Int) else PQ s k (v.2+1)):=fun k=>begin_eq (m+30) (lv+1) _ hn2
        have hj7:∀b st,(b==125)=false→i35_j7 (m+32) self (i35_l1 (m+32) self (M+1)) (lv:Int) b st e0 5 0 (ByteArray.mk (List.toArray [])) [] (a++[Dt.agg [Dt.str nm,v.1]])=i35_j8 (m+32) self (i35_l1 (m+32) self (M+1)) (lv:Int) st e0 5 0 (ByteArray.mk (List.toArray [])) [] (a++[Dt.agg [Dt.str nm,v.1]]):=fun b st hb=>by
         rw[i35_j7,hb,cond_false]
        have hz2:∀k k2,(Dt.I (PQ s k k2) 3==0)=true:=fun _ _=>rfl
        have bad:(∀c t,sBl l2=c::t→c.toNat≠125∧c.toNat≠44)→RSim (fun _=>True) (fun v:Dt×Nat=>v.1) (fun v=>v.2) s (i35_j4 (m+32) self (i35_l1 (m+32) self (M+1)) (lv:Int) ((s.size-l1.length:Nat):Int) (hdB (sBl l2)) (wts a nm l1) (hdB (sBl l2)==125) (PQ s (sBl l2) v.2) e0 5 0 (ByteArray.mk (List.toArray [])) [] (a++[Dt.agg [Dt.str nm,v.1]])) (.er 4 (sBl l2)):=fun hc=>by
         have e125:(hdB (sBl l2)==125)=false:=by
          rw[show ((125:Int))=((125:Nat):Int) from rfl,hd_eq 125 (by omega)]
          cases hq:sBl l2 with
          |nil=>rfl
          |cons c t=>exact decide_eq_false (hc c t hq).1
         have e44:(hdB (sBl l2)==44)=false:=by
          rw[show ((44:Int))=((44:Nat):Int) from rfl,hd_eq 44 (by omega)]
          cases hq:sBl l2 with
          |nil=>rfl
          |cons c t=>exact decide_eq_false (hc c t hq).2
         refine⟨.inr rfl,r1,vDoc (a++[Dt.agg [Dt.str nm,v.1]]),sBl (sBl l2),v.2,trivial,sf_bl r1,?_⟩
         rw[e125,i35_j4,cond_false,i35_j5,hz2,cond_true,e125,cond_false,e44]
         have hj6:(bif wts a nm l1 then i35_j6 (m+32) self (i35_l1 (m+32) self (M+1)) (lv:Int) ((s.size-l1.length:Nat):Int) (hdB (sBl l2)) false (PQ s (sBl l2) v.2) e0 5 0 (ByteArray.mk (List.toArray [])) [] (a++[Dt.agg [Dt.str nm,v.1]]) else i35_j6 (m+32) self (i35_l1 (m+32) self (M+1)) (lv:Int) ((s.size-l1.length:Nat):Int) (hdB (sBl l2)) false (PQ s (sBl l2) v.2) e0 5 0 (ByteArray.mk (List.toArray [])) [] (a++[Dt.agg [Dt.str nm,v.1]]))=i35_j8 (m+32) self (i35_l1 (m+32) self (M+1)) (lv:Int) (PQ s (sBl l2) v.2) e0 5 0 (ByteArray.mk (List.toArray [])) [] (a++[Dt.agg [Dt.str nm,v.1]]):=by
          cases wts a nm l1<;>rw[i35_j6,cond_false,hj7 _ _ e125]<;>rfl
         rw[hj6,i35_j8,rtake_no (m+30) r1 44 (fun c r hcr=>by have:=(hc c r hcr).2;omega),Option.bind_some,rblanks (m+31) hs' r1 (by omega),Option.bind_some,robj_lE (m+32) M self (.inr rfl)]
         rfl
        cases hbl:sBl l2 with
        |nil=>
         rw[hbl] at bad
         exact bad fun c t h=>by cases h
        |cons c t=>
         rw[hbl] at bad r1 hb
         rw[List.length_cons] at hb
         have ht:=sBl_len t
         by_cases hc:c.toNat=125∨c.toNat=44
         ·simp only[]
          rw[if_pos hc]
          by_cases h125:c.toNat=125
          ·have e125:(hdB (c::t)==125)=true:=by show ((c.toNat:Int)==125)=true;exact bqt (k:=125) h125
           rw[e125,i35_j4,cond_true,hsp1,Option.bind_some,decide_eq_true h125,Bool.true_and]
           simp only[re_pq,adR r1 hs']
           cases hsc:spc (a++[Dt.agg [Dt.str nm,v.1]])
           ·    have hj7':∀st,i35_j7 (m+32) self (i35_l1 (m+32) self (M+1)) (lv:Int) (hdB (c::t)) st e0 5 0 (ByteArray.mk (List.toArray [])) [] (a++[Dt.agg [Dt.str nm,v.1]])=some (vDoc (a++[Dt.agg [Dt.str nm,v.1]]),st):=fun st=>by
                 rw[i35_j7,e125,cond_true];rfl
                have hz3:(Dt.I (RE s t v.2 0 0) 3==0)=true:=rfl
                rw[cond_false,cond_false,i35_j5,hz3,cond_true]
                cases wts a nm l1
                ·rw[cond_false,cond_false,if_pos h125,i35_j6,cond_false,hj7']
                 exact⟨sf_tail r1,rfl⟩
                ·rw[cond_true,cond_true,e125,cond_true,i35_j6,cond_true,w1,←re_pq,hbg,Option.bind_some]
                 cases cnt (lv+1) v.2
                 ·rw[cond_false,cond_false,if_pos h125,hj7']
                  exact⟨sf_tail r1,rfl⟩
                 ·rw[cond_true,cond_true,hj7']
                  exact⟨.inl rfl,q1,_,t,_,trivial,sf_tail r1,rfl⟩
           ·    have ha0:a=[]:=by
                 match a,hsc with
                 | [],_=>rfl
                 | [x],h=>cases h
                 |x::y::r,h=>cases h
                subst ha0
                have hx:=hsp2 _ rfl hsc
                subst hx
                rw[cond_true,cond_true]
                exact⟨sf_tail r1,rfl⟩
          ·have h44:c.toNat=44:=by omega
           have e125:(hdB (c::t)==125)=false:=by show ((c.toNat:Int)==125)=false;exact bqf (k:=125) h125
           have e44:(hdB (c::t)==44)=true:=by show ((c.toNat:Int)==44)=true;exact bqt (k:=44) h44
           have next:∀n',n'≤1024→RSim (fun _=>True) (fun v:Dt×Nat=>v.1) (fun v=>v.2) s (i35_j8 (m+32) self (i35_l1 (m+32) self (M+1)) (lv:Int) (PQ s (c::t) n') e0 5 0 (ByteArray.mk (List.toArray [])) [] (a++[Dt.agg [Dt.str nm,v.1]])) (sOb sv lv N (a++[Dt.agg [Dt.str nm,v.1]]) n' (sBl t)):=fun n' hn'=>by
                rw[i35_j8,re_pq,rtake_ok (m+31) hs' r1 44 (by omega),Option.bind_some,rblanks (m+31) hs' (sf_tail r1) (by omega),Option.bind_some]
                exact robj_sl m self hs lv hlv sv hsf hg hti e0 hm hm2 N (M+1) _ n' (sBl t) (by omega) (by omega) hn' (sf_bl (sf_tail r1)) (by simp;omega) htx'
           rw[e125,i35_j4,cond_false,decide_eq_false h125,Bool.false_and,cond_false,i35_j5,hz2,cond_true]
           cases wts a nm l1
           ·    rw[cond_false,cond_false,if_neg h125,i35_j6,cond_false,hj7 _ _ e125]
                exact next v.2 hn2
           ·    rw[cond_true,cond_true,e125,cond_false,e44,i35_j6,cond_true,w1,hbg,Option.bind_some]
                cases hct:cnt (lv+1) v.2
                ·rw[cond_false,cond_false,if_neg h125,hj7 _ _ e125]
                 refine next (v.2+1) ?_
                 unfold cnt at hct
                 have:¬16<lv+1∧¬v.2=1024:=by simpa using hct
                 omega
                ·rw[cond_true,cond_true]
                 obtain⟨x,l3,k1,k2⟩:=robj_7E (m+30) M self hs (n:=v.2+1) (o:=((s.size-l1.length:Nat):Int)) (.inl rfl) r1 (by omega) (lv:Int) (hdB (c::t)) e0 (a++[Dt.agg [Dt.str nm,v.1]])
                 exact⟨.inl rfl,q1,x,l3,_,trivial,k1,k2⟩
         ·simp only[]
          rw[if_neg hc]
          exact bad fun c' t' h=>by
           injection h with h _
           subst h
           omega
end Go.Proofs.YtmejbpmceflcjaaGreatDoor
namespace Go.Proofs.YtmejbpmceflcjaaGreatDoor
open Go.Am
theorem isTI_spV (f:Dt):isTI (spV f)=false:=by
 unfold spV
 cases eqb (Dt.S f 0) nmId
 ·cases eqb (Dt.S f 0) nmBytes
  ·cases eqb (Dt.S f 0) nmTime
   ·cases eqb (Dt.S f 0) nmMin<;>rfl
   ·rfl
  ·rfl
 ·rfl
theorem sLs_ti (sv:Nat→List UInt8→Rs (Dt×Nat)):∀(M:Nat) (a:List Dt) (n:Nat) (l:List UInt8) (v:Dt×Nat) (l':List UInt8),sLs sv M a n l= .ok v l'→isTI v.1=false
 |0,_,_,_,_,_,h=>by cases h
 |M+    1,a,n,l,v,l',h=>by
  rw[sLs] at h
  cases hr:sv n l with
  |er e l1=>rw[hr] at h;cases h
  |ok u l1=>
   rw[hr] at h
   dsimp only[Rs.bd] at h
   cases hb:sBl l1 with
   |nil=>rw[hb] at h;cases h
   |    cons c t=>
        rw[hb] at h
        dsimp only at h
        by_cases h93:c.toNat=93
        ·rw[if_pos h93] at h;cases h;rfl
        ·rw[if_neg h93] at h
         by_cases h44:c.toNat=44
         ·rw[if_pos h44] at h;exact sLs_ti sv M _ _ _ _ _ h
         ·rw[if_neg h44] at h;cases h
theorem sOb_ti (sv:Bool→Nat→List UInt8→Rs (Dt×Nat)) (lv:Nat):∀(M:Nat) (a:List Dt) (n:Nat) (l:List UInt8) (v:Dt×Nat) (l':List UInt8),sOb sv lv M a n l= .ok v l'→isTI v.1=false
 |0,_,_,_,_,_,h=>by cases h
 |M+    1,a,n,l,v,l',h=>by
  rw[sOb] at h
  cases h0:sNam (a.map fun x=>Dt.S x 0) l with
  |er e l1=>rw[h0] at h;cases h
  |ok nm  l1=>
   rw[h0] at h
   dsimp only[Rs.bd] at h
   cases hr:sv (a.isEmpty&&isSp nm) n l1 with
   |er e l2=>rw[hr] at h;cases h
   |    ok u l2 =>
        rw[hr] at h
        dsimp only at h
        cases hb:sBl l2 with
        |nil=>rw[hb] at h;cases h
        |cons c t=>
         rw[hb] at h
         dsimp only at h
         by_cases hc:c.toNat=125∨c.toNat=44
         ·rw[   if_pos hc] at h
          cases hs:decide (c.toNat=125)&&spc (a++[Dt.agg [Dt.str nm,u.1]])
          · rw[  hs,cond_false] at h
            cases hw:(a.isEmpty&&isSp nm)&&isTI u.1
            ·   rw[hw,cond_false] at h
                by_cases h125:c.toNat=125
                ·rw[if_pos h125] at h;cases h;rfl
                ·rw[if_neg h125] at h;exact sOb_ti sv lv M _ _ _ _ _ h
            ·   rw[hw,cond_true] at h
                cases hk:cnt (lv+1) u.2
                ·rw[hk,cond_false] at h
                 by_cases h125:c.toNat=125
                 ·rw[if_pos h125] at h;cases h;rfl
                 ·rw[if_neg h125] at h;exact sOb_ti sv lv M _ _ _ _ _ h
                ·rw[hk,cond_true] at h;cases h
          ·rw[hs,cond_true] at h;cases h;exact isTI_spV _
         ·rw[if_neg hc] at h;cases h
theorem bd_ti {α:Type} (r:Rs α) (g:α→Dt×Nat) (b:Bool) (hg:∀a,isTI (g a).1=b) {v:Dt×Nat} {l':List UInt8} (h:(r.bd fun a k=> .ok (g a) k)= .ok v l'):isTI v.1=b:=by
 cases r with
 |er e l=>cases h
 |ok a l=>cases h;exact hg a
theorem sVal_ti:∀(N lv:Nat) (late:Bool) (n:Nat) (l:List UInt8) (v:Dt×Nat) (l':List UInt8),sVal N lv late n l= .ok v l'→isTI v.1=sch l
 |0,_,_,_,_,_,_,h=>by cases h
 |_+1,_,_,_,[],_,_,h=>by cases h
 |N+    1,lv,late,n,c::t,v,l',h=>by
  rw[sVal] at h
  show isTI v.1=(isD c||(decide (c.toNat=45)||decide (c.toNat=34)))
  cases hd:isD c||(decide (c.toNat=45)||decide (c.toNat=34))
  ·rw[   hd,cond_false] at h
   by_cases ho:c.toNat=91∨c.toNat=123∨c.toNat=110∨c.toNat=116∨c.toNat=102
   ·    rw[if_pos ho] at h
        cases hk:cnt lv n
        ·rw[hk,cond_false] at h
         by_cases h91:c.toNat=91
         · rw[if_pos h91] at h
           cases hb:sBl t with
           |nil=>rw[hb] at h;cases h
           |cons x k=>
            rw[hb] at h
            dsimp only at h
            by_cases h93:x.toNat=93
            ·rw[if_pos h93] at h;cases h;rfl
            ·rw[if_neg h93] at h;exact sLs_ti _ _ _ _ _ _ _ h
         rw[if_neg h91] at h
         by_cases h123:c.toNat=123
         · rw[if_pos h123] at h
           cases hb:sBl t with
           |nil=>rw[hb] at h;cases h
           |cons x k=>
            rw[hb] at h
            dsimp only at h
            by_cases h125:x.toNat=125
            ·rw[if_pos h125] at h;cases h;rfl
            ·rw[if_neg h125] at h;exact sOb_ti _ _ _ _ _ _ _ _ h
         rw[if_neg h123] at h
         by_cases h110:c.toNat=110
         ·rw[if_pos h110] at h;exact bd_ti _ (fun _=>(vK 2 0,n+1)) false (fun _=>rfl) h
         rw[if_neg h110] at h
         by_cases h116:c.toNat=116
         ·rw[if_pos h116] at h;exact bd_ti _ (fun _=>(vK 9 1,n+1)) false (fun _=>rfl) h
         rw[if_neg h116] at h
         exact bd_ti _ (fun _=>(vK 9 0,n+1)) false (fun _=>rfl) h
        ·rw[hk,cond_true] at h;cases h
   ·rw[if_neg ho] at h;cases h
  ·rw[hd,cond_true] at h
   cases hk:!late&&cnt lv n
   ·    rw[hk,cond_false] at h
        by_cases h34:c.toNat=34
        ·rw[if_pos h34] at h;exact bd_ti _ (fun a=>(vText a,bif late then n else n+1)) true (fun _=>rfl) h
        ·rw[if_neg h34] at h;exact bd_ti _ (fun a=>(vInt a,bif late then n else n+1)) true (fun _=>rfl) h
   ·rw[hk,cond_true] at h;cases h
end Go.Proofs.YtmejbpmceflcjaaGreatDoor
namespace Go.Proofs.YtmejbpmceflcjaaGreatDoor
open Go.Am
theorem robj_sim (m:Nat) {s:ByteArray} (hs:s.size<1000000000) (lv:Nat) (hlv:lv≤16) (sv:Bool→Nat→List UInt8→Rs (Dt×Nat)) (hsf:RSlf s (i28 (m+32)) (lv+1) sv)
  (hg:∀b n l,n≤1024→match sv b n l with| .er e _=>e=2∨e=4| .ok v l'=>Gv (lv+1) b n l.length v.1 v.2 l'.length) (hti:∀b n l v l',sv b n l= .ok v l'→isTI v.1=sch l) (n:Nat) (hn:n≤1024) (c:UInt8) (t:List UInt8) (h:Sf s (c::t)) (hc:c.toNat=123) (hm:s.size+20000≤m) (hm2:m<10000000000):
  RSim (fun _=>True) (fun v:Dt×Nat=>v.1) (fun v=>v.2) s (i35 (m+33) (lv:Int) (PQ s (c::t) n)) (match sBl t with| []=> .er 4 []|x::k=>if x.toNat=125 then .ok (vDoc [],n) k else sOb sv lv (t.length+1) [] n (x::k)):=by
 have hs':s.size<1000000000000:=by omega
 have q0:=sf_tail h
 have q1:=sf_bl q0
 have hb:=sBl_len t
 have hls:=sf_len h
 rw[List.length_cons] at hls
 rw[i35,re_pq,rtake_ok (m+31) hs' h 123 (by omega),Option.bind_some,rblanks (m+31) hs' q0 (by omega),Option.bind_some,rnext (m+31) q1,Option.bind_some]
 have loop:∀k,Sf s k→k.length≤t.length→RSim (fun _=>True) (fun v:Dt×Nat=>v.1) (fun v=>v.2) s (i35_l1 (m+32) (i28 (m+32)) (m+33) (lv:Int) (PQ s k n) kza2373 5 0 (ByteArray.mk (List.toArray [])) [] []) (sOb sv lv (t.length+1) [] n k):=fun k hk hkl=>
  robj_sl m (i28 (m+32)) hs lv hlv sv hsf hg hti _ hm hm2 (t.length+1) (m+33) [] n k (by omega) (by omega) hn hk (by simp;omega) (fun f hf=>by cases hf)
 cases hbl:sBl t with
 |nil=>
  rw[hbl] at q1
  have:=loop [] q1 (by simp)
  rw[sOb] at this
  exact this
 |cons x k=>
  rw[hbl] at q1 hb
  by_cases h125:x.toNat=125
  ·have e1:(hdB (x::k)==125)=true:=by show ((x.toNat:Int)==125)=true;exact bqt (k:=125) h125
   simp only[e1,cond_true,adR q1 hs']
   rw[if_pos h125]
   exact⟨sf_tail q1,rfl⟩
  ·have e1:(hdB (x::k)==125)=false:=by show ((x.toNat:Int)==125)=false;exact bqf (k:=125) h125
   simp only[e1,cond_false]
   rw[if_neg h125]
   exact loop (x::k) q1 hb
theorem rs_id {β:Type} {f:β→Dt} {k:β→Nat} {s:ByteArray} {x:Option (Dt×Dt)} {r:Rs β} (h:RSim (fun _=>True) f k s x r):RSim (fun _=>True) f k s (x.bind fun r=>some (r.1,r.2)) r:=by
 have e:(x.bind fun r=>some (r.1,r.2))=x:=by cases x<;>rfl
 rw[e];exact h
theorem rv_j2E (m:Nat) (L O:Int→Dt→Option (Dt×Dt)) {s:ByteArray} {l:List UInt8} {n:Nat} {e o:Int} (he:e=2∨e=4) (lv:Int) (x:Dt):i28_j2 m L O lv (RE s l n e o) x=some (kza2373,RE s l n e o):=by
 rcases he with rfl|rfl<;>rfl
theorem rv_j0E (m:Nat) (L O:Int→Dt→Option (Dt×Dt)) {s:ByteArray} {l:List UInt8} {n:Nat} {e o:Int} (he:e=2∨e=4) (lv:Int) (b:Bool) (x:Dt):i28_j0 m L O lv b (RE s l n e o) x=some (kza2373,RE s l n e o):=by
 cases b
 ·rw[i28_j0,cond_false,i28_j1,cond_false,rv_j2E m L O he]
 ·rw[i28_j0,cond_true,re_z he,i28_j1,cond_false,rv_j2E m L O he]
theorem rv_cnt (m:Nat) (L O:Int→Dt→Option (Dt×Dt)) {s:ByteArray} {l:List UInt8} {n:Nat} (h:Sf s l) (lv:Nat) (hn:n≤1024) (x:Dt) (r:Rs (Dt×Nat)) (hr:cnt lv n=false→RSim (fun _=>True) (fun v:Dt×Nat=>v.1) (fun v=>v.2) s (i28_j2 (m+2) L O (lv:Int) (PQ s l (n+1)) x) r):
  RSim (fun _=>True) (fun v:Dt×Nat=>v.1) (fun v=>v.2) s (i28_j0 (m+2) L O (lv:Int) true (PQ s l n) x) (bif cnt lv n then .er 2 l else r):=by
 have hz:(Dt.I (PQ s l n) 3==0)=true:=rfl
 rw[i28_j0,cond_true,hz,i28_j1,cond_true,begin_eq m lv _ hn,Option.bind_some]
 cases hk:cnt lv n
 ·exact hr hk
 ·rw[cond_true,cond_true,rv_j2E (m+2) L O (.inl rfl)]
  exact⟨.inl rfl,h,kza2373,l,n+1,trivial,h,rfl⟩
theorem rval_sim:∀(N lv:Nat) (late:Bool) (n:Nat) (l:List UInt8) (s:ByteArray) (m:Nat),18≤N+lv→lv≤17→n≤1024→s.size<1000000000→Sf s l→s.size+30000+60*N≤m→m<10000000000→
  RSim (fun _=>True) (fun v:Dt×Nat=>v.1) (fun v=>v.2) s (i28 m (lv:Int) (!(late&&sch l)) (PQ s l n)) (sVal N lv late n l)
 |0,_,_,_,_,_,_,h,h2,_,_,_,_,_=>by omega
 |N+1,lv,late,n,[],s,m,hN,hlv,hn,hs,h,hm,hm2=>by
  obtain⟨m,rfl⟩:∃q,m=q+60:=⟨m-60,by omega⟩
  rw[i28,re_pq,rnext (m+58) h,Option.bind_some,opens_eq (m+58),Option.bind_some]
  refine⟨.inr rfl,h,kza2373,[],n,trivial,h,?_⟩
  show (bif true then _ else _)=_
  rw[cond_true,←re_pq,rfail0,Option.bind_some,rv_j0E _ _ _ (.inr rfl)]
  rfl
 |N+    1,lv,late,n,c::t,s,m,hN,hlv,hn,hs,h,hm,hm2=>by
  obtain⟨m,rfl⟩:∃q,m=q+60:=⟨m-60,by omega⟩
  have hs':s.size<1000000000000:=by omega
  have hls:=sf_len h
  rw[List.length_cons] at hls
  have e91:(hdB (c::t)==91)=decide (c.toNat=91):=hd_eq (l:=c::t) 91 (by omega)
  have e123:(hdB (c::t)==123)=decide (c.toNat=123):=hd_eq (l:=c::t) 123 (by omega)
  have hcn:cnt lv n=false→lv≤16∧n<1024:=fun h=>by
   unfold cnt at h
   have:¬16<lv∧¬n=1024:=by simpa using h
   omega
  have hz2:∀n',(Dt.I (PQ s (c::t) n') 3 !=0)=false:=fun _=>rfl
  rw[i28,re_pq,rnext (m+58) h,Option.bind_some,opens_eq (m+58),Option.bind_some,←re_pq,sVal]
  show RSim _ _ _ s (bif Bool.not (sch (c::t)||decide (c.toNat=91∨c.toNat=123∨c.toNat=110∨c.toNat=116∨c.toNat=102)) then _ else _) _
  cases hd:isD c||(decide (c.toNat=45)||decide (c.toNat=34))
  ·have hc1:sch (c::t)=false:=hd
   rw[hc1,Bool.false_or,Bool.and_false,Bool.not_false,cond_false]
   by_cases ho:c.toNat=91∨c.toNat=123∨c.toNat=110∨c.toNat=116∨c.toNat=102
   ·    rw[decide_eq_true ho,Bool.not_true,cond_false,if_pos ho]
        refine rv_cnt (m+57) _ _ h lv hn _ _ fun hcc=>?_
        obtain⟨hlv6,hn4⟩:=hcn hcc
        have hsf:∀m',s.size+30000+60*N≤m'→m'<10000000000→RSlf s (i28 m') (lv+1) (fun b n l=>sVal N (lv+1) b n l):=fun m' hm' hm2'=>⟨fun b n l hn h=>rval_sim N (lv+1) b n l s m' (by omega) (by omega) hn hs h hm' hm2',fun b n l e o he h=>by
         obtain⟨m'',rfl⟩:∃q,m'=q+3:=⟨m'-3,by omega⟩
         exact rvalE m'' he h _ b⟩
        have hg:∀b n l,n≤1024→match sVal N (lv+1) b n l with| .er e _=>e=2∨e=4| .ok v l'=>Gv (lv+1) b n l.length v.1 v.2 l'.length:=fun b n l hn=>gv_main N (lv+1) b n l (by omega) (by omega) hn
        obtain⟨N',rfl⟩:∃q,N=q+1:=⟨N-1,by omega⟩
        rw[i28_j2,hz2,cond_false,i28_j3,re_pq,rnext (m+58) h,Option.bind_some,←re_pq]
        simp only[e91,e123]
        by_cases h91:c.toNat=91
        ·rw[decide_eq_true h91,cond_true,if_pos h91]
         have h1:=rlist_sim (m+56) hs lv hlv6 (fun b n l=>sVal (N'+1) (lv+1) b n l) (hsf (m+56+2) (by omega) (by omega)) (fun n l hn=>hg false n l hn) (n+1) (by omega) (fun _=>rfl) c t h h91 (by omega)
         exact rs_id h1
        rw[decide_eq_false h91,cond_false,if_neg h91]
        by_cases h123:c.toNat=123
        ·rw[decide_eq_true h123,cond_true,if_pos h123]
         have h1:=robj_sim (m+26) hs lv hlv6 (fun b n l=>sVal (N'+1) (lv+1) b n l) (hsf (m+26+32) (by omega) (by omega)) hg (fun b n l v l' h=>sVal_ti _ _ _ _ _ _ _ h) (n+1) (by omega) c t h h123 (by omega) (by omega)
         exact rs_id h1
        rw[decide_eq_false h123,cond_false,if_neg h123,i28_j4]
        have h1:=rscalar_sim (m+27) hs (n+1) h (by omega) (by omega)
        by_cases h110:c.toNat=110
        ·rw[if_pos h110] at h1 ⊢
         exact rs_id h1
        rw[if_neg h110] at h1 ⊢
        by_cases h116:c.toNat=116
        ·rw[if_pos h116] at h1 ⊢
         exact rs_id h1
        rw[if_neg h116] at h1 ⊢
        rw[if_pos (show c.toNat=102 by omega)] at h1
        exact rs_id h1
   ·    rw[decide_eq_false ho,Bool.not_false,cond_true,if_neg ho,rfail0,Option.bind_some,rv_j0E _ _ _ (.inr rfl)]
        exact⟨.inr rfl,h,kza2373,c::t,n,trivial,h,rfl⟩
  ·have hc1:sch (c::t)=true:=hd
   rw[hc1,Bool.true_or,Bool.not_true,cond_false,Bool.and_true,cond_true]
   have hcc:c.toNat=45∨(48≤c.toNat∧c.toNat≤57)∨c.toNat=34:=by
        rcases Bool.or_eq_true_iff.1 hd with hd|hd
        ·exact .inr (.inl (isD_i.1 hd))
        ·rcases Bool.or_eq_true_iff.1 hd with hd|hd
         ·exact .inl (of_decide_eq_true hd)
         ·exact .inr (.inr (of_decide_eq_true hd))
   have fin:∀n',n'=(bif late then n else n+1)→RSim (fun _=>True) (fun v:Dt×Nat=>v.1) (fun v=>v.2) s (i28_j2 (m+59) (i33 (m+59)) (i35 (m+59)) (lv:Int) (PQ s (c::t) n') kza2373) (if c.toNat=34 then(sTxt (c::t)).bd fun a r=> .ok (vText a,bif late then n else n+1) r else(sInt (c::t)).bd fun a r=> .ok (vInt a,bif late then n else n+1) r):=fun n' hn'=>by
        have h1:=rscalar_sim (m+27) hs n' h (by omega) (by omega)
        rw[if_neg (show ¬c.toNat=110 by omega),if_neg (show ¬c.toNat=116 by omega),if_neg (show ¬c.toNat=102 by omega)] at h1
        rw[←hn',i28_j2,hz2,cond_false,i28_j3,re_pq,rnext (m+58) h,Option.bind_some,←re_pq]
        simp only[e91,e123]
        rw[decide_eq_false (show ¬c.toNat=91 by omega),cond_false,decide_eq_false (show ¬c.toNat=123 by omega),cond_false,i28_j4]
        exact rs_id h1
   cases late
   ·    rw[Bool.not_false,Bool.true_and]
        exact rv_cnt (m+57) _ _ h lv hn _ _ fun _=>fin (n+1) rfl
   ·    rw[Bool.not_true,Bool.false_and,cond_false,i28_j0,cond_false,i28_j1,cond_false]
        exact fin n rfl
theorem rparse_sim (m:Nat) (s:ByteArray) (hs:s.size<1000000000) (hm:s.size+40000≤m) (hm2:m<9000000000):ref05_Parse (m+3) s=some (match sParse s.data.toList with| .er e l=>(kza2373,((s.size-l.length:Nat):Int),(e:Int))| .ok v _=>(v,0,0)):=by
 have hs':s.size<1000000000000:=by omega
 have h0:=sf_all s
 have e0:RE s s.data.toList 0 0 0=Dt.agg [Dt.str s,Dt.int 0,Dt.int 0,Dt.int 0,Dt.int 0]:=by
  show Q s (s.size-s.data.toList.length) 0=_
  rw[lenB,Nat.sub_self];rfl
 have hb:=rblanks (m+1) hs' (n:=0) (e:=0) (o:=0) h0 (by rw[lenB];omega)
 rw[e0] at hb
 have h1:=sf_bl h0
 have hv:=rval_sim 20 1 false 0 (sBl s.data.toList) s (m+2) (by omega) (by omega) (by omega) hs h1 (by omega) (by omega)
 have hv':RSim (fun _=>True) (fun v:Dt×Nat=>v.1) (fun v=>v.2) s (i28 (m+2) 1 true (RE s (sBl s.data.toList) 0 0 0)) (sVal 20 1 false 0 (sBl s.data.toList)):=hv
 rw[ref05_Parse,hb,Option.bind_some]
 unfold sParse
 cases hr:sVal 20 1 false 0 (sBl s.data.toList) with
 |er e l=>
  rw[hr] at hv'
  obtain⟨p1,p2,a,l',n',_,p4,p5⟩:=hv'
  have hl:=sf_len p4
  have he:(e:Int)=2∨(e:Int)=4:=by omega
  rw[p5,Option.bind_some,rblanks (m+1) hs' p4 (by omega),Option.bind_some,re_z he,cond_false]
  rcases p1 with rfl|rfl<;>rfl
 |ok v l=>
  rw[hr] at hv'
  obtain⟨p1,p2⟩:=hv'
  have hl:=sf_len p1
  have q1:=sf_bl p1
  have hz:∀k,(Dt.I (RE s k v.2 0 0) 3==0)=true:=fun _=>rfl
  rw[p2,Option.bind_some,re_pq,rblanks (m+1) hs' p1 (by omega),Option.bind_some,hz,cond_true]
  simp only[Rs.bd]
  cases hbl:sBl l with
  |nil=>
   rw[show decide (Dt.I (RE s [] v.2 0 0) 1<(ByteArray.size s:Int))=false from re_end (n:=v.2) (e:=0) (o:=0)]
   rfl
  |cons c t=>
   rw[hbl] at q1
   rw[show decide (Dt.I (RE s (c::t) v.2 0 0) 1<(ByteArray.size s:Int))=true from re_lt q1,ref05_Parse_j0,cond_true,←re_pq,rfail0,Option.bind_some]
   rfl
end Go.Proofs.YtmejbpmceflcjaaGreatDoor
