/- The reference's parser reads as the plain one: bytes, blanks, code points, strings.
The reference's parser reads as the plain one:texts,words,integers.
The reference's parser reads as the plain one:scalars,the beginning of a value.
The reference's parser reads as the plain one:lists. -/
import Derived.Test.YtmejbpmceflcjaaGreatDoorNH
import Derived.KernelRfl
import Derived.Test.YtmejbpmceflcjaaGreatDoorND
import Derived.Test.YtmejbpmceflcjaaGreatDoorMC
set_option linter.unusedVariables false
set_option linter.unusedSimpArgs false
namespace Go.Proofs.YtmejbpmceflcjaaGreatDoor
open Go.Am
abbrev RE (s:ByteArray) (l:List UInt8) (n:Nat) (e o:Int):Dt:=QE s (s.size-l.length) n e o
theorem re_pq (s:ByteArray) (l:List UInt8) (n:Nat):PQ s l n=RE s l n 0 0:=rfl
def RSim {α β:Type} (P:α→Prop) (f:β→α) (k:β→Nat) (s:ByteArray) (x:Option (α×Dt)):Rs β→Prop
 | .er e l=>(e=2∨e=4)∧Sf s l∧∃a l' n,P a∧Sf s l'∧x=some (a,RE s l' n (e:Int) ((s.size-l.length:Nat):Int))
 | .ok b l=>Sf s l∧x=some (f b,PQ s l (k b))
theorem adR {s:ByteArray} {c:UInt8} {r:List UInt8} {n:Nat} {e o:Int} (h:Sf s (c::r)) (hs:s.size<1000000000000):Dt.agg [Dt.str (Dt.S (RE s (c::r) n e o) 0),Dt.int (IntKind.wrap .i64 (Dt.I (RE s (c::r) n e o) 1+1)),Dt.int (Dt.I (RE s (c::r) n e o) 2),Dt.int (Dt.I (RE s (c::r) n e o) 3),Dt.int (Dt.I (RE s (c::r) n e o) 4)]=RE s r n e o:=by
 show Dt.agg [Dt.str s,Dt.int (IntKind.wrap .i64 (((s.size-(c::r).length:Nat):Int)+1)),Dt.int (n:Int),Dt.int e,Dt.int o]=_
 rw[wrapS (by omega),sf_lt h]
def hdB:List UInt8→Int
 | []=>0
 |c::_=>(c.toNat:Int)
theorem re_lt {s:ByteArray} {c:UInt8} {r:List UInt8} {n:Nat} {e o:Int} (h:Sf s (c::r)):decide (Dt.I (RE s (c::r) n e o) 1<((ByteArray.size (Dt.S (RE s (c::r) n e o) 0):Nat):Int))=true:=by
 have:=sf_len h
 rw[List.length_cons] at this
 refine decide_eq_true ?_
 show ((s.size-(c::r).length:Nat):Int)<(s.size:Int)
 rw[List.length_cons];omega
theorem re_end {s:ByteArray} {n:Nat} {e o:Int}:decide (Dt.I (RE s [] n e o) 1<((ByteArray.size (Dt.S (RE s [] n e o) 0):Nat):Int))=false:=by
 refine decide_eq_false ?_
 show ¬((s.size-([]:List UInt8).length:Nat):Int)<(s.size:Int)
 simp
theorem re_ge {s:ByteArray} {c:UInt8} {r:List UInt8} {n:Nat} {e o:Int} (h:Sf s (c::r)):decide (((ByteArray.size (Dt.S (RE s (c::r) n e o) 0):Nat):Int)≤Dt.I (RE s (c::r) n e o) 1)=false:=by
 have:=sf_len h
 rw[List.length_cons] at this
 refine decide_eq_false ?_
 show ¬(s.size:Int)≤((s.size-(c::r).length:Nat):Int)
 rw[List.length_cons];omega
theorem re_ge0 {s:ByteArray} {n:Nat} {e o:Int}:decide (((ByteArray.size (Dt.S (RE s [] n e o) 0):Nat):Int)≤Dt.I (RE s [] n e o) 1)=true:=by
 refine decide_eq_true ?_
 show (s.size:Int)≤((s.size-([]:List UInt8).length:Nat):Int)
 simp
theorem re_at {s:ByteArray} {c:UInt8} {r:List UInt8} {n:Nat} {e o:Int} (h:Sf s (c::r)):idxS (Dt.S (RE s (c::r) n e o) 0) (Dt.I (RE s (c::r) n e o) 1)=some (c.toNat:Int):=by
 obtain⟨hi,h1,_⟩:=dr_cons (sf_drop h)
 have:=idxS_lt hi
 rw[h1] at this
 exact this
theorem rnext (m:Nat) {s:ByteArray} {l:List UInt8} {n:Nat} {e o:Int} (h:Sf s l):i29 (m+1) (RE s l n e o)=some (hdB l,RE s l n e o):=by
 cases l with
 |nil=>rw[i29,re_end];rfl
 |cons c r=>rw[i29,re_lt h,cond_true,re_at h];rfl
theorem rfail0 (m:Nat) {s:ByteArray} {l:List UInt8} {n:Nat} (k a:Int):i31 (m+1) k a (PQ s l n)=some (RE s l n k a):=rfl
theorem rfailE (m:Nat) {s:ByteArray} {l:List UInt8} {n:Nat} {e o:Int} (he:e=2∨e=4) (k a:Int):i31 (m+1) k a (RE s l n e o)=some (RE s l n e o):=by
 rcases he with rfl|rfl<;>rfl
theorem rblanks_l (m:Nat) {s:ByteArray} (hs:s.size<1000000000000) (n:Nat) (e o:Int):∀(l:List UInt8) (M:Nat),Sf s l→l.length<M→i27_l0 m M (RE s l n e o)=some (RE s (sBl l) n e o)
 |_,0,_,h=>by omega
 | [],M+1,h,_=>by
   rw[i27_l0,re_end,cond_false];rfl
 | c::r,M+1,h,hM=>by
   rw[List.length_cons] at hM
   have ih:=rblanks_l m hs n e o r M (sf_tail h) (by omega)
   have hj:i27_j1 m (i27_l0 m M) (RE s (c::r) n e o)=some (RE s (sBl r) n e o):=by
    rw[i27_j1,adR h hs,ih]
   rw[i27_l0,re_lt h,cond_true]
   simp only[re_at h,Option.bind_some,hj,sBl]
   have e9:((c.toNat:Int)==9)=decide (c.toNat=9):=by rw[Bool.eq_iff_iff,beq_iff_eq,decide_eq_true_eq];omega
   have e10:((c.toNat:Int)==10)=decide (c.toNat=10):=by rw[Bool.eq_iff_iff,beq_iff_eq,decide_eq_true_eq];omega
   have e13:((c.toNat:Int)==13)=decide (c.toNat=13):=by rw[Bool.eq_iff_iff,beq_iff_eq,decide_eq_true_eq];omega
   have e32:((c.toNat:Int)==32)=decide (c.toNat=32):=by rw[Bool.eq_iff_iff,beq_iff_eq,decide_eq_true_eq];omega
   rw[e9,e10,e13,e32]
   unfold isB
   cases decide (c.toNat=9)<;>cases decide (c.toNat=10)<;>cases decide (c.toNat=13)<;>cases decide (c.toNat=32)<;>rfl
theorem rblanks (m:Nat) {s:ByteArray} (hs:s.size<1000000000000) {n:Nat} {e o:Int} {l:List UInt8} (h:Sf s l) (hm:l.length≤m):i27 (m+1) (RE s l n e o)=some (RE s (sBl l) n e o):=rblanks_l m hs n e o l (m+1) h (by omega)
theorem rtake_ok (m:Nat) {s:ByteArray} (hs:s.size<1000000000000) {n:Nat} {e o:Int} {c:UInt8} {r:List UInt8} (h:Sf s (c::r)) (b:Int) (hb:(c.toNat:Int)=b):i34 (m+1) b (RE s (c::r) n e o)=some (RE s r n e o):=by
 have e1:((c.toNat:Int) !=b)=false:=by rw[hb];exact bne_self_eq_false _
 rw[i34,re_ge h,cond_false,re_at h,Option.bind_some,e1,i34_j0,cond_false,i34_j1,adR h hs]
theorem rtake_no (m:Nat) {s:ByteArray} {n:Nat} {l:List UInt8} (h:Sf s l) (b:Int) (hb:∀c r,l=c::r→(c.toNat:Int)≠b):i34 (m+2) b (PQ s l n)=some (RE s l n 4 ((s.size-l.length:Nat):Int)):=by
 cases l with
 |nil=>rw[i34,re_pq,re_ge0,cond_true,i34_j0,cond_true,←re_pq,rfail0,Option.bind_some];rfl
 |cons c r=>
  have e1:((c.toNat:Int) !=b)=true:=by unfold bne;rw[Bool.not_eq_true',beq_eq_false_iff_ne];exact hb c r rfl
  rw[i34,re_pq,re_ge h,cond_false,re_at h,Option.bind_some,e1,i34_j0,cond_true,←re_pq,rfail0,Option.bind_some];rfl
theorem rtakeE (m:Nat) {s:ByteArray} (hs:s.size<1000000000000) {n:Nat} {e o:Int} (he:e=2∨e=4) {l:List UInt8} (h:Sf s l) (b:Int):∃l',Sf s l'∧i34 (m+2) b (RE s l n e o)=some (RE s l' n e o):=by
 cases l with
 |nil=>exact⟨[],h,by rw[i34,re_ge0,cond_true,i34_j0,cond_true,rfailE m he,Option.bind_some]⟩
 |cons c r=>
  by_cases hb:(c.toNat:Int)=b
  ·exact⟨r,sf_tail h,rtake_ok (m+1) hs h b hb⟩
  ·have e1:((c.toNat:Int) !=b)=true:=by unfold bne;rw[Bool.not_eq_true',beq_eq_false_iff_ne];exact hb
   exact⟨c::r,h,by rw[i34,re_ge h,cond_false,re_at h,Option.bind_some,e1,i34_j0,cond_true,rfailE m he,Option.bind_some]⟩
theorem hexaT:((List.range 256).all fun n=>(bif decide ((65:Int)≤(n:Int))&&decide ((n:Int)≤70) then plI (UInt8.ofNat (n+32)) else plI (UInt8.ofNat n))==dI (UInt8.ofNat n))=true:=by decide+kernel
theorem hexa_eq (m:Nat) (c:UInt8) (hm:17≤m):ref05_hexadecimal (m+2) (c.toNat:Int)=some (dI c):=by
 have hc:=u8lt c
 have hT:=eq_of_beq (List.all_eq_true.1 hexaT c.toNat (List.mem_range.2 hc))
 have e:UInt8.ofNat c.toNat=c:=by simp
 rw[e] at hT
 have hp:=place_eq m c hm
 have J0:∀b,(b=true→c.toNat≤70)→ref05_hexadecimal_j0 (m+1) (c.toNat:Int) b=some (bif b then plI (UInt8.ofNat (c.toNat+32)) else plI c):=fun b hb=>by
  cases b
  ·rw[ref05_hexadecimal_j0,cond_false,ref05_hexadecimal_j1,hp];rfl
  ·have h70:=hb rfl
   have w8:IntKind.wrap IntKind.u8 ((c.toNat:Int)+32)=(((UInt8.ofNat (c.toNat+32)).toNat:Nat):Int):=by
        have:(UInt8.ofNat (c.toNat+32)).toNat=c.toNat+32:=by simp only[UInt8.toNat_ofNat'];omega
        rw[this,wrap8 (by omega) (by omega)];omega
   rw[ref05_hexadecimal_j0,cond_true,ref05_hexadecimal_j1,w8,place_eq m _ hm];rfl
 rw[ref05_hexadecimal,←hT]
 by_cases h65:65≤c.toNat
 ·rw[decide_eq_true (show (65:Int)≤(c.toNat:Int) by omega),cond_true,J0 _ (fun h=>by have:=of_decide_eq_true h;omega),Bool.true_and]
 ·rw[decide_eq_false (show ¬(65:Int)≤(c.toNat:Int) by omega),cond_false,J0 false (fun h=>by cases h),Bool.false_and]
theorem son1 (a:Nat):strOfNums [(a:Int)]=ByteArray.mk (List.toArray [UInt8.ofNat a]):=rfl
theorem son2 (a b:Nat):strOfNums [(a:Int),(b:Int)]=ByteArray.mk (List.toArray [UInt8.ofNat a,UInt8.ofNat b]):=rfl
theorem son3 (a b c:Nat):strOfNums [(a:Int),(b:Int),(c:Int)]=ByteArray.mk (List.toArray [UInt8.ofNat a,UInt8.ofNat b,UInt8.ofNat c]):=rfl
theorem td64 {r:Nat} (h:r<65536):IntKind.wrap .i64 (Int.tdiv (r:Int) 64)=((r/64:Nat):Int):=by
 rw[Int.tdiv_eq_ediv_of_nonneg (by omega),wrap64 (by omega) (by omega)];omega
theorem td4096 {r:Nat} (h:r<65536):IntKind.wrap .i64 (Int.tdiv (r:Int) 4096)=((r/4096:Nat):Int):=by
 rw[Int.tdiv_eq_ediv_of_nonneg (by omega),wrap64 (by omega) (by omega)];omega
theorem tm64 {r:Nat}:Int.tmod (r:Int) 64=((r%64:Nat):Int):=by
 rw[Int.tmod_eq_emod_of_nonneg (by omega)];omega
theorem ub {a b:Nat} (h:a+b<256):IntKind.wrap IntKind.u8 (IntKind.wrap .i64 ((a:Int)+(b:Int)))=((a+b:Nat):Int):=by
 rw[wrap64 (by omega) (by omega),wrap8 (by omega) (by omega)];omega
theorem rutf_eq (m:Nat) {r:Nat} (h:r<65536):ref05_utf (m+1) (r:Int)=some ⟨(enc r).toArray⟩:=by
 unfold enc
 rw[ref05_utf]
 by_cases h1:r<128
 ·rw[decide_eq_true (show (r:Int)<128 by omega),cond_true,wrap8 (by omega) (by omega),son1,if_pos h1]
 rw[decide_eq_false (show ¬(r:Int)<128 by omega),cond_false,if_neg h1,ref05_utf_j0]
 have u1:IntKind.wrap IntKind.u8 (IntKind.wrap .i64 ((128:Int)+((r%64:Nat):Int)))=((128+r%64:Nat):Int):=ub (a:=128) (by omega)
 by_cases h2:r<2048
 ·have u2:IntKind.wrap IntKind.u8 (IntKind.wrap .i64 ((192:Int)+((r/64:Nat):Int)))=((192+r/64:Nat):Int):=ub (a:=192) (by omega)
  rw[decide_eq_true (show (r:Int)<2048 by omega),cond_true,td64 h,tm64,u1,u2,son2,if_pos h2]
 ·have u2:IntKind.wrap IntKind.u8 (IntKind.wrap .i64 ((224:Int)+((r/4096:Nat):Int)))=((224+r/4096:Nat):Int):=ub (a:=224) (by omega)
  have u3:IntKind.wrap IntKind.u8 (IntKind.wrap .i64 ((128:Int)+((r/64%64:Nat):Int)))=((128+r/64%64:Nat):Int):=ub (a:=128) (by omega)
  rw[decide_eq_false (show ¬(r:Int)<2048 by omega),cond_false,if_neg h2,ref05_utf_j1,td64 h,td4096 h,tm64,tm64,u1,u2,u3,son3]
def nulB:ByteArray:=ByteArray.mk (List.toArray [])
theorem point_sl (m:Nat) {s:ByteArray} (hs:s.size<1000000000000) (n:Nat):∀(k r i M:Nat) (l:List UInt8),Sf s l→i+k=4→r<16^i→k<M→
  RSim (fun a=>a=nulB) (fun r:Nat=>(⟨(enc r).toArray⟩:ByteArray)) (fun _=>n) s (i39_l1 (m+19) M (r:Int) (i:Int) (PQ s l n)) (sCode k r l)
 |_,_,_,0,_,_,_,_,h=>by omega
 |0,r,i,M+1,l,h,hi,hr,_=>by
  have:i=4:=by omega
  subst this
  refine⟨h,?_⟩
  have k4:decide (((4:Nat):Int)<4)=false:=by decide
  rw[i39_l1,k4,cond_false,i39_j7,rutf_eq (m+18) (show r<65536 from hr)];rfl
 |k+1,r,i,M+1,[],h,hi,hr,hM=>by
  have k4:decide ((i:Int)<4)=true:=decide_eq_true (by omega)
  refine⟨.inr rfl,h,nulB,[],n,rfl,h,?_⟩
  rw[i39_l1,k4,cond_true,i39_j2,re_pq,re_end,cond_false]
  rfl
 |k+    1,r,i,M+1,c::t,h,hi,hr,hM=>by
  have hx:=hxV_le c
  have k4:decide ((i:Int)<4)=true:=decide_eq_true (by omega)
  rw[i39_l1,k4,cond_true,i39_j2,re_pq,re_lt h,cond_true,re_at h,Option.bind_some,hexa_eq (m+17) c (by omega),Option.bind_some]
  have er0:∀d:Int,(d<0∨(i=1∧r=13∧8≤d))→i39_j3 (m+19) (i39_l1 (m+19) M) (r:Int) (i:Int) d (RE s (c::t) n 0 0)=some (nulB,RE s (c::t) n ((4:Nat):Int) ((s.size-(c::t).length:Nat):Int)):=fun d hd=>by
   have h5:i39_j4 (m+19) (i39_l1 (m+19) M) (r:Int) (i:Int) d true (RE s (c::t) n 0 0)=some (nulB,RE s (c::t) n ((4:Nat):Int) ((s.size-(c::t).length:Nat):Int)):=by
        rw[i39_j4,cond_true,←re_pq,rfail0,Option.bind_some];rfl
   rw[i39_j3]
   rcases hd with hd| ⟨rfl,rfl,hd⟩
   ·rw[decide_eq_true hd,cond_true,h5]
   ·    have d0:decide (d<0)=false:=decide_eq_false (by omega)
        have d1:decide (8≤d)=true:=decide_eq_true hd
        rw[d0,d1,cond_false]
        exact h5
  have i4:16^i≤4096:=Nat.pow_le_pow_right (n:=16) (by omega) (show i≤3 by omega)
  simp only[sCode]
  by_cases h16:hxV c=16∨(k=2∧r=13∧8≤hxV c)
  ·rw[if_pos h16]
   refine⟨.inr rfl,h,nulB,c::t,n,rfl,h,er0 _ ?_⟩
   unfold dI
   by_cases h1:hxV c=16
   ·rw[if_pos h1];exact .inl (by omega)
   ·    rw[if_neg h1]
        rcases h16 with h2| ⟨h2,h3,h4⟩
        ·exact absurd h2 h1
        ·exact .inr ⟨by omega,h3,by omega⟩
  ·rw[   if_neg h16]
   have h1:hxV c≠16:=fun h=>h16 (.inl h)
   have hdi:dI c=(hxV c:Int):=by unfold dI;rw[if_neg h1]
   have d0:decide ((hxV c:Int)<0)=false:=decide_eq_false (by omega)
   have w16:IntKind.wrap .i64 (IntKind.wrap .i64 ((16:Int)*(r:Int))+(hxV c:Int))=((16*r+hxV c:Nat):Int):=by
        rw[wrap64 (n:=(16:Int)*(r:Int)) (by omega) (by omega),wrap64 (by omega) (by omega)];omega
   have h5:i39_j4 (m+19) (i39_l1 (m+19) M) (r:Int) (i:Int) (hxV c:Int) false (RE s (c::t) n 0 0)=i39_l1 (m+19) M ((16*r+hxV c:Nat):Int) ((i+1:Nat):Int) (PQ s t n):=by
        rw[i39_j4,cond_false,i39_j5,adR h hs,w16,i39_j6,wrapS (show i<9223372036854775807 by omega)]
   have ih:=point_sl m hs n k (16*r+hxV c) (i+1) M t (sf_tail h) (by omega) (by rw[Nat.pow_succ];omega) (by omega)
   have hj:i39_j3 (m+19) (i39_l1 (m+19) M) (r:Int) (i:Int) (dI c) (RE s (c::t) n 0 0)=i39_l1 (m+19) M ((16*r+hxV c:Nat):Int) ((i+1:Nat):Int) (PQ s t n):=by
        rw[hdi,i39_j3,d0,cond_false]
        by_cases hk1:i=1
        ·have e1:((i:Int)==1)=true:=by rw[hk1];rfl
         rw[e1,cond_true]
         by_cases hr13:r=13
         ·have e2:((r:Int)==13)=true:=by rw[hr13];rfl
          have e3:decide ((8:Int)≤(hxV c:Int))=false:=decide_eq_false fun h8=>h16 (.inr ⟨by omega,hr13,by omega⟩)
          rw[e2,cond_true,e3,h5]
         ·have e2:((r:Int)==13)=false:=by rw[beq_eq_false_iff_ne];omega
          rw[e2,cond_false,h5]
        ·have e1:((i:Int)==1)=false:=by rw[beq_eq_false_iff_ne];omega
         rw[e1,cond_false,h5]
   rw[hj]
   exact ih
theorem esc_st (m M:Nat) (x:Int) (st:Dt):i38_l1 m (M+9) x 0 st=
 (bif x==34 then some (ByteArray.mk (List.toArray [34]),Dt.agg [Dt.str (Dt.S st 0),Dt.int (IntKind.wrap .i64 (Dt.I st 1+1)),Dt.int (Dt.I st 2),Dt.int (Dt.I st 3),Dt.int (Dt.I st 4)]) else
 bif x==92 then some (ByteArray.mk (List.toArray [92]),Dt.agg [Dt.str (Dt.S st 0),Dt.int (IntKind.wrap .i64 (Dt.I st 1+1)),Dt.int (Dt.I st 2),Dt.int (Dt.I st 3),Dt.int (Dt.I st 4)]) else
 bif x==47 then some (ByteArray.mk (List.toArray [47]),Dt.agg [Dt.str (Dt.S st 0),Dt.int (IntKind.wrap .i64 (Dt.I st 1+1)),Dt.int (Dt.I st 2),Dt.int (Dt.I st 3),Dt.int (Dt.I st 4)]) else
 bif x==98 then some (ByteArray.mk (List.toArray [8]),Dt.agg [Dt.str (Dt.S st 0),Dt.int (IntKind.wrap .i64 (Dt.I st 1+1)),Dt.int (Dt.I st 2),Dt.int (Dt.I st 3),Dt.int (Dt.I st 4)]) else
 bif x==102 then some (ByteArray.mk (List.toArray [12]),Dt.agg [Dt.str (Dt.S st 0),Dt.int (IntKind.wrap .i64 (Dt.I st 1+1)),Dt.int (Dt.I st 2),Dt.int (Dt.I st 3),Dt.int (Dt.I st 4)]) else
 bif x==110 then some (ByteArray.mk (List.toArray [10]),Dt.agg [Dt.str (Dt.S st 0),Dt.int (IntKind.wrap .i64 (Dt.I st 1+1)),Dt.int (Dt.I st 2),Dt.int (Dt.I st 3),Dt.int (Dt.I st 4)]) else
 bif x==114 then some (ByteArray.mk (List.toArray [13]),Dt.agg [Dt.str (Dt.S st 0),Dt.int (IntKind.wrap .i64 (Dt.I st 1+1)),Dt.int (Dt.I st 2),Dt.int (Dt.I st 3),Dt.int (Dt.I st 4)]) else
 bif x==116 then some (ByteArray.mk (List.toArray [9]),Dt.agg [Dt.str (Dt.S st 0),Dt.int (IntKind.wrap .i64 (Dt.I st 1+1)),Dt.int (Dt.I st 2),Dt.int (Dt.I st 3),Dt.int (Dt.I st 4)]) else
 i38_j4 m x st):=by kernel_rfl
theorem resc_sim (m:Nat) {s:ByteArray} (hs:s.size<1000000000000) (n:Nat) {l:List UInt8} (h:Sf s l):
  RSim (fun a=>a=nulB) (fun r:Nat=>(⟨(enc r).toArray⟩:ByteArray)) (fun _=>n) s (i38 (m+30) (PQ s l n)) (sEsc l):=by
 rw[i38,re_pq,rnext (m+28) h,Option.bind_some]
 show RSim _ _ _ s (i38_l1 (m+29) (m+21+9) (hdB l) 0 (RE s l n 0 0)) _
 rw[esc_st]
 cases l with
 |nil=>
  refine⟨.inr rfl,h,nulB,[],n,rfl,h,?_⟩
  rfl
 |cons c t=>
  have hc:=u8lt c
  rw[adR h hs]
  have q:∀k:Nat,((hdB (c::t))==(k:Int))=decide (c.toNat=k):=fun k=>by
   show ((c.toNat:Int)==(k:Int))=_
   rw[Bool.eq_iff_iff,beq_iff_eq,decide_eq_true_eq];omega
  have q34:((hdB (c::t))==34)=decide (c.toNat=34):=q 34
  have q92:((hdB (c::t))==92)=decide (c.toNat=92):=q 92
  have q47:((hdB (c::t))==47)=decide (c.toNat=47):=q 47
  have q98:((hdB (c::t))==98)=decide (c.toNat=98):=q 98
  have q102:((hdB (c::t))==102)=decide (c.toNat=102):=q 102
  have q110:((hdB (c::t))==110)=decide (c.toNat=110):=q 110
  have q114:((hdB (c::t))==114)=decide (c.toNat=114):=q 114
  have q116:((hdB (c::t))==116)=decide (c.toNat=116):=q 116
  rw[q34,q92,q47,q98,q102,q110,q114,q116,sEsc]
  by_cases h34:c.toNat=34
  ·rw[decide_eq_true h34,cond_true,if_pos (.inl h34),h34]
   exact⟨sf_tail h,rfl⟩
  rw[decide_eq_false h34,cond_false]
  by_cases h92:c.toNat=92
  ·rw[decide_eq_true h92,cond_true,if_pos (.inr (.inl h92)),h92]
   exact⟨sf_tail h,rfl⟩
  rw[decide_eq_false h92,cond_false]
  by_cases h47:c.toNat=47
  ·rw[decide_eq_true h47,cond_true,if_pos (.inr (.inr h47)),h47]
   exact⟨sf_tail h,rfl⟩
  rw[decide_eq_false h47,cond_false,if_neg (by omega)]
  by_cases h98:c.toNat=98
  ·rw[decide_eq_true h98,cond_true,if_pos h98]
   exact⟨sf_tail h,rfl⟩
  rw[decide_eq_false h98,cond_false,if_neg h98]
  by_cases h102:c.toNat=102
  ·rw[decide_eq_true h102,cond_true,if_pos h102]
   exact⟨sf_tail h,rfl⟩
  rw[decide_eq_false h102,cond_false,if_neg h102]
  by_cases h110:c.toNat=110
  ·rw[decide_eq_true h110,cond_true,if_pos h110]
   exact⟨sf_tail h,rfl⟩
  rw[decide_eq_false h110,cond_false,if_neg h110]
  by_cases h114:c.toNat=114
  ·rw[decide_eq_true h114,cond_true,if_pos h114]
   exact⟨sf_tail h,rfl⟩
  rw[decide_eq_false h114,cond_false,if_neg h114]
  by_cases h116:c.toNat=116
  ·rw[decide_eq_true h116,cond_true,if_pos h116]
   exact⟨sf_tail h,rfl⟩
  rw[decide_eq_false h116,cond_false,if_neg h116,i38_j4]
  by_cases h117:c.toNat=117
  ·have e:((hdB (c::t)) !=117)=false:=by unfold bne;rw[show ((hdB (c::t))==117)=decide (c.toNat=117) from q 117,decide_eq_true h117];rfl
   rw[e,cond_false,if_pos h117,i38_j5,adR h hs]
   have h1:=point_sl (m+9) hs n 4 0 0 (m+29) t (sf_tail h) rfl (by decide) (by omega)
   have h1':RSim (fun a=>a=nulB) (fun r:Nat=>(⟨(enc r).toArray⟩:ByteArray)) (fun _=>n) s (i39 (m+29) (PQ s t n)) (sCode 4 0 t):=h1
   cases hr:sCode 4 0 t with
   |    er e l=>
        rw[hr] at h1'
        obtain⟨p1,p2,a,l',n',p3,p4,p5⟩:=h1'
        refine⟨p1,p2,a,l',n',p3,p4,?_⟩
        rw[←re_pq,p5];rfl
   |    ok r l=>
        rw[hr] at h1'
        obtain⟨p1,p2⟩:=h1'
        refine⟨p1,?_⟩
        rw[←re_pq,p2];rfl
  ·have e:((hdB (c::t)) !=117)=true:=by unfold bne;rw[show ((hdB (c::t))==117)=decide (c.toNat=117) from q 117,decide_eq_false h117];rfl
   rw[e,cond_true,if_neg h117,←re_pq,rfail0,Option.bind_some]
   exact⟨.inr rfl,h,nulB,c::t,n,rfl,h,rfl⟩
theorem rlit_sl (m:Nat) {s:ByteArray} (hs:s.size<1000000000) (n:Nat):∀(N M:Nat) (a l:List UInt8),N≤M→l.length<N→Sf s l→a.length+3*l.length≤100000000000→
  RSim (fun b:ByteArray=>b.size≤100000000000) (fun b:List UInt8=>(⟨b.toArray⟩:ByteArray)) (fun _=>n) s (i37_l1 (m+30) M ⟨a.toArray⟩ (PQ s l n)) (sLit N a l)
 |0,_,_,_,_,h,_,_=>by omega
 |_+1,0,_,_,h,_,_,_=>by omega
 |N+1,M+1,a,[],hM,hN,h,ha=>by
  refine⟨.inr rfl,h,nulB,[],n,by decide,h,?_⟩
  show (bif decide (((ByteArray.size (Dt.S (RE s [] n 0 0) 0):Nat):Int)≤Dt.I (RE s [] n 0 0) 1) then _ else _)=_
  rw[re_ge0,cond_true,i37_j3,cond_true,rfail0,Option.bind_some]
  rfl
 |N+    1,M+1,a,c::t,hM,hN,h,ha=>by
  have hs':s.size<1000000000000:=by omega
  have hc:=u8lt c
  rw[List.length_cons] at hN ha
  have st:i37_l1 (m+30) (M+1) ⟨a.toArray⟩ (PQ s (c::t) n)=i37_j3 (m+30) (i37_l1 (m+30) M) ⟨a.toArray⟩ (decide ((c.toNat:Int)<32)) (RE s (c::t) n 0 0):=by
   show (bif decide (((ByteArray.size (Dt.S (RE s (c::t) n 0 0) 0):Nat):Int)≤Dt.I (RE s (c::t) n 0 0) 1) then _ else((idxS (Dt.S (RE s (c::t) n 0 0) 0) (Dt.I (RE s (c::t) n 0 0) 1)).bind _))=_
   rw[re_ge h,cond_false,re_at h];rfl
  rw[st,i37_j3,sLit]
  by_cases h32:c.toNat<32
  ·rw[decide_eq_true (show (c.toNat:Int)<32 by omega),cond_true,if_neg (show ¬c.toNat=34 by omega),if_pos h32,←re_pq,rfail0,Option.bind_some]
   exact⟨.inr rfl,h,nulB,c::t,n,by decide,h,rfl⟩
  rw[decide_eq_false (show ¬(c.toNat:Int)<32 by omega),cond_false,i37_j4,re_at h,Option.bind_some,adR h hs']
  by_cases h34:c.toNat=34
  ·have e:((c.toNat:Int)==34)=true:=bqt (k:=34) h34
   rw[if_pos h34,e,cond_true]
   exact⟨sf_tail h,rfl⟩
  have e:((c.toNat:Int)==34)=false:=bqf (k:=34) h34
  rw[if_neg h34,if_neg h32,e,cond_false]
  by_cases h92:c.toNat=92
  ·have e:((c.toNat:Int)==92)=true:=bqt (k:=92) h92
   rw[if_pos h92,e,cond_true]
   have he:=resc_sim m hs' n (sf_tail h)
   have ho:=sEsc_ok t
   rw[←re_pq]
   cases hr:sEsc t with
   |    er e l=>
        rw[hr] at he
        obtain⟨p1,p2,b,l',n',p3,p4,p5⟩:=he
        subst p3
        obtain⟨M,rfl⟩:∃q,M=q+1:=⟨M-1,by omega⟩
        refine⟨p1,p2,⟨a.toArray⟩,l',n',(by show (⟨a.toArray⟩:ByteArray).size≤100000000000;rw[mkB_size];omega),p4,?_⟩
        have hb:Nat.ble ((ByteArray.size ⟨a.toArray⟩)+(ByteArray.size nulB)) 1152921504606846976=true:=ble_of (by rw[mkB_size];show a.length+0≤_;omega)
        have ha0:(⟨a.toArray⟩:ByteArray)++nulB=⟨a.toArray⟩:=by
         show (ByteArray.mk (List.toArray a))++(ByteArray.mk (List.toArray []))=_
         rw[mkB_app,List.append_nil]
        rw[p5,Option.bind_some]
        simp only[hb,cond_true,ha0]
        have hz:((e:Int)==0)=false:=by rw[beq_eq_false_iff_ne];omega
        show (bif ((e:Int)==0) then _ else _)=_
        rw[hz];rfl
   |    ok r l=>
        rw[hr] at he ho
        obtain⟨p1,p2⟩:=he
        have hl:=enc_len r
        have ih:=rlit_sl m hs n N M (a++enc r) l (by omega) (by omega) p1 (by rw[List.length_append];omega)
        have hb:Nat.ble ((ByteArray.size ⟨a.toArray⟩)+(ByteArray.size ⟨(enc r).toArray⟩)) 1152921504606846976=true:=ble_of (by rw[mkB_size,mkB_size];omega)
        rw[p2,Option.bind_some]
        simp only[hb,cond_true,mkB_app]
        exact ih
  ·have e:((c.toNat:Int)==92)=false:=bqf (k:=92) h92
   have ec:UInt8.ofNat c.toNat=c:=by simp
   have hb:Nat.ble ((ByteArray.size ⟨a.toArray⟩)+(ByteArray.size ⟨[c].toArray⟩)) 1152921504606846976=true:=ble_of (by rw[mkB_size,mkB_size];simp;omega)
   rw[if_neg h92,e,cond_false,son1,ec,hb,cond_true,mkB_app]
   exact rlit_sl m hs n N M (a++[c]) t (by omega) (by omega) (sf_tail h) (by rw[List.length_append,List.length_singleton];omega)
theorem rliteral_sim (m:Nat) {s:ByteArray} (hs:s.size<1000000000) (n:Nat) {c:UInt8} {t:List UInt8} (h:Sf s (c::t)) (hc:c.toNat=34) (hm:t.length≤m):
  RSim (fun b:ByteArray=>b.size≤100000000000) (fun b:List UInt8=>(⟨b.toArray⟩:ByteArray)) (fun _=>n) s (i37 (m+31) (PQ s (c::t) n)) (sLit (t.length+2) [] t):=by
 have hl:=sf_len h
 rw[List.length_cons] at hl
 have:=rlit_sl m hs n (t.length+2) (m+31) [] t (by omega) (by omega) (sf_tail h) (by simp;omega)
 rw[i37,re_pq,rtake_ok (m+29) (show s.size<1000000000000 by omega) h 34 (by omega),Option.bind_some]
 exact this
end Go.Proofs.YtmejbpmceflcjaaGreatDoor
namespace Go.Proofs.YtmejbpmceflcjaaGreatDoor
open Go.Am
theorem rword_E (m:Nat) {s:ByteArray} (hs:s.size<1000000000000) (n:Nat) {e o:Int} (he:e=2∨e=4) (w:ByteArray) (v x:Dt) (hw:w.size<1000):∀(M k:Nat) (l:List UInt8),k≤w.size→w.size-k<M→Sf s l→
  ∃l',Sf s l'∧i46_l1 (m+2) M w (k:Int) (RE s l n e o) v x=some (v,RE s l' n e o)
 |0,k,l,_,h,_=>by omega
 |M+1,k,l,hk,hM,h=>by
  rw[i46_l1,dlt]
  by_cases hlt:k<w.size
  ·obtain⟨l1,h1,e1⟩:=rtakeE m hs (n:=n) (o:=o) he h ((w[k]).toNat:Int)
   obtain⟨l2,h2,e2⟩:=rword_E m hs n (o:=o) he w v x hw M (k+1) l1 (by omega) (by omega) h1
   refine⟨l2,h2,?_⟩
   rw[decide_eq_true hlt,cond_true,i46_j2,idxS_lt hlt,Option.bind_some,e1,Option.bind_some,i46_j3,wrapS (by omega)]
   exact e2
  ·refine⟨l,h,?_⟩
   rw[decide_eq_false hlt];rfl
theorem rword_sl (m:Nat) {s:ByteArray} (hs:s.size<1000000000) (n:Nat) (w:ByteArray) (v x:Dt) (hw:w.size<1000):∀(M k:Nat) (l:List UInt8),k≤w.size→w.size-k<M→Sf s l→
  RSim (fun _=>True) (fun _:Unit=>v) (fun _=>n) s (i46_l1 (m+2) M w (k:Int) (PQ s l n) v x) (sWd (w.data.toList.drop k) l)
 |0,k,l,_,h,_=>by omega
 |M+    1,k,l,hk,hM,h=>by
  have hs':s.size<1000000000000:=by omega
  rw[i46_l1,dlt]
  by_cases hlt:k<w.size
  ·have hc:=u8lt w[k]
   rw[getB w k hlt,decide_eq_true hlt,cond_true,i46_j2,idxS_lt hlt,Option.bind_some]
   have bad:(∀c r,l=c::r→(c.toNat:Int)≠((w[k]).toNat:Int))→∃l',Sf s l'∧((i34 (m+2) ((w[k]).toNat:Int) (PQ s l n)).bind fun r1=>i46_j3 (m+2) (i46_l1 (m+2) M) w (k:Int) r1 v x)=some (v,RE s l' n ((4:Nat):Int) ((s.size-l.length:Nat):Int)):=fun hb=>by
        rw[rtake_no m h _ hb,Option.bind_some,i46_j3,wrapS (by omega)]
        exact rword_E m hs' n (.inr rfl) w v x hw M (k+1) l (by omega) (by omega) h
   cases l with
   |    nil=>
        obtain⟨l',h1,h2⟩:=bad (fun c r hcr=>by cases hcr)
        exact⟨.inr rfl,h,v,l',n,trivial,h1,h2⟩
   |    cons c r=>
        by_cases hcw:c=w[k]
        ·have ih:=rword_sl m hs n w v x hw M (k+1) r (by omega) (by omega) (sf_tail h)
         rw[re_pq,rtake_ok (m+1) hs' h _ (by rw[hcw]),Option.bind_some,i46_j3,wrapS (by omega)]
         simp only[sWd]
         rw[if_pos hcw]
         exact ih
        ·obtain⟨l',h1,h2⟩:=bad (fun c' r' hcr=>by
          injection hcr with hcr _
          subst hcr
          exact fun h=>hcw (UInt8.toNat_inj.1 (by omega)))
         simp only[sWd]
         rw[if_neg hcw]
         exact⟨.inr rfl,h,v,l',n,trivial,h1,h2⟩
  ·have:k=w.size:=by omega
   subst this
   rw[List.drop_eq_nil_of_le (by rw[lenB];omega),decide_eq_false hlt]
   exact⟨h,rfl⟩
theorem rword_sim (m:Nat) {s:ByteArray} (hs:s.size<1000000000) (n:Nat) (w:List UInt8) (v:Dt) (hw:w.length<100) {l:List UInt8} (h:Sf s l) (hm:100≤m):
  RSim (fun _=>True) (fun _:Unit=>v) (fun _=>n) s (i46 (m+3) ⟨w.toArray⟩ v (PQ s l n)) (sWd w l):=by
 have hsz:(⟨w.toArray⟩:ByteArray).size=w.length:=mkB_size w
 exact rword_sl m hs n ⟨w.toArray⟩ v _ (by omega) (m+3) 0 l (by omega) (by omega) h
theorem wrapU64 {n:Int} (h1:0≤n) (h2:n<18446744073709551616):IntKind.wrap IntKind.u64 n=n:=wrapU h1 (by omega)
theorem wrapU_rng (n:Int):0≤IntKind.wrap IntKind.u64 n∧IntKind.wrap IntKind.u64 n<18446744073709551616:=by
 unfold IntKind.wrap
 simp only[IntKind.bits,IntKind.signed,Bool.false_and,Bool.false_eq_true,if_false]
 omega
theorem rint_j8 (m:Nat) {s:ByteArray} (n:Nat) (o:Int) (mn:Bool) (u V:Nat) (big:Bool) (hu:u<18446744073709551616) (h0:big=false→u=V∧V≤9223372036854775808) (h1:big=true→9223372036854775808<V) (l:List UInt8) (x:Dt):
  i48_j8 (m+1) o mn (u:Int) big (PQ s l n) x=if V≤(bif mn then 9223372036854775808 else 9223372036854775807) then some (vInt (bif mn then -((V:Nat):Int) else((V:Nat):Int)),PQ s l n) else some (kza2373,RE s l n 2 o):=by
 have bad:∀b,b=true→i48_j9 (m+1) o mn (u:Int) b (PQ s l n) x=some (kza2373,RE s l n 2 o):=fun b hb=>by
  subst hb
  rw[i48_j9,cond_true,rfail0,Option.bind_some]
 have good:∀b,b=false→i48_j9 (m+1) o mn (u:Int) b (PQ s l n) x=i48_j10 (m+1) mn (u:Int) (PQ s l n) x:=fun b hb=>by
  subst hb
  rw[i48_j9,cond_false]
 rw[i48_j8]
 cases big
 ·obtain⟨rfl,hV⟩:=h0 rfl
  rw[cond_false,decide_eq_false (show ¬(9223372036854775808:Int)<(u:Int) by omega),cond_false]
  have eq:((u:Int)==9223372036854775808)=decide (u=9223372036854775808):=by rw[Bool.eq_iff_iff,beq_iff_eq,decide_eq_true_eq];omega
  rw[eq]
  by_cases h63:u=9223372036854775808
  ·rw[decide_eq_true h63,cond_true]
   cases mn
   ·    rw[Bool.not_false,bad _ rfl,if_neg]
        show ¬u≤9223372036854775807
        omega
   ·    have hc:u≤(bif true then 9223372036854775808 else 9223372036854775807):=hV
        rw[Bool.not_true,good _ rfl,if_pos hc]
        subst h63
        have w1:IntKind.wrap .i64 ((0:Int)-IntKind.wrap .i64 ((9223372036854775808:Nat):Int))= -((9223372036854775808:Nat):Int):=by decide
        rw[i48_j10,cond_true,w1]
        rfl
  ·rw[decide_eq_false h63,cond_false,good _ rfl,if_pos (by cases mn<;>(simp;omega)),i48_j10,wrap64 (n:=(u:Int)) (by omega) (by omega)]
   cases mn
   ·rfl
   ·rw[cond_true,wrap64 (by omega) (by omega),i48_j11,Int.zero_sub];rfl
 ·have hV:=h1 rfl
  rw[cond_true,bad _ rfl,if_neg]
  cases mn
  ·show ¬V≤9223372036854775807
   omega
  ·show ¬V≤9223372036854775808
   omega
theorem rint_sl (m:Nat) {s:ByteArray} (hs:s.size<1000000000) (n:Nat) (o:Int) (mn:Bool) (x:Dt):∀(l:List UInt8) (M u V:Nat) (big:Bool),Sf s l→l.length<M→u<18446744073709551616→(big=false→u=V∧V≤9223372036854775808)→(big=true→9223372036854775808<V)→
   i48_l5 (m+1) M o mn (u:Int) big (PQ s l n) x=if vaD V (dgs l)≤(bif mn then 9223372036854775808 else 9223372036854775807) then some (vInt (bif mn then -((vaD V (dgs l):Nat):Int) else((vaD V (dgs l):Nat):Int)),PQ s (dgr l) n) else some (kza2373,RE s (dgr l) n 2 o)
 |_,0,_,_,_,_,h,_,_,_=>by omega
 | [],M+1,u,V,big,h,_,hu,h0,h1=>by
   rw[i48_l5,re_pq,rnext m h,Option.bind_some]
   exact rint_j8 m n o mn u V big hu h0 h1 [] x
 | c::r,  M+1,u,V,big,h,hM,hu,h0,h1=>by
   rw[List.length_cons] at hM
   have hc:=u8lt c
   have hdr:dgr (c::r)=bif isD c then dgr r else c::r:=by
    unfold dgr
    rw[List.dropWhile_cons]
    cases isD c<;>rfl
   have hds:dgs (c::r)=bif isD c then c::dgs r else[]:=by
    unfold dgs
    rw[List.takeWhile_cons]
    cases isD c<;>rfl
   rw[i48_l5,re_pq,rnext m h,Option.bind_some,hdr,hds]
   show (bif decide ((48:Int)≤(c.toNat:Int)) then _ else i48_j8 (m+1) o mn (u:Int) big (PQ s (c::r) n) x)=_
   by_cases h48:48≤c.toNat
   ·rw[  decide_eq_true (show (48:Int)≤(c.toNat:Int) by omega),cond_true,rnext m h,Option.bind_some]
    show (bif decide ((c.toNat:Int)≤57) then i48_j6 (m+1) (i48_l5 (m+1) M) o mn (u:Int) big (RE s (c::r) n 0 0) x else i48_j8 (m+1) o mn (u:Int) big (PQ s (c::r) n) x)=_
    by_cases h57:c.toNat≤57
    ·   have hd:IntKind.wrap IntKind.u64 (IntKind.wrap IntKind.u8 (hdB (c::r)-48))=((c.toNat-48:Nat):Int):=by
         show IntKind.wrap IntKind.u64 (IntKind.wrap IntKind.u8 ((c.toNat:Int)-48))=_
         rw[wrap8 (by omega) (by omega),wrapU64 (by omega) (by omega)];omega
        have hdiv:IntKind.wrap IntKind.u64 (Int.tdiv (IntKind.wrap IntKind.u64 ((9223372036854775808:Int)-((c.toNat-48:Nat):Int))) 10)=(((9223372036854775808-(c.toNat-48))/10:Nat):Int):=by
         rw[wrapU64 (n:=(9223372036854775808:Int)-_) (by omega) (by omega),Int.tdiv_eq_ediv_of_nonneg (by omega),wrapU64 (by omega) (by omega)];omega
        have hva:vaD V (c::dgs r)=vaD (10*V+(c.toNat-48)) (dgs r):=rfl
        obtain⟨u',hu1,hu2⟩:∃u':Nat,IntKind.wrap IntKind.u64 (IntKind.wrap IntKind.u64 ((10:Int)*(u:Int))+((c.toNat-48:Nat):Int))=(u':Int)∧u'<18446744073709551616:=by
         have:=wrapU_rng (IntKind.wrap IntKind.u64 ((10:Int)*(u:Int))+((c.toNat-48:Nat):Int))
         exact⟨(IntKind.wrap IntKind.u64 (IntKind.wrap IntKind.u64 ((10:Int)*(u:Int))+((c.toNat-48:Nat):Int))).toNat,by omega,by omega⟩
        have step:∀b,i48_j7 (m+1) (i48_l5 (m+1) M) o mn (u:Int) b ((c.toNat-48:Nat):Int) (RE s (c::r) n 0 0) x=i48_l5 (m+1) M o mn (u':Int) b (PQ s r n) x:=fun b=>by
         rw[i48_j7,adR h (by omega),hu1]
        rw[decide_eq_true (show (c.toNat:Int)≤57 by omega),cond_true,isD_i.2 ⟨h48,h57⟩,cond_true,cond_true,hva,i48_j6,rnext m h,Option.bind_some]
        simp only[hd,hdiv,step]
        have over:(∃b,b=true∧9223372036854775808<10*V+(c.toNat-48)∧(bif decide ((((9223372036854775808-(c.toNat-48))/10:Nat):Int)<(u:Int)) then i48_l5 (m+1) M o mn (u':Int) true (PQ s r n) x else i48_l5 (m+1) M o mn (u':Int) big (PQ s r n) x)=i48_l5 (m+1) M o mn (u':Int) b (PQ s r n) x)∨(u'=10*V+(c.toNat-48)∧10*V+(c.toNat-48)≤9223372036854775808∧(bif decide ((((9223372036854775808-(c.toNat-48))/10:Nat):Int)<(u:Int)) then i48_l5 (m+1) M o mn (u':Int) true (PQ s r n) x else i48_l5 (m+1) M o mn (u':Int) big (PQ s r n) x)=i48_l5 (m+1) M o mn (u':Int) false (PQ s r n) x):=by
         cases big
         ·obtain⟨rfl,hV⟩:=h0 rfl
          by_cases hlt:(9223372036854775808-(c.toNat-48))/10<u
          ·exact .inl ⟨true,rfl,by omega,by rw[decide_eq_true (show (((9223372036854775808-(c.toNat-48))/10:Nat):Int)<(u:Int) by omega),cond_true]⟩
          ·refine .inr ⟨?_,by omega,by rw[decide_eq_false (show ¬(((9223372036854775808-(c.toNat-48))/10:Nat):Int)<(u:Int) by omega),cond_false]⟩
           rw[wrapU64 (n:=(10:Int)*(u:Int)) (by omega) (by omega),wrapU64 (by omega) (by omega)] at hu1
           omega
         ·have hV:=h1 rfl
          refine .inl ⟨true,rfl,by omega,?_⟩
          cases decide ((((9223372036854775808-(c.toNat-48))/10:Nat):Int)<(u:Int))<;>rfl
        rcases over with⟨b,rfl,hV,e⟩| ⟨e1,hV,e⟩
        ·refine Eq.trans e ?_
         exact rint_sl m hs n o mn x r M u' (10*V+(c.toNat-48)) true (sf_tail h) (by omega) hu2 (fun h=>by cases h) (fun _=>hV)
        ·refine Eq.trans e ?_
         exact rint_sl m hs n o mn x r M u' (10*V+(c.toNat-48)) false (sf_tail h) (by omega) hu2 (fun _=>⟨e1,hV⟩) (fun h=>by cases h)
    ·   rw[decide_eq_false (show ¬(c.toNat:Int)≤57 by omega),cond_false,show isD c=false by rw[←Bool.not_eq_true,isD_i];omega]
        exact rint_j8 m n o mn u V big hu h0 h1 (c::r) x
   ·rw[decide_eq_false (show ¬(48:Int)≤(c.toNat:Int) by omega),cond_false,show isD c=false by rw[←Bool.not_eq_true,isD_i];omega]
    exact rint_j8 m n o mn u V big hu h0 h1 (c::r) x
theorem rint_j0 (m:Nat) {s:ByteArray} (hs:s.size<1000000000) (n:Nat) (mn:Bool) (t l:List UInt8) (hl:Sf s l) (ht:Sf s t) (hm:t.length≤m) (x:Dt):
  RSim (fun _=>True) vInt (fun _=>n) s (i48_j0 (m+2) ((s.size-l.length:Nat):Int) mn (PQ s t n) x) (sInt0 mn l t):=by
 rw[i48_j0,re_pq,rnext (m+1) ht,Option.bind_some]
 cases t with
 |nil=>
  refine⟨.inr rfl,ht,kza2373,[],n,trivial,ht,?_⟩
  show (i48_j1 (m+2) ((s.size-l.length:Nat):Int) mn 0 true (PQ s [] n) x)=_
  rw[i48_j1,cond_true,rfail0,Option.bind_some];rfl
 |cons c r=>
  rw[List.length_cons] at hm
  have er1:i48_j1 (m+2) ((s.size-l.length:Nat):Int) mn (c.toNat:Int) true (PQ s (c::r) n) x=some (kza2373,RE s (c::r) n ((4:Nat):Int) ((s.size-(c::r).length:Nat):Int)):=by
   rw[i48_j1,cond_true,rfail0,Option.bind_some];rfl
  show RSim _ _ _ s (bif decide ((c.toNat:Int)<48) then i48_j1 (m+2) ((s.size-l.length:Nat):Int) mn (c.toNat:Int) true (PQ s (c::r) n) x else bif decide ((57:Int)<(c.toNat:Int)) then i48_j1 (m+2) ((s.size-l.length:Nat):Int) mn (c.toNat:Int) true (PQ s (c::r) n) x else bif mn then i48_j1 (m+2) ((s.size-l.length:Nat):Int) mn (c.toNat:Int) ((c.toNat:Int)==48) (PQ s (c::r) n) x else i48_j1 (m+2) ((s.size-l.length:Nat):Int) mn (c.toNat:Int) false (PQ s (c::r) n) x) _
  simp only[sInt0]
  cases hdg:isD c
  ·have hnd:c.toNat<48∨57<c.toNat:=by
        have:¬(48≤c.toNat∧c.toNat≤57):=by rw[←isD_i,hdg];simp
        omega
   refine⟨.inr rfl,ht,kza2373,c::r,n,trivial,ht,?_⟩
   rcases hnd with h1|h1
   ·rw[decide_eq_true (show (c.toNat:Int)<48 by omega),cond_true,er1]
   ·rw[decide_eq_false (show ¬(c.toNat:Int)<48 by omega),cond_false,decide_eq_true (show (57:Int)<(c.toNat:Int) by omega),cond_true,er1]
  have hdi:=isD_i.1 hdg
  rw[decide_eq_false (show ¬(c.toNat:Int)<48 by omega),cond_false,decide_eq_false (show ¬(57:Int)<(c.toNat:Int) by omega),cond_false]
  have hz:((c.toNat:Int)==48)=decide (c.toNat=48):=by rw[Bool.eq_iff_iff,beq_iff_eq,decide_eq_true_eq];omega
  by_cases hb:mn=true∧c.toNat=48
  ·obtain⟨rfl,h48⟩:=hb
   rw[hz,decide_eq_true h48,cond_true,er1]
   exact⟨.inr rfl,ht,kza2373,c::r,n,trivial,ht,rfl⟩
  have hq:(!true||(mn&&decide (c.toNat=48)))=false:=by
   cases mn
   ·rfl
   ·    have:c.toNat≠48:=fun h=>hb ⟨rfl,h⟩
        rw[decide_eq_false this];rfl
  rw[hq,cond_false]
  have hj:(bif mn then i48_j1 (m+2) ((s.size-l.length:Nat):Int) mn (c.toNat:Int) ((c.toNat:Int)==48) (PQ s (c::r) n) x else i48_j1 (m+2) ((s.size-l.length:Nat):Int) mn (c.toNat:Int) false (PQ s (c::r) n) x)=i48_j2 (m+2) ((s.size-l.length:Nat):Int) mn (c.toNat:Int) (PQ s (c::r) n) x:=by
   cases mn
   ·rw[cond_false,i48_j1,cond_false]
   ·    have:c.toNat≠48:=fun h=>hb ⟨rfl,h⟩
        rw[cond_true,hz,decide_eq_false this,i48_j1,cond_false]
  rw[hj,i48_j2,hz]
  by_cases h48:c.toNat=48
  ·rw[decide_eq_true h48,cond_true,cond_true,re_pq,adR ht (by omega)]
   exact⟨sf_tail ht,rfl⟩
  ·rw[decide_eq_false h48,cond_false,cond_false]
   show RSim _ _ _ s (i48_l5 (m+2) (m+3) ((s.size-l.length:Nat):Int) mn ((0:Nat):Int) false (PQ s (c::r) n) x) _
   rw[rint_sl (m+1) hs n _ mn x (c::r) (m+3) 0 0 false ht (by rw[List.length_cons];omega) (by omega) (fun _=>⟨rfl,by omega⟩) (fun h=>by cases h)]
   have hdr:dgr (c::r)=dgr r:=by
        unfold dgr
        rw[List.dropWhile_cons,hdg];rfl
   have hds:dgs (c::r)=c::dgs r:=by
        unfold dgs
        rw[List.takeWhile_cons,hdg];rfl
   have hsd:Sf s (dgr r):=by
        have:=dg_app r
        exact sf_app (a:=c::dgs r) (show Sf s (c::(dgs r++dgr r)) by rw[this];exact ht)
   rw[hds,hdr]
   by_cases hv:vaD 0 (c::dgs r)≤(bif mn then 9223372036854775808 else 9223372036854775807)
   ·    rw[if_pos hv,decide_eq_true hv]
        exact⟨hsd,rfl⟩
   ·    rw[if_neg hv,decide_eq_false hv]
        exact⟨.inl rfl,hl,kza2373,dgr r,n,trivial,hsd,rfl⟩
theorem rint_sim (m:Nat) {s:ByteArray} (hs:s.size<1000000000) (n:Nat) {c:UInt8} {r:List UInt8} (h:Sf s (c::r)) (hm:r.length<m):
  RSim (fun _=>True) vInt (fun _=>n) s (i48 (m+3) (PQ s (c::r) n)) (sInt (c::r)):=by
 rw[i48,re_pq,rnext (m+1) h,Option.bind_some,adR h (by omega)]
 show RSim _ _ _ s (bif ((c.toNat:Int)==45) then i48_j0 (m+2) ((s.size-(c::r).length:Nat):Int) ((c.toNat:Int)==45) (PQ s r n) _ else i48_j0 (m+2) ((s.size-(c::r).length:Nat):Int) ((c.toNat:Int)==45) (PQ s (c::r) n) _) _
 have hz:((c.toNat:Int)==45)=decide (c.toNat=45):=by rw[Bool.eq_iff_iff,beq_iff_eq,decide_eq_true_eq];omega
 rw[hz,sInt]
 by_cases h45:c.toNat=45
 ·rw[decide_eq_true h45,cond_true,cond_true]
  exact rint_j0 m hs n true r (c::r) h (sf_tail h) (by omega) _
 ·rw[decide_eq_false h45,cond_false,cond_false]
  exact rint_j0 m hs n false (c::r) (c::r) h h (by rw[List.length_cons];omega) _
end Go.Proofs.YtmejbpmceflcjaaGreatDoor
namespace Go.Proofs.YtmejbpmceflcjaaGreatDoor
open Go.Am
theorem rvalid_text (m:Nat) (s:ByteArray) (hs:s.size≤4096) (hm:2*s.size+400≤m) (hm2:m<9223372036854775000):ref01_Valid (m+4) (Dt.agg [Dt.int 4,Dt.int 0,Dt.str s,Dt.lst [],Dt.lst []])=some (Lib.validD s.data.toList):=by
 have hw:WV (Dt.agg [Dt.int 4,Dt.int 0,Dt.str s,Dt.lst [],Dt.lst []]):= .mk (fun _ h=>by cases h) (fun _ h=>by cases h)
 have hb:Dt.bulk (Dt.agg [Dt.int 4,Dt.int 0,Dt.str s,Dt.lst [],Dt.lst []])=s.size+6:=by rw[bulk_val];simp[Dt.bulkL]
 have h1:=rValid_eq hw m (by rw[hb];omega) hm2 (by rw[hb];omega)
 rw[h1]
 have hp:prts (Dt.agg [Dt.int 4,Dt.int 0,Dt.str s,Dt.lst [],Dt.lst []])=[]:=rfl
 have n1:nds (Dt.agg [Dt.int 4,Dt.int 0,Dt.str s,Dt.lst [],Dt.lst []])=1:=by rw[nds_eq hw,hp];rfl
 have d1:dpt (Dt.agg [Dt.int 4,Dt.int 0,Dt.str s,Dt.lst [],Dt.lst []])=1:=by rw[dpt_eq hw,hp];rfl
 have e:decide ((s.size:Int)≤4096)=true:=decide_eq_true (by omega)
 unfold okV
 rw[n1,d1,hb]
 show some (decide (1≤1024)&&decide (1≤16)&&(true&&(decide ((s.size:Int)≤4096)&&Lib.validD s.data.toList)))=_
 rw[e]
 simp
theorem rtext_sim (m:Nat) {s:ByteArray} (hs:s.size<1000000000) (n:Nat) {c:UInt8} {t:List UInt8} (h:Sf s (c::t)) (hc:c.toNat=34) (hm:t.length+10000≤m) (hm2:m<9223372036854774000) (x:Dt):
  RSim (fun _=>True) vText (fun _=>n) s ((i37 (m+31) (PQ s (c::t) n)).bind fun r4=>bif decide ((4096:Int)<((ByteArray.size r4.1:Nat):Int)) then((i31 (m+31) 2 ((s.size-(c::t).length:Nat):Int) r4.2).bind fun r5=>i45_j0 (m+31) r5 x (Dt.agg [Dt.int 4,Dt.int 0,Dt.str r4.1,Dt.lst [],Dt.lst []])) else((ref01_Valid (m+31) (Dt.agg [Dt.int 4,Dt.int 0,Dt.str r4.1,Dt.lst [],Dt.lst []])).bind fun r6=>bif Bool.not r6 then((i31 (m+31) 4 ((s.size-(c::t).length:Nat):Int) r4.2).bind fun r7=>i45_j0 (m+31) r7 x (Dt.agg [Dt.int 4,Dt.int 0,Dt.str r4.1,Dt.lst [],Dt.lst []])) else i45_j0 (m+31) r4.2 x (Dt.agg [Dt.int 4,Dt.int 0,Dt.str r4.1,Dt.lst [],Dt.lst []])))
   (sTxt (c::t)):=by
 have hl:=rliteral_sim m hs n h hc (by omega)
 show RSim _ _ _ s _ ((sLit (t.length+2) [] t).bd fun a r=>bif decide (4096<a.length) then .er 2 (c::t) else bif !(Lib.validD a) then .er 4 (c::t) else .ok a r)
 have val:∀b:ByteArray,b.size≤4096→ref01_Valid (m+31) (Dt.agg [Dt.int 4,Dt.int 0,Dt.str b,Dt.lst [],Dt.lst []])=some (Lib.validD b.data.toList):=fun b hb=>rvalid_text (m+27) b hb (by omega) (by omega)
 cases hr:sLit (t.length+2) [] t with
 |er e l=>
  rw[hr] at hl
  obtain⟨p1,p2,b,l',n',p3,p4,p5⟩:=hl
  refine⟨p1,p2,Dt.agg [Dt.int 4,Dt.int 0,Dt.str b,Dt.lst [],Dt.lst []],l',n',trivial,p4,?_⟩
  have he:(e:Int)=2∨(e:Int)=4:=by omega
  rw[p5,Option.bind_some]
  simp only[rfailE (m+30) he,Option.bind_some,i45_j0]
  cases hd:decide ((4096:Int)<((ByteArray.size b:Nat):Int))
  ·have hd:=of_decide_eq_false hd
   rw[cond_false,val b (by omega),Option.bind_some]
   cases Lib.validD b.data.toList<;>rfl
  ·rfl
 |ok a l=>
  rw[hr] at hl
  obtain⟨p1,p2⟩:=hl
  have hsz:(⟨a.toArray⟩:ByteArray).size=a.length:=mkB_size a
  have ea:(⟨a.toArray⟩:ByteArray).data.toList=a:=by simp
  have ed:decide ((4096:Int)<((ByteArray.size ⟨a.toArray⟩:Nat):Int))=decide (4096<a.length):=by rw[mkB_size];simp;omega
  rw[p2,Option.bind_some]
  simp only[Rs.bd,ed,rfail0,Option.bind_some,i45_j0]
  cases hd:decide (4096<a.length)
  ·have hd:=of_decide_eq_false hd
   rw[cond_false,cond_false,val _ (by omega),Option.bind_some,ea]
   cases Lib.validD a
   ·exact⟨.inr rfl,h,_,l,n,trivial,p1,rfl⟩
   ·exact⟨p1,rfl⟩
  ·exact⟨.inl rfl,h,_,l,n,trivial,p1,rfl⟩
theorem rs_tail {α β γ:Type} {P:α→Prop} {f:β→Dt} {k:β→Nat} {s:ByteArray} {x:Option (Dt×Dt)} {r:Rs β} (h:RSim (fun _=>True) f k s x r) (g:β→List UInt8→Rs γ) (f':γ→Dt) (k':γ→Nat) (hg:∀b l,∃y,g b l= .ok y l∧f' y=f b∧k' y=k b):RSim (fun _=>True) f' k' s (x.bind fun r=>some (r.1,r.2)) (r.bd g):=by
 cases r with
 |er e l=>
  obtain⟨p1,p2,a,l',n',p3,p4,p5⟩:=h
  exact⟨p1,p2,a,l',n',trivial,p4,by rw[p5];rfl⟩
 |ok b l=>
  obtain⟨p1,p2⟩:=h
  obtain⟨y,e1,e2,e3⟩:=hg b l
  show RSim _ f' k' s _ (g b l)
  rw[e1]
  refine⟨p1,?_⟩
  rw[p2,e2,e3];rfl
theorem rs_tail0 {β γ:Type} {f:β→Dt} {k:β→Nat} {s:ByteArray} {x:Option (Dt×Dt)} {r:Rs β} (h:RSim (fun _=>True) f k s x r) (g:β→List UInt8→Rs γ) (f':γ→Dt) (k':γ→Nat) (hg:∀b l,∃y,g b l= .ok y l∧f' y=f b∧k' y=k b):RSim (fun _=>True) f' k' s x (r.bd g):=by
 have:=rs_tail (α:=Dt) (P:=fun _=>True) h g f' k' hg
 have e:(x.bind fun r=>some (r.1,r.2))=x:=by cases x<;>rfl
 rw[e] at this
 exact this
theorem rscalar_sim (m:Nat) {s:ByteArray} (hs:s.size<1000000000) (n:Nat) {c:UInt8} {t:List UInt8} (h:Sf s (c::t)) (hm:t.length+10000≤m) (hm2:m<9223372036854774000):
  RSim (fun _=>True) (fun v:Dt×Nat=>v.1) (fun v=>v.2) s (i45 (m+32) (PQ s (c::t) n))
   (if c.toNat=110 then(sWd [110,117,108,108] (c::t)).bd fun _ r=> .ok (vK 2 0,n) r else if c.toNat=116 then(sWd [116,114,117,101] (c::t)).bd fun _ r=> .ok (vK 9 1,n) r else if c.toNat=102 then(sWd [102,97,108,115,101] (c::t)).bd fun _ r=> .ok (vK 9 0,n) r else
        if c.toNat=34 then(sTxt (c::t)).bd fun a r=> .ok (vText a,n) r else(sInt (c::t)).bd fun a r=> .ok (vInt a,n) r):=by
 have q:∀k:Nat,((hdB (c::t))==(k:Int))=decide (c.toNat=k):=fun k=>by
  show ((c.toNat:Int)==(k:Int))=_
  rw[Bool.eq_iff_iff,beq_iff_eq,decide_eq_true_eq];omega
 have q110:((hdB (c::t))==110)=decide (c.toNat=110):=q 110
 have q116:((hdB (c::t))==116)=decide (c.toNat=116):=q 116
 have q102:((hdB (c::t))==102)=decide (c.toNat=102):=q 102
 have q34:((hdB (c::t))==34)=decide (c.toNat=34):=q 34
 rw[i45,re_pq,rnext (m+30) h,Option.bind_some]
 simp only[q110,q116,q102,q34]
 by_cases h110:c.toNat=110
 ·rw[decide_eq_true h110,cond_true,if_pos h110]
  exact rs_tail (α:=Dt) (P:=fun _=>True) (rword_sim (m+28) hs n [110,117,108,108] (vK 2 0) (by decide) h (by omega)) _ _ _ fun b l=>⟨_,rfl,rfl,rfl⟩
 rw[decide_eq_false h110,cond_false,if_neg h110]
 by_cases h116:c.toNat=116
 ·rw[decide_eq_true h116,cond_true,if_pos h116]
  exact rs_tail (α:=Dt) (P:=fun _=>True) (rword_sim (m+28) hs n [116,114,117,101] (vK 9 1) (by decide) h (by omega)) _ _ _ fun b l=>⟨_,rfl,rfl,rfl⟩
 rw[decide_eq_false h116,cond_false,if_neg h116]
 by_cases h102:c.toNat=102
 ·rw[decide_eq_true h102,cond_true,if_pos h102]
  exact rs_tail (α:=Dt) (P:=fun _=>True) (rword_sim (m+28) hs n [102,97,108,115,101] (vK 9 0) (by decide) h (by omega)) _ _ _ fun b l=>⟨_,rfl,rfl,rfl⟩
 rw[decide_eq_false h102,cond_false,if_neg h102]
 by_cases h34:c.toNat=34
 ·rw[decide_eq_true h34,cond_true,if_pos h34]
  exact rs_tail0 (rtext_sim m hs n h h34 hm hm2 _) _ _ _ fun b l=>⟨_,rfl,rfl,rfl⟩
 rw[decide_eq_false h34,cond_false,if_neg h34,i45_j1]
 exact rs_tail (α:=Dt) (P:=fun _=>True) (rint_sim (m+28) hs n h (by omega)) _ _ _ fun b l=>⟨_,rfl,rfl,rfl⟩
def sch:List UInt8→Bool
 | []=>false
 |c::_=>isD c||(decide (c.toNat=45)||decide (c.toNat=34))
theorem opens_eq (m:Nat) (l:List UInt8):ref05_opens (m+1) (hdB l)=some (sch l||(match l with| []=>false|c::_=>decide (c.toNat=91∨c.toNat=123∨c.toNat=110∨c.toNat=116∨c.toNat=102))):=by
 cases l with
 |nil=>rfl
 |cons c t=>
  have q:∀k:Nat,((hdB (c::t))==(k:Int))=decide (c.toNat=k):=fun k=>by
   show ((c.toNat:Int)==(k:Int))=_
   rw[Bool.eq_iff_iff,beq_iff_eq,decide_eq_true_eq];omega
  have q110:((hdB (c::t))==110)=decide (c.toNat=110):=q 110
  have q116:((hdB (c::t))==116)=decide (c.toNat=116):=q 116
  have q102:((hdB (c::t))==102)=decide (c.toNat=102):=q 102
  have q34:((hdB (c::t))==34)=decide (c.toNat=34):=q 34
  have q45:((hdB (c::t))==45)=decide (c.toNat=45):=q 45
  have q91:((hdB (c::t))==91)=decide (c.toNat=91):=q 91
  have q123:((hdB (c::t))==123)=decide (c.toNat=123):=q 123
  have d1:decide ((48:Int)≤hdB (c::t))=decide (48≤c.toNat):=by
   show decide ((48:Int)≤(c.toNat:Int))=_
   rw[Bool.eq_iff_iff];simp;omega
  have d2:decide (hdB (c::t)≤57)=decide (c.toNat≤57):=by
   show decide ((c.toNat:Int)≤57)=_
   rw[Bool.eq_iff_iff];simp;omega
  rw[ref05_opens]
  simp only[q110,q116,q102,q34,q45,q91,q123,d1,d2,sch,isD,Bool.decide_or]
  cases decide (c.toNat=110)<;>cases decide (c.toNat=116)<;>cases decide (c.toNat=102)<;>cases decide (c.toNat=45)<;>cases decide (48≤c.toNat)<;>cases decide (c.toNat≤57)<;>cases decide (c.toNat=34)<;>cases decide (c.toNat=91)<;>cases decide (c.toNat=123)<;>rfl
theorem begin_eq (m:Nat) {s:ByteArray} {l:List UInt8} {n:Nat} (lv:Nat) (o:Int) (hn:n≤1024):i32 (m+2) o (lv:Int) (PQ s l n)=some (bif cnt lv n then RE s l (n+1) 2 o else PQ s l (n+1)):=by
 unfold cnt
 have e1:decide ((16:Int)<(lv:Int))=decide (16<lv):=by rw[Bool.eq_iff_iff];simp;omega
 have e2:decide ((1024:Int)≤Dt.I (PQ s l n) 2)=decide (n=1024):=by
  show decide ((1024:Int)≤(n:Int))=_
  rw[Bool.eq_iff_iff,decide_eq_true_eq,decide_eq_true_eq];omega
 have j1:∀e o':Int,i32_j1 (m+1) (RE s l n e o')=some (RE s l (n+1) e o'):=fun e o'=>by
  show some (Dt.agg [Dt.str s,Dt.int ((s.size-l.length:Nat):Int),Dt.int (IntKind.wrap .i64 ((n:Int)+1)),Dt.int e,Dt.int o'])=_
  rw[wrapS (show n<9223372036854775807 by omega)]
 have key:∀b,i32_j0 (m+1) o b (PQ s l n)=some (bif b then RE s l (n+1) 2 o else PQ s l (n+1)):=fun b=>by
  cases b
  ·rw[i32_j0,cond_false,re_pq,j1];rfl
  ·rw[i32_j0,cond_true,rfail0,Option.bind_some,j1];rfl
 rw[i32,e1,e2,key,key]
 cases decide (16<lv)<;>rfl
theorem rvalE (m:Nat) {s:ByteArray} {l:List UInt8} {n:Nat} {e o:Int} (he:e=2∨e=4) (h:Sf s l) (lv:Int) (b:Bool):i28 (m+3) lv b (RE s l n e o)=some (kza2373,RE s l n e o):=by
 have j2:∀x,i28_j2 (m+2) (i33 (m+2)) (i35 (m+2)) lv (RE s l n e o) x=some (kza2373,RE s l n e o):=fun x=>by
  rcases he with rfl|rfl<;>rfl
 have j0:∀x,i28_j0 (m+2) (i33 (m+2)) (i35 (m+2)) lv b (RE s l n e o) x=some (kza2373,RE s l n e o):=fun x=>by
  have hz:(Dt.I (RE s l n e o) 3==0)=false:=by rcases he with rfl|rfl<;>rfl
  cases b
  ·rw[i28_j0,cond_false,i28_j1,cond_false,j2]
  ·rw[i28_j0,cond_true,hz,i28_j1,cond_false,j2]
 rw[i28,rnext (m+1) h,Option.bind_some,opens_eq (m+1),Option.bind_some]
 simp only[rfailE (m+1) he,Option.bind_some,j0]
 cases Bool.not _<;>rfl
end Go.Proofs.YtmejbpmceflcjaaGreatDoor
namespace Go.Proofs.YtmejbpmceflcjaaGreatDoor
open Go.Am
structure RSlf (s:ByteArray) (sf:Int→Bool→Dt→Option (Dt×Dt)) (lv:Nat) (sv:Bool→Nat→List UInt8→Rs (Dt×Nat)):Prop where
 ok:∀(b:Bool) (n:Nat) (l:List UInt8),n≤1024→Sf s l→RSim (fun _=>True) (fun v:Dt×Nat=>v.1) (fun v=>v.2) s (sf (lv:Int) (!(b&&sch l)) (PQ s l n)) (sv b n l)
 er:∀(b:Bool) (n:Nat) (l:List UInt8) (e o:Int),e=2∨e=4→Sf s l→sf (lv:Int) b (RE s l n e o)=some (kza2373,RE s l n e o)
theorem hd_eq {l:List UInt8} (k:Nat) (hk:1≤k):(hdB l==(k:Int))=(match l with| []=>false|c::_=>decide (c.toNat=k)):=by
 cases l with
 |nil=>
  show ((0:Int)==(k:Int))=false
  rw[beq_eq_false_iff_ne];omega
 |cons c t=>
  show ((c.toNat:Int)==(k:Int))=decide (c.toNat=k)
  rw[Bool.eq_iff_iff,beq_iff_eq,decide_eq_true_eq];omega
theorem re_z {s:ByteArray} {l:List UInt8} {n:Nat} {e o:Int} (he:e=2∨e=4):(Dt.I (RE s l n e o) 3==0)=false:=by rcases he with rfl|rfl<;>rfl
theorem rlist_lE (m M:Nat) (self:Int→Bool→Dt→Option (Dt×Dt)) {s:ByteArray} {l:List UInt8} {n:Nat} {e o:Int} (he:e=2∨e=4) (lv:Int) (e0:Dt) (a:List Dt):i33_l1 m self (M+1) lv (RE s l n e o) e0 6 0 (ByteArray.mk (List.toArray [])) a []=some (vLst a,RE s l n e o):=by
 rw[i33_l1,re_z he,cond_false];rfl
theorem rlist_tE (m M:Nat) (self:Int→Bool→Dt→Option (Dt×Dt)) {s:ByteArray} (hs:s.size<1000000000) {l:List UInt8} {n:Nat} {e o:Int} (he:e=2∨e=4) (h:Sf s l) (hm:s.size≤m) (lv:Int) (e0:Dt) (a:List Dt):
  ∃w l',Sf s l'∧((i27 (m+2) (RE s l n e o)).bind fun r5=>(i29 (m+2) r5).bind fun r6=>bif r6.1==93 then some (Dt.agg [Dt.int 6,Dt.int 0,Dt.str (ByteArray.mk (List.toArray [])),Dt.lst a,Dt.lst []],Dt.agg [Dt.str (Dt.S r6.2 0),Dt.int (IntKind.wrap .i64 (Dt.I r6.2 1+1)),Dt.int (Dt.I r6.2 2),Dt.int (Dt.I r6.2 3),Dt.int (Dt.I r6.2 4)])
   else i33_j3 (m+2) self (i33_l1 (m+2) self (M+1)) lv r6.2 e0 6 0 (ByteArray.mk (List.toArray [])) a [])=some (w,RE s l' n e o):=by
 have hs':s.size<1000000000000:=by omega
 have q1:=sf_bl h
 have hl:=sf_len h
 rw[rblanks (m+1) hs' h (by omega),Option.bind_some,rnext (m+1) q1,Option.bind_some]
 by_cases h93:∃c t,sBl l=c::t∧c.toNat=93
 ·obtain⟨c,t,hct,hc⟩:=h93
  rw[hct] at q1 ⊢
  have e1:(hdB (c::t)==93)=true:=by show ((c.toNat:Int)==93)=true;exact bqt (k:=93) hc
  simp only[e1,cond_true,adR q1 hs']
  exact⟨_,t,sf_tail q1,rfl⟩
 ·have e1:(hdB (sBl l)==93)=false:=by
   rw[show ((93:Int))=((93:Nat):Int) from rfl,hd_eq 93 (by omega)]
   cases hct:sBl l with
   |nil=>rfl
   |cons c t=>exact decide_eq_false fun hc=>h93 ⟨c,t,hct,hc⟩
  obtain⟨l1,h1,e2⟩:=rtakeE m hs' (n:=n) (o:=o) he q1 44
  have hl1:=sf_len h1
  simp only[e1,cond_false,i33_j3,e2,Option.bind_some,rblanks (m+1) hs' h1 (show l1.length≤m+1 by omega),rlist_lE (m+2) M self he]
  exact⟨_,_,sf_bl h1,rfl⟩
theorem rlist_sl (m:Nat) (self:Int→Bool→Dt→Option (Dt×Dt)) {s:ByteArray} (hs:s.size<1000000000) (lv:Nat) (hlv:lv≤16) (sv:Bool→Nat→List UInt8→Rs (Dt×Nat)) (hsf:RSlf s self (lv+1) sv)
  (hg:∀n l,n≤1024→match sv false n l with| .er e _=>e=2∨e=4| .ok v l'=>Gv (lv+1) false n l.length v.1 v.2 l'.length) (e0:Dt) (hm:s.size≤m):∀(N M:Nat) (a:List Dt) (n:Nat) (l:List UInt8),N<M→l.length<N→n≤1024→Sf s l→a.length+l.length≤1000000000→
  RSim (fun _=>True) (fun v:Dt×Nat=>v.1) (fun v=>v.2) s (i33_l1 (m+2) self M (lv:Int) (PQ s l n) e0 6 0 (ByteArray.mk (List.toArray [])) a []) (sLs (sv false) N a n l)
 |0,_,_,_,_,_,h,_,_,_=>by omega
 |_+1,0,_,_,_,h,_,_,_,_=>by omega
 |_+1,1,_,_,_,h,_,_,_,_=>by omega
 |N+    1,M+2,a,n,l,hM,hN,hn,h,ha=>by
  have hs':s.size<1000000000000:=by omega
  have w1:IntKind.wrap .i64 ((lv:Int)+1)=((lv+1:Nat):Int):=wrapS (by omega)
  have h1:=hsf.ok false n l hn h
  have h2:=hg n l hn
  have hz:(Dt.I (PQ s l n) 3==0)=true:=rfl
  rw[i33_l1,hz,cond_true,i33_j2,w1]
  simp only[sLs]
  have h1':RSim (fun _=>True) (fun v:Dt×Nat=>v.1) (fun v=>v.2) s (self ((lv+1:Nat):Int) true (PQ s l n)) (sv false n l):=h1
  cases hr:sv false n l with
  |er e l'=>
   rw[hr] at h1'
   obtain⟨p1,p2,b,l2,n',_,p4,p5⟩:=h1'
   have he:(e:Int)=2∨(e:Int)=4:=by omega
   have ap:app a [b]=some (a++[b]):=app_le (by simp;omega)
   rw[p5,Option.bind_some]
   simp only[ap,Option.bind_some]
   obtain⟨w,l3,q1,q2⟩:=rlist_tE m M self hs he p4 hm (lv:Int) e0 (a++[b]) (n:=n') (o:=((s.size-l'.length:Nat):Int))
   exact⟨p1,p2,w,l3,n',trivial,q1,q2⟩
  |ok v l1=>
   rw[hr] at h1' h2
   obtain⟨p1,p2⟩:=h1'
   have hl1:=h2.ln
   have hls:=sf_len h
   have ap:app a [v.1]=some (a++[v.1]):=app_le (by simp;omega)
   rw[p2,Option.bind_some]
   simp only[ap,Option.bind_some,re_pq,rblanks (m+1) hs' p1 (show l1.length≤m+1 by omega),rnext (m+1) (sf_bl p1),Rs.bd]
   have q1:=sf_bl p1
   have hb:=sBl_len l1
   have bad:∀k,Sf s k→(∀c t,k=c::t→c.toNat≠44)→∃w l',Sf s l'∧i33_j3 (m+2) self (i33_l1 (m+2) self (M+1)) (lv:Int) (RE s k v.2 0 0) e0 6 0 (ByteArray.mk (List.toArray [])) (a++[v.1]) []=some (w,RE s l' v.2 ((4:Nat):Int) ((s.size-k.length:Nat):Int)):=fun k hk hc=>by
        have hkl:=sf_len hk
        rw[i33_j3,←re_pq,rtake_no m hk 44 (fun c r hcr=>by have:=hc c r hcr;omega),Option.bind_some,rblanks (m+1) hs' hk (by omega),Option.bind_some]
        exact⟨_,_,sf_bl hk,rlist_lE (m+2) M self (.inr rfl) _ _ _⟩
   cases hbl:sBl l1 with
   |    nil=>
        rw[hbl] at q1
        have e1:(hdB []==93)=false:=rfl
        obtain⟨w,l',k1,k2⟩:=bad [] q1 (fun c t h=>by cases h)
        simp only[e1,cond_false]
        exact⟨.inr rfl,q1,w,l',v.2,trivial,k1,k2⟩
   |    cons c t=>
        rw[hbl] at q1
        rw[hbl,List.length_cons] at hb
        by_cases h93:c.toNat=93
        ·have e1:(hdB (c::t)==93)=true:=by show ((c.toNat:Int)==93)=true;exact bqt (k:=93) h93
         simp only[e1,cond_true,adR q1 hs']
         rw[if_pos h93]
         exact⟨sf_tail q1,rfl⟩
        ·have e1:(hdB (c::t)==93)=false:=by show ((c.toNat:Int)==93)=false;exact bqf (k:=93) h93
         simp only[e1,cond_false]
         rw[if_neg h93]
         by_cases h44:c.toNat=44
         ·have ht:=sBl_len t
          rw[if_pos h44,i33_j3,rtake_ok (m+1) hs' q1 44 (by omega),Option.bind_some,rblanks (m+1) hs' (sf_tail q1) (by omega),Option.bind_some]
          exact rlist_sl m self hs lv hlv sv hsf hg e0 hm N (M+1) (a++[v.1]) v.2 (sBl t) (by omega) (by omega) h2.nn (sf_bl (sf_tail q1)) (by simp;omega)
         ·rw[if_neg h44]
          obtain⟨w,l',k1,k2⟩:=bad (c::t) q1 (fun c' t' h=>by injection h with h _;subst h;exact h44)
          exact⟨.inr rfl,q1,w,l',v.2,trivial,k1,k2⟩
theorem rlist_sim (m:Nat) {s:ByteArray} (hs:s.size<1000000000) (lv:Nat) (hlv:lv≤16) (sv:Bool→Nat→List UInt8→Rs (Dt×Nat)) (hsf:RSlf s (i28 (m+2)) (lv+1) sv)
  (hg:∀n l,n≤1024→match sv false n l with| .er e _=>e=2∨e=4| .ok v l'=>Gv (lv+1) false n l.length v.1 v.2 l'.length) (n:Nat) (hn:n≤1024) (hnil:∀n,sv false n []= .er 4 []) (c:UInt8) (t:List UInt8) (h:Sf s (c::t)) (hc:c.toNat=91) (hm:s.size≤m):
  RSim (fun _=>True) (fun v:Dt×Nat=>v.1) (fun v=>v.2) s (i33 (m+3) (lv:Int) (PQ s (c::t) n)) (match sBl t with| []=> .er 4 []|x::k=>if x.toNat=93 then .ok (vLst [],n) k else sLs (sv false) (t.length+1) [] n (x::k)):=by
 have hs':s.size<1000000000000:=by omega
 have q0:=sf_tail h
 have q1:=sf_bl q0
 have hb:=sBl_len t
 have hls:=sf_len h
 rw[List.length_cons] at hls
 rw[i33,re_pq,rtake_ok (m+1) hs' h 91 (by omega),Option.bind_some,rblanks (m+1) hs' q0 (by omega),Option.bind_some,rnext (m+1) q1,Option.bind_some]
 have loop:∀k,Sf s k→k.length≤t.length→RSim (fun _=>True) (fun v:Dt×Nat=>v.1) (fun v=>v.2) s (i33_l1 (m+2) (i28 (m+2)) (m+3) (lv:Int) (PQ s k n) (Dt.agg [Dt.int 0,Dt.int 0,Dt.str (ByteArray.mk (List.toArray [])),Dt.lst [],Dt.lst []]) 6 0 (ByteArray.mk (List.toArray [])) [] []) (sLs (sv false) (t.length+1) [] n k):=fun k hk hkl=>
  rlist_sl m (i28 (m+2)) hs lv hlv sv hsf hg _ hm (t.length+1) (m+3) [] n k (by omega) (by omega) hn hk (by simp;omega)
 cases hbl:sBl t with
 |nil=>
  rw[hbl] at q1
  have:=loop [] q1 (by simp)
  rw[sLs,hnil] at this
  exact this
 |cons x k=>
  rw[hbl] at q1 hb
  by_cases h93:x.toNat=93
  ·have e1:(hdB (x::k)==93)=true:=by show ((x.toNat:Int)==93)=true;exact bqt (k:=93) h93
   simp only[e1,cond_true,adR q1 hs']
   rw[if_pos h93]
   exact⟨sf_tail q1,rfl⟩
  ·have e1:(hdB (x::k)==93)=false:=by show ((x.toNat:Int)==93)=false;exact bqf (k:=93) h93
   simp only[e1,cond_false]
   rw[if_neg h93]
   exact loop (x::k) q1 hb
end Go.Proofs.YtmejbpmceflcjaaGreatDoor
