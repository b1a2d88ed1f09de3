/- Fields by name, numbers, the reference's Set (out of layer 4's texts).
The value that a name denotes in a document.
Values:their integers are 64-bit.
Lengths of encodings:the program's,as a plain function.
The parts of documents for a memory:the program's,as plain functions. -/
import Derived.Test.YtpifchdngodgjaaGreatDoorMA
import Derived.Test.YtpifchdngodgjaaGreatDoorMC
import Derived.Test.YtpifchdngodgjaaGreatDoorMB
set_option linter.unusedVariables false
set_option linter.unusedSimpArgs false
namespace Go.Proofs.YtpifchdngodgjaaGreatDoor
open Go.Am
theorem dn1:decide ((0:Int)≤ -1)=false:=rfl
end Go.Proofs.YtpifchdngodgjaaGreatDoor
namespace Go.Proofs.YtpifchdngodgjaaGreatDoor
open Go.Am
end Go.Proofs.YtpifchdngodgjaaGreatDoor
namespace Go.Proofs.YtpifchdngodgjaaGreatDoor
open Go.Am
def rgI (i:Int):Prop:= -9223372036854775808≤i∧i≤9223372036854775807
mutual
inductive WR:Dt→Prop where
 |mk {k i:Int} {t:ByteArray} {l ds:List Dt} (hi:rgI i) (hl:∀e∈l,WR e) (hd:∀f∈ds,WRF f):WR (.agg [.int k,.int i,.str t,.lst l,.lst ds])
inductive WRF:Dt→Prop where
 |mk {s:ByteArray} {v:Dt} (h:WR v):WRF (.agg [.str s,v])
end
structure TR (T:TypeId) (d:Dt):Prop where
 i:T=3→∃n,d= .int n∧rgI n
 s:T=9→∃s,d= .str s
 v:T=36→WR d
 f:T=71→WRF d
 l:T=23→∃l,d= .lst l∧∀e∈l,WR e
 d:T=34→∃l,d= .lst l∧∀e∈l,WRF e
theorem tr_of {ok:Nat→Prop} {w:World} {T:TypeId} {d:Dt} {cs:List Value} (h:RD Tryz.prog ok w T d cs):TR T d:=by
 induction h with
 | @int T k n hu h1 h2=>
   refine⟨?_,?_,?_,?_,?_,?_⟩<;>rintro rfl
   ·have e:=hu.symm.trans Tryz.underlying3
    simp only[Option.some.injEq,TypeDesc.int.injEq] at e
    subst e
    exact⟨n,rfl,h1,h2⟩
   ·have:=hu.symm.trans Tryz.underlying9;cases this
   ·have:=hu.symm.trans Tryz.underlying36;cases this
   ·have:=hu.symm.trans Tryz.underlying71;cases this
   ·have:=hu.symm.trans Tryz.underlying23;cases this
   ·have:=hu.symm.trans Tryz.underlying34;cases this
 | @bool T b hu=>
   refine⟨?_,?_,?_,?_,?_,?_⟩<;>rintro rfl
   ·have:=hu.symm.trans Tryz.underlying3;cases this
   ·have:=hu.symm.trans Tryz.underlying9;cases this
   ·have:=hu.symm.trans Tryz.underlying36;cases this
   ·have:=hu.symm.trans Tryz.underlying71;cases this
   ·have:=hu.symm.trans Tryz.underlying23;cases this
   ·have:=hu.symm.trans Tryz.underlying34;cases this
 | @str T s hu _=>
   refine⟨?_,fun _=>⟨s,rfl⟩,?_,?_,?_,?_⟩<;>rintro rfl
   ·have:=hu.symm.trans Tryz.underlying3;cases this
   ·have:=hu.symm.trans Tryz.underlying36;cases this
   ·have:=hu.symm.trans Tryz.underlying71;cases this
   ·have:=hu.symm.trans Tryz.underlying23;cases this
   ·have:=hu.symm.trans Tryz.underlying34;cases this
 | @agg T fs ds cs hu hl _ _ _ ih=>
   refine⟨?_,?_,?_,?_,?_,?_⟩<;>rintro rfl
   ·have:=hu.symm.trans Tryz.underlying3;cases this
   ·have:=hu.symm.trans Tryz.underlying9;cases this
   ·have e:=hu.symm.trans Tryz.underlying36
    simp only[Option.some.injEq,TypeDesc.struct.injEq] at e
    subst e
    obtain⟨a,b,c,d,e,rfl⟩:=list5' hl
    obtain⟨n0,rfl,_⟩:=(ih 0 _ a rfl rfl).i rfl
    obtain⟨n1,rfl,hr⟩:=(ih 1 _ b rfl rfl).i rfl
    obtain⟨n2,rfl⟩:=(ih 2 _ c rfl rfl).s rfl
    obtain⟨l,rfl,hl'⟩:=(ih 3 _ d rfl rfl).l rfl
    obtain⟨ds,rfl,hd'⟩:=(ih 4 _ e rfl rfl).d rfl
    exact .mk hr hl' hd'
   ·have e:=hu.symm.trans Tryz.underlying71
    simp only[Option.some.injEq,TypeDesc.struct.injEq] at e
    subst e
    obtain⟨a,b,rfl⟩:=list2 hl
    obtain⟨s,rfl⟩:=(ih 0 _ a rfl rfl).s rfl
    exact .mk ((ih 1 _ b rfl rfl).v rfl)
   ·have:=hu.symm.trans Tryz.underlying23;cases this
   ·have:=hu.symm.trans Tryz.underlying34;cases this
 | @lst T E es a len cap ad g hu _ _ _ _ _ _ ih=>
   refine⟨?_,?_,?_,?_,?_,?_⟩<;>rintro rfl
   ·have:=hu.symm.trans Tryz.underlying3;cases this
   ·have:=hu.symm.trans Tryz.underlying9;cases this
   ·have:=hu.symm.trans Tryz.underlying36;cases this
   ·have:=hu.symm.trans Tryz.underlying71;cases this
   ·have e:=hu.symm.trans Tryz.underlying23
    simp only[Option.some.injEq,TypeDesc.slice.injEq] at e
    subst e
    refine⟨es,rfl,fun e he=>?_⟩
    obtain⟨i,hi⟩:=List.getElem?_of_mem he
    exact(ih i e hi).v rfl
   ·have e:=hu.symm.trans Tryz.underlying34
    simp only[Option.some.injEq,TypeDesc.slice.injEq] at e
    subst e
    refine⟨es,rfl,fun e he=>?_⟩
    obtain⟨i,hi⟩:=List.getElem?_of_mem he
    exact(ih i e hi).f rfl
 | @arr T E q es cs hu _ _ _ _ ih=>
   refine⟨?_,?_,?_,?_,?_,?_⟩<;>rintro rfl
   ·have:=hu.symm.trans Tryz.underlying3;cases this
   ·have:=hu.symm.trans Tryz.underlying9;cases this
   ·have:=hu.symm.trans Tryz.underlying36;cases this
   ·have:=hu.symm.trans Tryz.underlying71;cases this
   ·have:=hu.symm.trans Tryz.underlying23;cases this
   ·have:=hu.symm.trans Tryz.underlying34;cases this
theorem wr_of {d:Dt} (h:HasTy Tryz.prog 36 d):WR d:=by
 obtain⟨_,_,_,h⟩:=h
 exact(tr_of h).v rfl
theorem wr_parts {d:Dt} (hw:WR d):rgI (Dt.I d 1)∧(∀e∈Dt.L d 3,WR e)∧(∀f∈Dt.L d 4,WR (Dt.fld f 1)):=by
 cases hw with
 | @mk k i t l ds hi hl hd=>
   refine⟨hi,hl,fun f hf=>?_⟩
   cases hd f hf with
   |mk h=>exact h
theorem wv_size {d:Dt} (hw:WV d):d.bulk=Dt.bulkL (Dt.L d 3)+Dt.bulkL (Dt.L d 4)+((Dt.S d 2).size+6):=by
 cases hw with
 |mk hl hd=>rw[bulk_val];rfl
theorem wf_size {d:Dt} (hw:WV d):∀f∈Dt.L d 4,f.bulk=(Dt.fld f 1).bulk+(Dt.S f 0).size+2:=by
 cases hw with
 |mk hl hd=>
  intro f hf
  cases hd f hf with
  |mk h=>rw[bulk_fld];rfl
end Go.Proofs.YtpifchdngodgjaaGreatDoor
namespace Go.Proofs.YtpifchdngodgjaaGreatDoor
open Go.Am
def zz (n:Int):Nat:=if 0≤n then(2*n).toNat else(-2*n-1).toNat
def gr:Nat→Nat→Nat
 |0,_=>0
 |k+1,u=>if u<128 then 0 else gr k (u/128)+1
theorem gr_le:∀k u,gr k u≤k
 |0,_=>Nat.le_refl _
 |k+1,u=>by
  rw[gr]
  split
  ·omega
  ·have:=gr_le k (u/128);omega
theorem wrapU64 (x:Int):IntKind.wrap IntKind.u64 x=x%18446744073709551616:=by
 unfold IntKind.wrap
 simp[IntKind.bits,IntKind.signed]
theorem zz_lt {n:Int} (h1: -9223372036854775808≤n) (h2:n≤9223372036854775807):zz n<18446744073709551616:=by
 unfold zz
 split<;>omega
theorem zig_eq (m:Nat) (n:Int) (h1: -9223372036854775808≤n) (h2:n≤9223372036854775807):zP (m+1) n=some ((zz n:Nat):Int):=by
 rw[zP]
 congr 1
 have hs:shrI IntKind.i64 n (63:Int)=n.fdiv 9223372036854775808:=rfl
 have hl:shlI IntKind.u64 (IntKind.wrap IntKind.u64 n) (1:Int)=IntKind.wrap IntKind.u64 (IntKind.wrap IntKind.u64 n*2):=rfl
 rw[hs,hl]
 unfold xorI zz
 simp only[IntKind.bits]
 by_cases h:0≤n
 ·have e1:n.fdiv 9223372036854775808=0:=by rw[Int.fdiv_eq_ediv_of_nonneg _ (by omega)];omega
  have e2:IntKind.wrap IntKind.u64 n=n:=by rw[wrapU64];omega
  have e3:IntKind.wrap IntKind.u64 (n*2)=2*n:=by rw[wrapU64];omega
  have e4:IntKind.wrap IntKind.u64 (0:Int)=0:=by rw[wrapU64];rfl
  rw[e1,e2,e3,e4,if_pos h]
  have e5:((BitVec.ofInt 64 (2*n)^^^BitVec.ofInt 64 0).toNat:Int)=2*n:=by
   have:(BitVec.ofInt 64 (2*n)^^^BitVec.ofInt 64 0)=BitVec.ofInt 64 (2*n):=by simp
   rw[this,BitVec.toNat_ofInt]
   omega
  refine(congrArg (IntKind.wrap IntKind.u64) e5).trans ?_
  rw[wrapU64]
  omega
 ·have e1:n.fdiv 9223372036854775808= -1:=by rw[Int.fdiv_eq_ediv_of_nonneg _ (by omega)];omega
  have e2:IntKind.wrap IntKind.u64 n=n+18446744073709551616:=by rw[wrapU64];omega
  have e3:IntKind.wrap IntKind.u64 ((n+18446744073709551616)*2)=2*n+18446744073709551616:=by rw[wrapU64];omega
  have e4:IntKind.wrap IntKind.u64 (-1:Int)=18446744073709551615:=by rw[wrapU64];rfl
  rw[e1,e2,e3,e4,if_neg h]
  have e5:((BitVec.ofInt 64 (2*n+18446744073709551616)^^^BitVec.ofInt 64 18446744073709551615).toNat:Int)= -2*n-1:=by
   have e6:BitVec.ofInt 64 18446744073709551615=BitVec.allOnes 64:=by decide
   have:(BitVec.ofInt 64 (2*n+18446744073709551616)^^^BitVec.ofInt 64 18446744073709551615)= ~~~ BitVec.ofInt 64 (2*n+18446744073709551616):=by
        rw[e6,BitVec.xor_allOnes]
   rw[this,BitVec.toNat_not,BitVec.toNat_ofInt]
   omega
  refine(congrArg (IntKind.wrap IntKind.u64) e5).trans ?_
  rw[wrapU64]
  omega
theorem shr7 (u:Nat):shrI IntKind.u64 (u:Int) (7:Int)=((u/128:Nat):Int):=by
 have hs:shrI IntKind.u64 (u:Int) (7:Int)=(u:Int).fdiv 128:=rfl
 rw[hs,Int.fdiv_eq_ediv_of_nonneg _ (by omega)]
 omega
theorem num_loop (m:Nat):∀(k M u b:Nat),u<128^(k+1)→k<M→b+k<1000000→qU_l1 m M (b:Int) (u:Int)=some ((b+gr k u:Nat):Int)
 |_,0,_,_,_,h,_=>by omega
 |0,M+1,u,b,hu,_,_=>by
  rw[qU_l1,decide_eq_false (by simp at hu;omega),cond_false]
  rfl
 |k+    1,M+1,u,b,hu,hM,hb=>by
  rw[qU_l1,gr]
  by_cases h:u<128
  ·rw[decide_eq_false (by omega),cond_false,if_pos h]
   rfl
  ·have hd:u/128<128^(k+1):=by
        rw[Nat.pow_succ] at hu
        exact Nat.div_lt_of_lt_mul (by rw[Nat.mul_comm];exact hu)
   rw[decide_eq_true (by omega),cond_true,qU_j2,qU_j3,wrapS (by omega),shr7,num_loop m k M (u/128) (b+1) hd (by omega) (by omega),if_neg h]
   congr 2
   omega
def nlen (n:Int):Nat:=1+gr 9 (zz n)
theorem nlen_le (n:Int):1≤nlen n∧nlen n≤10:=by have:=gr_le 9 (zz n);unfold nlen;omega
theorem nlen_eq (m:Nat) (hm:12≤m) (n:Int) (h1: -9223372036854775808≤n) (h2:n≤9223372036854775807):qU (m+1) n=some ((nlen n:Nat):Int):=by
 obtain⟨q,rfl⟩:∃q,m=q+1:=⟨m-1,by omega⟩
 rw[qU,zig_eq q n h1 h2,Option.bind_some,qU_j0]
 have hz:=zz_lt h1 h2
 exact num_loop (q+1) 9 (q+2) (zz n) 1 (by rw[show (128:Nat)^(9+1)=1180591620717411303424 from by decide];omega) (by omega) (by omega)
noncomputable def lenF:Nat→Dt→Nat
 |0,_=>0
 |n+1,d=>1+(bif Dt.I d 0==3 then nlen (Dt.I d 1) else bif Dt.I d 0==10 then nlen (Dt.I d 1) else bif Dt.I d 0==9 then 1 else bif Dt.I d 0==4 then nlen (Dt.S d 2).size+(Dt.S d 2).size else bif Dt.I d 0==7 then nlen (Dt.S d 2).size+(Dt.S d 2).size else bif Dt.I d 0==8 then(Dt.S d 2).size else bif Dt.I d 0==6 then nlen (Dt.L d 3).length+((Dt.L d 3).map (lenF n)).sum else bif Dt.I d 0==5 then nlen (Dt.L d 4).length+((Dt.L d 4).map fun f=>nlen (Dt.S f 0).size+(Dt.S f 0).size+lenF n (Dt.fld f 1)).sum else 0)
theorem sum_le5 {L:List Dt} {g:Dt→Nat} (h:∀e∈L,g e≤5*e.bulk):(L.map g).sum≤5*Dt.bulkL L:=by
 induction L with
 |nil=>simp[Dt.bulkL]
 |cons x r ih=>
  have h1:=h x List.mem_cons_self
  have h2:=ih fun e he=>h e (List.mem_cons_of_mem _ he)
  simp only[List.map_cons,List.sum_cons,Dt.bulkL]
  omega
theorem lenF_le:∀(N:Nat) (d:Dt),WV d→lenF N d≤5*d.bulk
 |0,d,_=>by simp[lenF]
 |N+1,d,hw=>by
  obtain⟨p1,p2,p3,p4⟩:=wv_parts hw
  have hz:=wv_size hw
  have s3:((Dt.L d 3).map (lenF N)).sum≤5*Dt.bulkL (Dt.L d 3):=sum_le5 fun e he=>lenF_le N e (p3 e he).1
  have s4:((Dt.L d 4).map fun f=>nlen (Dt.S f 0).size+(Dt.S f 0).size+lenF N (Dt.fld f 1)).sum≤5*Dt.bulkL (Dt.L d 4):=sum_le5 fun f hf=>by
   have e1:=lenF_le N _ (p4 f hf).1
   have e2:=wf_size hw f hf
   have e3:=nlen_le (Dt.S f 0).size
   omega
  have n1:=nlen_le (Dt.I d 1)
  have n2:=nlen_le (Dt.S d 2).size
  have n3:=nlen_le (Dt.L d 3).length
  have n4:=nlen_le (Dt.L d 4).length
  have q0:∀(b:Bool) (x y:Nat),x+1≤5*d.bulk→y+1≤5*d.bulk→(bif b then x else y)+1≤5*d.bulk:=fun b x y h1 h2=>by cases b<;>assumption
  rw[lenF,Nat.add_comm]
  exact q0 _ _ _ (by omega) (q0 _ _ _ (by omega) (q0 _ _ _ (by omega) (q0 _ _ _ (by omega) (q0 _ _ _ (by omega) (q0 _ _ _ (by omega) (q0 _ _ _ (by omega) (q0 _ _ _ (by omega) (by omega))))))))
theorem wrapA {a b:Nat} (h:a+b<9223372036854775807):IntKind.wrap IntKind.i64 ((a:Int)+(b:Int))=((a+b:Nat):Int):=by rw[wrap64 (by omega) (by omega)];omega
theorem clen_l4 (m:Nat) (self:Dt→Option Int) (l:List Dt) (g:Dt→Nat) (hl:l.length<1000000000000) (hs:∀e∈l,self e=some ((g e:Nat):Int)):∀(M i b:Nat),i≤l.length→l.length-i<M→b+((l.drop i).map g).sum<1000000000000→qE_l4 m self M (b:Int) l (l.length:Int) (i:Int)=some ((b+((l.drop i).map g).sum:Nat):Int)
 |0,i,b,_,h,_=>by omega
 |M+1,i,b,hi,h,hb=>by
  simp only[qE_l4,dlt]
  by_cases hlt:i<l.length
  ·rw[List.drop_eq_getElem_cons hlt,List.map_cons,List.sum_cons] at hb ⊢
   simp only[hlt,decide_true,cond_true,qE_j1,qE_j6,qE_j5,qE_j3,qE_j10,qE_j9,qE_j7,qE_j2,qE_j0,idx_lt hlt,Option.bind_some,hs _ (List.getElem_mem hlt),wrapS (show i<9223372036854775807 by omega),wrapA (show b+g l[i]<9223372036854775807 by omega)]
   rw[clen_l4 m self l g hl hs M (i+1) (b+g l[i]) (by omega) (by omega) (by omega),Nat.add_assoc]
  ·have:l.drop i=[]:=List.drop_eq_nil_of_le (by omega)
   simp[hlt,this,qE_j1,qE_j6,qE_j5,qE_j3,qE_j10,qE_j9,qE_j7,qE_j2,qE_j0]
theorem clen_l8 (m:Nat) (hm:12≤m) (self:Dt→Option Int) (l:List Dt) (g:Dt→Nat) (hl:l.length<1000000000000) (hz:∀f∈l,(Dt.S f 0).size<1000000000000) (hs:∀f∈l,self (Dt.fld f 1)=some ((g f:Nat):Int)):∀(M i b:Nat),i≤l.length→l.length-i<M→b+((l.drop i).map fun f=>nlen (Dt.S f 0).size+(Dt.S f 0).size+g f).sum<1000000000000→qE_l8 (m+1) self M (b:Int) l (l.length:Int) (i:Int)=some ((b+((l.drop i).map fun f=>nlen (Dt.S f 0).size+(Dt.S f 0).size+g f).sum:Nat):Int)
 |0,i,b,_,h,_=>by omega
 |M+1,i,b,hi,h,hb=>by
  simp only[qE_l8,dlt]
  by_cases hlt:i<l.length
  ·rw[List.drop_eq_getElem_cons hlt,List.map_cons,List.sum_cons] at hb ⊢
   have hn:=nlen_eq m hm (Dt.S l[i] 0).size (by omega) (by have:=hz _ (List.getElem_mem hlt);omega)
   simp only[hlt,decide_true,cond_true,qE_j1,qE_j6,qE_j5,qE_j3,qE_j10,qE_j9,qE_j7,qE_j2,qE_j0,idx_lt hlt,Option.bind_some,hn,hs _ (List.getElem_mem hlt),wrapS (show i<9223372036854775807 by omega),wrapA (show nlen (Dt.S l[i] 0).size+(Dt.S l[i] 0).size<9223372036854775807 by omega),wrapA (show nlen (Dt.S l[i] 0).size+(Dt.S l[i] 0).size+g l[i]<9223372036854775807 by omega),wrapA (show b+(nlen (Dt.S l[i] 0).size+(Dt.S l[i] 0).size+g l[i])<9223372036854775807 by omega)]
   rw[clen_l8 m hm self l g hl hz hs M (i+1) (b+(nlen (Dt.S l[i] 0).size+(Dt.S l[i] 0).size+g l[i])) (by omega) (by omega) (by omega),Nat.add_assoc]
  ·have:l.drop i=[]:=List.drop_eq_nil_of_le (by omega)
   simp[hlt,this,qE_j1,qE_j6,qE_j5,qE_j3,qE_j10,qE_j9,qE_j7,qE_j2,qE_j0]
theorem clen_eq:∀(N:Nat) (d:Dt),WV d→WR d→d.bulk≤N→N≤100000000000→∀m,N+30≤m→qE (m+1) d=some ((lenF N d:Nat):Int)
 |0,d,_,_,h,_,_,_=>by have:=bulk_pos d;omega
 |N+1,d,hw,hr,h,hN,m,hm=>by
  obtain⟨p1,p2,p3,p4⟩:=wv_parts hw
  obtain⟨r1,r3,r4⟩:=wr_parts hr
  have hz:=wv_size hw
  have hle:=lenF_le (N+1) d hw
  obtain⟨q,rfl⟩:∃q,m=q+1:=⟨m-1,by omega⟩
  have k3:=clen_l4 (q+1) (qE (q+1)) (Dt.L d 3) (lenF N) (by omega) (fun e he=>clen_eq N e (p3 e he).1 (r3 e he) (by have:=(p3 e he).2;omega) (by omega) q (by omega)) (q+2) 0
  have k4:=clen_l8 q (by omega) (qE (q+1)) (Dt.L d 4) (fun f=>lenF N (Dt.fld f 1)) (by omega) (fun f hf=>by have:=wf_size hw f hf;have:=bulk_mem hf;omega) (fun f hf=>clen_eq N _ (p4 f hf).1 (r4 f hf) (by have:=(p4 f hf).2;omega) (by omega) q (by omega)) (q+2) 0
  have n1:=nlen_eq q (by omega) (Dt.I d 1) r1.1 r1.2
  have n2:=nlen_eq q (by omega) (Dt.S d 2).size (by omega) (by omega)
  have n3:=nlen_eq q (by omega) (Dt.L d 3).length (by omega) (by omega)
  have n4:=nlen_eq q (by omega) (Dt.L d 4).length (by omega) (by omega)
  have one:∀k:Nat,k<1000000000000→IntKind.wrap IntKind.i64 ((1:Int)+(k:Int))=((1+k:Nat):Int):=fun k hk=>wrapA (a:=1) (by omega)
  have o1:=one (nlen (Dt.I d 1)) (by have:=nlen_le (Dt.I d 1);omega)
  have l2:=nlen_le (Dt.S d 2).size
  have l3:=nlen_le (Dt.L d 3).length
  have l4:=nlen_le (Dt.L d 4).length
  rw[lenF] at hle ⊢
  simp only[qE,qE_j1,qE_j6,qE_j5,qE_j3,qE_j10,qE_j9,qE_j7,qE_j2,qE_j0]
  cases e3:(Dt.I d 0==3)
  case true=>simp only[cond_true,n1,Option.bind_some,o1]
  cases e10:(Dt.I d 0==10)
  case true=>simp only[cond_true,cond_false,n1,Option.bind_some,o1]
  cases e9:(Dt.I d 0==9)
  case true=>simp only[cond_true,cond_false];rfl
  cases e4:(Dt.I d 0==4)
  case true=>simp only[cond_true,cond_false,n2,Option.bind_some,wrapA (show nlen (Dt.S d 2).size+(Dt.S d 2).size<9223372036854775807 by omega),one (nlen (Dt.S d 2).size+(Dt.S d 2).size) (by omega)]
  cases e7:(Dt.I d 0==7)
  case true=>simp only[cond_true,cond_false,n2,Option.bind_some,wrapA (show nlen (Dt.S d 2).size+(Dt.S d 2).size<9223372036854775807 by omega),one (nlen (Dt.S d 2).size+(Dt.S d 2).size) (by omega)]
  cases e8:(Dt.I d 0==8)
  case true=>simp only[cond_true,cond_false,one (Dt.S d 2).size (by omega)]
  cases e6:(Dt.I d 0==6)
  case true=>
   simp only[e3,e10,e9,e4,e7,e8,e6,cond_true,cond_false] at hle
   simp only[cond_true,cond_false,n3,Option.bind_some,one (nlen (Dt.L d 3).length) (by omega)]
   have:=k3 (1+nlen (Dt.L d 3).length) (Nat.zero_le _) (by omega) (by rw[List.drop_zero];omega)
   rw[List.drop_zero,Nat.add_assoc] at this
   exact this
  cases e5:(Dt.I d 0==5)
  case true=>
   simp only[e3,e10,e9,e4,e7,e8,e6,e5,cond_true,cond_false] at hle
   simp only[cond_true,cond_false,n4,Option.bind_some,one (nlen (Dt.L d 4).length) (by omega)]
   have:=k4 (1+nlen (Dt.L d 4).length) (Nat.zero_le _) (by omega) (by rw[List.drop_zero];omega)
   rw[List.drop_zero,Nat.add_assoc] at this
   exact this
  simp only[cond_false]
  rfl
end Go.Proofs.YtpifchdngodgjaaGreatDoor
namespace Go.Proofs.YtpifchdngodgjaaGreatDoor
open Go.Am
def splitP (g:Dt→Nat) (mem:Int):List Dt→Nat→List Dt→List (List Dt)×List Dt×Nat
 |cur,sz,[]=>([],cur,sz)
 |cur,sz,d::r=>bif !cur.isEmpty&&decide (mem<((sz+g d:Nat):Int)) then(cur::(splitP g mem [d] (g d) r).1,(splitP g mem [d] (g d) r).2) else splitP g mem (cur++[d]) (sz+g d) r
theorem split_flat (g:Dt→Nat) (mem:Int):∀(r cur:List Dt) (sz:Nat),(splitP g mem cur sz r).1.flatten++(splitP g mem cur sz r).2.1=cur++r
 | [],cur,sz=>by simp[splitP]
 |d::r,cur,sz=>by
  rw[splitP]
  cases (!cur.isEmpty&&decide (mem<((sz+g d:Nat):Int)))
  ·rw[cond_false,split_flat g mem r];simp
  ·rw[cond_true]
   have:=split_flat g mem r [d] (g d)
   simp only[List.flatten_cons,List.append_assoc,this]
   simp
theorem split_len (g:Dt→Nat) (mem:Int):∀(r cur:List Dt) (sz:Nat),(splitP g mem cur sz r).1.length≤r.length
 | [],cur,sz=>by simp[splitP]
 |d::r,cur,sz=>by
  rw[splitP,List.length_cons]
  cases (!cur.isEmpty&&decide (mem<((sz+g d:Nat):Int)))
  ·rw[cond_false];have:=split_len g mem r (cur++[d]) (sz+g d);omega
  ·rw[cond_true];have:=split_len g mem r [d] (g d);simp only[List.length_cons];omega
noncomputable def finP (mem:Int) (al:Bool) (LL last:List Dt) (sz:Nat):List Dt×Int:=
 bif LL.isEmpty&&decide ((sz:Int)≤mem) then([],0) else bif al then(LL++[.lst last],0) else([],22)
theorem take_more {D:List Dt} {f k:Nat} (h:f+k<D.length):(D.drop f).take (k+1)=(D.drop f).take k++[D[f+k]]:=by
 rw[List.take_succ_eq_append_getElem (by rw[List.length_drop];omega),List.getElem_drop]
theorem sparts_l (m:Nat) (D:List Dt) (mem:Int) (al:Bool) (g:Dt→Nat) (hg:∀d∈D,zJ m d=some (((g d:Nat):Int),0)) (h1:1≤mem) (h2:mem≤9223372036854775807) (hl:D.length<1000000):∀(M f k sz:Nat) (L:List Dt),f+k≤D.length→D.length-(f+k)<M→sz+((D.drop (f+k)).map g).sum<1000000000000→L.length+(D.length-(f+k))<1000000→
  qO_l2 m M D mem al (f:Int) (sz:Int) D (D.length:Int) ((f+k:Nat):Int) L=some (finP mem al (L++(splitP g mem ((D.drop f).take k) sz (D.drop (f+k))).1.map Dt.lst) (splitP g mem ((D.drop f).take k) sz (D.drop (f+k))).2.1 (splitP g mem ((D.drop f).take k) sz (D.drop (f+k))).2.2)
 |0,f,k,sz,L,_,h,_,_=>by omega
 |M+    1,f,k,sz,L,hi,h,hb,hL=>by
  simp only[qO_l2,dlt]
  by_cases hlt:f+k<D.length
  ·have hd:=List.drop_eq_getElem_cons hlt
   rw[hd,List.map_cons,List.sum_cons] at hb
   simp only[hlt,decide_true,cond_true,qO_j6,qO_j5,qO_j4,qO_j3,qO_j10,qO_j9,qO_j8,qO_j7,qO_j1,qO_j0,idx_lt hlt,Option.bind_some,hg _ (List.getElem_mem hlt)]
   rw[hd,splitP]
   have go:qO_l2 m M D mem al (f:Int) (IntKind.wrap IntKind.i64 ((sz:Int)+(g D[f+k]:Int))) D (D.length:Int) (IntKind.wrap IntKind.i64 (((f+k:Nat):Int)+1)) L=some (finP mem al (L++(splitP g mem ((D.drop f).take k++[D[f+k]]) (sz+g D[f+k]) (D.drop (f+k+1))).1.map Dt.lst) (splitP g mem ((D.drop f).take k++[D[f+k]]) (sz+g D[f+k]) (D.drop (f+k+1))).2.1 (splitP g mem ((D.drop f).take k++[D[f+k]]) (sz+g D[f+k]) (D.drop (f+k+1))).2.2):=by
        rw[wrapA (by omega),wrapS (by omega),←take_more hlt]
        exact sparts_l m D mem al g hg h1 h2 hl M f (k+1) (sz+g D[f+k]) L (by omega) (by omega) (by rw[←Nat.add_assoc];omega) (by omega)
   cases k with
   |    zero=>
        have e1:decide ((f:Int)<((f+0:Nat):Int))=false:=decide_eq_false (by omega)
        simp only[e1,cond_false,List.take_zero,List.isEmpty_nil,Bool.not_true,Bool.false_and]
        simp only[List.take_zero] at go
        exact go
   |    succ k=>
        have e1:decide ((f:Int)<((f+(k+1):Nat):Int))=true:=decide_eq_true (by omega)
        have e2:((D.drop f).take (k+1)).isEmpty=false:=by
         rw[take_more (by omega)];simp
        have e3:decide (IntKind.wrap IntKind.i64 (mem-(sz:Int))<(g D[f+(k+1)]:Int))=decide (mem<((sz+g D[f+(k+1)]:Nat):Int)):=by
         rw[wrap64 (by omega) (by omega)]
         exact decide_eq_decide.2 (by omega)
        simp only[e1,cond_true,e2,Bool.not_false,Bool.true_and,e3]
        cases decide (mem<((sz+g D[f+(k+1)]:Nat):Int))
        ·simp only[cond_false]
         exact go
        ·simp only[cond_true]
         have c1:cutL D (f:Int) ((f+(k+1):Nat):Int)=some ((D.drop f).take (k+1)):=by
          rw[cutL_nat (by omega) (by omega)]
          congr 2
          omega
         have z:IntKind.wrap IntKind.i64 ((0:Int)+(g D[f+(k+1)]:Int))=((g D[f+(k+1)]:Nat):Int):=by rw[wrap64 (by omega) (by omega)];omega
         rw[c1,Option.bind_some,app_le (by simp;omega),Option.bind_some,z,wrapS (by omega)]
         have:=sparts_l m D mem al g hg h1 h2 hl M (f+(k+1)) 1 (g D[f+(k+1)]) (L++[Dt.lst ((D.drop f).take (k+1))]) (by omega) (by omega) (by omega) (by rw[List.length_append,List.length_singleton];omega)
         have t1:(D.drop (f+(k+1))).take 1=[D[f+(k+1)]]:=by rw[hd];rfl
         rw[t1] at this
         simpa using this
  ·have hk:f+k=D.length:=by omega
   have hd:D.drop (f+k)=[]:=List.drop_eq_nil_of_le (by omega)
   have c1:cutL D (f:Int) ((D.length:Nat):Int)=some ((D.drop f).take k):=by
        rw[cutL_nat (by omega) (by omega)]
        congr 2
        omega
   rw[hd,splitP]
   simp only[hlt,decide_false,cond_false,qO_j6,qO_j5,qO_j4,qO_j3,qO_j10,qO_j9,qO_j8,qO_j7,qO_j1,qO_j0,c1,Option.bind_some,List.map_nil,List.append_nil,finP]
   rw[app_le (by simp;omega),Option.bind_some]
   cases L with
   |    nil=>
        have e0:((([]:List Dt).length:Int)==0)=true:=rfl
        simp only[e0,cond_true,List.isEmpty_nil,Bool.true_and]
        cases decide ((sz:Int)≤mem)<;>cases al<;>rfl
   |    cons x r=>
        have e0:(((x::r).length:Int)==0)=false:=by rw[List.length_cons,beq_eq_false_iff_ne];omega
        simp only[e0,cond_false,List.isEmpty_cons,Bool.false_and]
        cases al<;>rfl
theorem sparts_eq (m:Nat) (D:List Dt) (mem:Int) (al:Bool) (g:Dt→Nat) (hg:∀d∈D,zJ m d=some (((g d:Nat):Int),0)) (h1:1≤mem) (h2:mem≤9223372036854775807) (hl:D.length<1000000) (hm:D.length<m) (hb:(D.map g).sum<1000000000000):
  qO (m+1) D mem al=some (finP mem al ((splitP g mem [] 0 D).1.map Dt.lst) (splitP g mem [] 0 D).2.1 (splitP g mem [] 0 D).2.2):=by
 have:=sparts_l m D mem al g hg h1 h2 hl (m+1) 0 0 0 [] (by omega) (by omega) (by rw[Nat.zero_add,List.drop_zero];omega) (by simp;omega)
 rw[List.take_zero,List.nil_append,List.drop_zero] at this
 rw[qO,decide_eq_false (by omega),cond_false]
 exact this
theorem sparts_arg (m:Nat) (D:List Dt) (mem:Int) (al:Bool) (h1:mem<1):qO (m+1) D mem al=some ([],1):=by
 rw[qO,decide_eq_true h1,cond_true]
end Go.Proofs.YtpifchdngodgjaaGreatDoor
