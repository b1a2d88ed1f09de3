/- Small facts on the primitive functions of the shallow texts.
Data of the seat's types,taken apart.
Values:well-formed data,and their sizes.
Values:their parts.
Values:how many values are within a value,and how many levels it has:the program's functions and the reference's,in plain Lean. -/
import Derived.Test.YtpifchdngodgjaaGreatDoorAm20
import Derived.Test.YtpifchdngodgjaaGreatDoorAm21
import Derived.Test.YtpifchdngodgjaaGreatDoorProg
import Derived.Test.YtpifchdngodgjaaGreatDoorSh
set_option linter.unusedVariables false
set_option linter.unusedSimpArgs false
namespace Go.Am
theorem wrap64 {n:Int} (h1: -9223372036854775808≤n) (h2:n≤9223372036854775807):IntKind.wrap IntKind.i64 n=n:=by
 unfold IntKind.wrap
 simp only[IntKind.bits,IntKind.signed,Bool.true_and,Nat.add_one_sub_one]
 split<;>rename_i h<;>simp only[ge_iff_le,decide_eq_true_eq] at h<;>omega
theorem wrapS {i:Nat} (h:i<9223372036854775807):IntKind.wrap IntKind.i64 ((i:Int)+1)=((i+1:Nat):Int):=by rw[wrap64 (by omega) (by omega)];omega
theorem idx_lt {l:List Dt} {i:Nat} (h:i<l.length):idx l (i:Int)=some l[i]:=by
 unfold idx
 rw[if_pos (by omega)]
 simp[h]
theorem idxS_lt {s:ByteArray} {i:Nat} (h:i<s.size):idxS s (i:Int)=some ((s[i]).toNat:Int):=by
 unfold idxS
 rw[if_pos (by omega)]
 simp[h]
theorem cutL_nat {l:List Dt} {i j:Nat} (h1:i≤j) (h2:j≤l.length):cutL l (i:Int) (j:Int)=some ((l.drop i).take (j-i)):=by
 unfold cutL
 rw[if_pos (by omega)]
 simp
theorem cutL_zero {l:List Dt} {j:Nat} (h2:j≤l.length):cutL l 0 (j:Int)=some (l.take j):=by
 have:=cutL_nat (l:=l) (i:=0) (j:=j) (by omega) h2
 simpa using this
theorem app_le {l r:List Dt} (h:l.length+r.length≤137438953472):app l r=some (l++r):=by unfold app;rw[if_pos h]
theorem dlt {i j:Nat}:decide ((i:Int)<(j:Int))=decide (i<j):=by simp
theorem dle {i j:Nat}:decide ((i:Int)≤(j:Int))=decide (i≤j):=by simp
end Go.Am
namespace Go.Proofs.YtpifchdngodgjaaGreatDoor
open Go.Am
theorem ty_int {T:TypeId} {k:IntKind} {P:Program} {d:Dt} (hu:P.underlying T=some (.int k)) (h:HasTy P T d):d= .int d.toInt∧k.min≤d.toInt∧d.toInt≤k.max:=by
 obtain⟨_,_,_,h⟩:=h
 obtain⟨h1,_,h2,h3⟩:=h.int_inv hu
 exact⟨h1,h2,h3⟩
theorem ty_lst {T E:TypeId} {P:Program} {d:Dt} (hu:P.underlying T=some (.slice E)) (h:HasTy P T d):d= .lst d.toLst∧d.toLst.length≤maxLen∧∀e∈d.toLst,HasTy P E e:=by
 obtain⟨ok,w,_,h⟩:=h
 obtain⟨h1,a,cap,ad,g,_,h2,h3,_,_,h4⟩:=h.lst_inv hu
 refine⟨h1,Nat.le_trans h2 h3,fun e he=>?_⟩
 obtain⟨i,hi⟩:=List.getElem?_of_mem he
 exact⟨ok,w,_,h4 i e hi⟩
end Go.Proofs.YtpifchdngodgjaaGreatDoor
namespace Go.Proofs.YtpifchdngodgjaaGreatDoor
open Go.Am
mutual
inductive WV:Dt→Prop where
 |mk {k i:Int} {t:ByteArray} {l ds:List Dt} (hl:∀e∈l,WV e) (hd:∀f∈ds,WF f):WV (.agg [.int k,.int i,.str t,.lst l,.lst ds])
inductive WF:Dt→Prop where
 |mk {s:ByteArray} {v:Dt} (h:WV v):WF (.agg [.str s,v])
end
theorem list2 {A:Type} {l:List A} (h:l.length=2):∃a b,l=[a,b]:=by
 match l,h with
 | [a,b],_=>exact⟨a,b,rfl⟩
theorem list5' {A:Type} {l:List A} (h:l.length=5):∃a b c d e,l=[a,b,c,d,e]:=by
 match l,h with
 | [a,b,c,d,e],_=>exact⟨a,b,c,d,e,rfl⟩
structure TQ (T:TypeId) (d:Dt):Prop where
 i:T=3→∃n,d= .int n
 s:T=9→∃s,d= .str s
 v:T=36→WV d
 f:T=71→WF d
 l:T=23→∃l,d= .lst l∧∀e∈l,WV e
 d:T=34→∃l,d= .lst l∧∀e∈l,WF e
theorem tq_of {ok:Nat→Prop} {w:World} {T:TypeId} {d:Dt} {cs:List Value} (h:RD Tryz.prog ok w T d cs):TQ T d:=by
 induction h with
 | @int T k n hu _ _=>
   refine⟨fun _=>⟨n,rfl⟩,?_,?_,?_,?_,?_⟩<;>rintro rfl
   ·have:=hu.symm.trans Tryz.underlying9;cases this
   ·have:=hu.symm.trans Tryz.underlying36;cases this
   ·have:=hu.symm.trans Tryz.underlying71;cases this
   ·have:=hu.symm.trans Tryz.underlying23;cases this
   ·have:=hu.symm.trans Tryz.underlying34;cases this
 | @bool T b hu=>
   refine⟨?_,?_,?_,?_,?_,?_⟩<;>rintro rfl
   ·have:=hu.symm.trans Tryz.underlying3;cases this
   ·have:=hu.symm.trans Tryz.underlying9;cases this
   ·have:=hu.symm.trans Tryz.underlying36;cases this
   ·have:=hu.symm.trans Tryz.underlying71;cases this
   ·have:=hu.symm.trans Tryz.underlying23;cases this
   ·have:=hu.symm.trans Tryz.underlying34;cases this
 | @str T s hu _=>
   refine⟨?_,fun _=>⟨s,rfl⟩,?_,?_,?_,?_⟩<;>rintro rfl
   ·have:=hu.symm.trans Tryz.underlying3;cases this
   ·have:=hu.symm.trans Tryz.underlying36;cases this
   ·have:=hu.symm.trans Tryz.underlying71;cases this
   ·have:=hu.symm.trans Tryz.underlying23;cases this
   ·have:=hu.symm.trans Tryz.underlying34;cases this
 | @agg T fs ds cs hu hl _ _ _ ih=>
   refine⟨?_,?_,?_,?_,?_,?_⟩<;>rintro rfl
   ·have:=hu.symm.trans Tryz.underlying3;cases this
   ·have:=hu.symm.trans Tryz.underlying9;cases this
   ·have e:=hu.symm.trans Tryz.underlying36
    simp only[Option.some.injEq,TypeDesc.struct.injEq] at e
    subst e
    obtain⟨a,b,c,d,e,rfl⟩:=list5' hl
    obtain⟨n0,rfl⟩:=(ih 0 _ a rfl rfl).i rfl
    obtain⟨n1,rfl⟩:=(ih 1 _ b rfl rfl).i rfl
    obtain⟨n2,rfl⟩:=(ih 2 _ c rfl rfl).s rfl
    obtain⟨l,rfl,hl'⟩:=(ih 3 _ d rfl rfl).l rfl
    obtain⟨ds,rfl,hd'⟩:=(ih 4 _ e rfl rfl).d rfl
    exact .mk hl' hd'
   ·have e:=hu.symm.trans Tryz.underlying71
    simp only[Option.some.injEq,TypeDesc.struct.injEq] at e
    subst e
    obtain⟨a,b,rfl⟩:=list2 hl
    obtain⟨s,rfl⟩:=(ih 0 _ a rfl rfl).s rfl
    exact .mk ((ih 1 _ b rfl rfl).v rfl)
   ·have:=hu.symm.trans Tryz.underlying23;cases this
   ·have:=hu.symm.trans Tryz.underlying34;cases this
 | @lst T E es a len cap ad g hu _ _ _ _ _ _ ih=>
   refine⟨?_,?_,?_,?_,?_,?_⟩<;>rintro rfl
   ·have:=hu.symm.trans Tryz.underlying3;cases this
   ·have:=hu.symm.trans Tryz.underlying9;cases this
   ·have:=hu.symm.trans Tryz.underlying36;cases this
   ·have:=hu.symm.trans Tryz.underlying71;cases this
   ·have e:=hu.symm.trans Tryz.underlying23
    simp only[Option.some.injEq,TypeDesc.slice.injEq] at e
    subst e
    refine⟨es,rfl,fun e he=>?_⟩
    obtain⟨i,hi⟩:=List.getElem?_of_mem he
    exact(ih i e hi).v rfl
   ·have e:=hu.symm.trans Tryz.underlying34
    simp only[Option.some.injEq,TypeDesc.slice.injEq] at e
    subst e
    refine⟨es,rfl,fun e he=>?_⟩
    obtain⟨i,hi⟩:=List.getElem?_of_mem he
    exact(ih i e hi).f rfl
 | @arr T E q es cs hu _ _ _ _ ih=>
   refine⟨?_,?_,?_,?_,?_,?_⟩<;>rintro rfl
   ·have:=hu.symm.trans Tryz.underlying3;cases this
   ·have:=hu.symm.trans Tryz.underlying9;cases this
   ·have:=hu.symm.trans Tryz.underlying36;cases this
   ·have:=hu.symm.trans Tryz.underlying71;cases this
   ·have:=hu.symm.trans Tryz.underlying23;cases this
   ·have:=hu.symm.trans Tryz.underlying34;cases this
theorem wv_of {d:Dt} (h:HasTy Tryz.prog 36 d):WV d:=by
 obtain⟨_,_,_,h⟩:=h
 exact(tq_of h).v rfl
theorem bulk_pos (d:Dt):1≤d.bulk:=by cases d<;>simp[Dt.bulk]
theorem bulk_mem {e:Dt}:∀{l:List Dt},e∈l→e.bulk≤Dt.bulkL l
 |a::r,h=>by
  simp only[Dt.bulkL]
  rcases List.mem_cons.1 h with rfl|h
  ·omega
  ·have:=bulk_mem h;omega
theorem len_bulk:∀l:List Dt,l.length≤Dt.bulkL l
 | []=>by simp[Dt.bulkL]
 |a::r=>by have:=len_bulk r;have:=bulk_pos a;simp only[Dt.bulkL,List.length_cons];omega
theorem bulk_val {k i:Int} {t:ByteArray} {l ds:List Dt}:Dt.bulk (.agg [.int k,.int i,.str t,.lst l,.lst ds])=Dt.bulkL l+Dt.bulkL ds+(t.size+6):=by
 simp only[Dt.bulk,Dt.bulkL];omega
theorem bulk_fld {s:ByteArray} {v:Dt}:Dt.bulk (.agg [.str s,v])=v.bulk+s.size+2:=by simp only[Dt.bulk,Dt.bulkL];omega
theorem set_step {A:Type} (l:List A) (z:A) (i:Nat) (h:i<l.length):(l.take i++List.replicate (l.length-i) z).set i l[i]=l.take (i+1)++List.replicate (l.length-(i+1)) z:=by
 rw[List.set_append_right _ _ (by simp;omega)]
 have h1:i-(l.take i).length=0:=by simp;omega
 rw[h1,show l.length-i=(l.length-(i+1))+1 by omega,List.replicate_succ,List.set_cons_zero,List.take_succ_eq_append_getElem h,List.append_assoc]
 rfl
theorem row_len {A:Type} (l:List A) (z:A) (i:Nat) (h:i≤l.length):(l.take i++List.replicate (l.length-i) z).length=l.length:=by simp;omega
theorem inL_lt {l:List Dt} {i:Nat} (h:i<l.length):inL l (i:Int)=some ():=by
 unfold inL
 rw[if_pos (by omega)]
theorem mkL_nat {n:Nat} {z:Dt} (h:n≤137438953472):mkL (n:Int) (n:Int) z=some (List.replicate n z):=by
 unfold mkL
 rw[if_pos (by omega)]
 simp
theorem wv_parts {d:Dt} (hw:WV d):(Dt.L d 3).length≤d.bulk∧(Dt.L d 4).length≤d.bulk∧(∀e∈Dt.L d 3,WV e∧e.bulk<d.bulk)∧(∀f∈Dt.L d 4,WV (Dt.fld f 1)∧(Dt.fld f 1).bulk<d.bulk):=by
 cases hw with
 | @mk  k i t l ds hl hd=>
   rw[bulk_val]
   have h3:=len_bulk l
   have h4:=len_bulk ds
   refine⟨by show l.length≤_;omega,by show ds.length≤_;omega,fun e he=>⟨hl e he,?_⟩,fun f hf=>?_⟩
   ·have:=bulk_mem (show e∈l from he);omega
   ·have hb:=bulk_mem (show f∈ds from hf)
    cases hd f hf with
    |   @mk s v hv=>
        rw[bulk_fld] at hb
        exact⟨hv,by show v.bulk<_;omega⟩
end Go.Proofs.YtpifchdngodgjaaGreatDoor
namespace Go.Proofs.YtpifchdngodgjaaGreatDoor
open Go.Am
def prts (d:Dt):List Dt:=bif Dt.I d 0==6 then Dt.L d 3 else bif Dt.I d 0==5 then(Dt.L d 4).map (·.fld 1) else[]
theorem parts_l6 (m:Nat) (d:Dt) (hl:(Dt.L d 4).length≤137438953472):∀(M i:Nat),i≤(Dt.L d 4).length→(Dt.L d 4).length-i<M→qP_l6 m M (i:Int) d (((Dt.L d 4).map (·.fld 1)).take i)=some ((Dt.L d 4).map (·.fld 1))
 |0,i,_,h=>by omega
 |M+    1,i,hi,h=>by
  simp only[qP_l6,dlt]
  by_cases hlt:i<(Dt.L d 4).length
  ·have happ:app (((Dt.L d 4).map (·.fld 1)).take i) [(Dt.L d 4)[i].fld 1]=some (((Dt.L d 4).map (·.fld 1)).take (i+1)):=by
        rw[app_le (by simp;omega),List.take_succ_eq_append_getElem (by simpa using hlt)]
        simp
   simp only[hlt,decide_true,cond_true,qP_j7,qP_j8,idx_lt hlt,Option.bind_some,happ,wrapS (show i<9223372036854775807 by omega)]
   exact parts_l6 m d hl M (i+1) (by omega) (by omega)
  ·have e:i=(Dt.L d 4).length:=by omega
   simp only[hlt,decide_false,cond_false,qP_j9]
   rw[List.take_of_length_le (by simp;omega)]
theorem parts_l1 (m:Nat) (d:Dt) (hl:(Dt.L d 3).length≤137438953472):∀(M i:Nat),i≤(Dt.L d 3).length→(Dt.L d 3).length-i<M→qP_l1 m M (i:Int) d ((Dt.L d 3).take i)=qP_j4 m d (Dt.L d 3)
 |0,i,_,h=>by omega
 |M+    1,i,hi,h=>by
  simp only[qP_l1,dlt]
  by_cases hlt:i<(Dt.L d 3).length
  ·have happ:app ((Dt.L d 3).take i) [(Dt.L d 3)[i]]=some ((Dt.L d 3).take (i+1)):=by
        rw[app_le (by simp;omega),List.take_succ_eq_append_getElem hlt]
   simp only[hlt,decide_true,cond_true,qP_j2,qP_j3,idx_lt hlt,Option.bind_some,happ,wrapS (show i<9223372036854775807 by omega)]
   exact parts_l1 m d hl M (i+1) (by omega) (by omega)
  ·simp only[hlt,decide_false,cond_false]
   rw[List.take_of_length_le (by omega)]
theorem parts_eq (d:Dt) (hw:WV d) (m:Nat) (hm:d.bulk≤m) (hb:d.bulk≤137438953472):qP (m+1) d=some (prts d):=by
 have hl3:(Dt.L d 3).length≤d.bulk:=by
  cases hw with
  | @mk k i t l ds hl hd=>rw[bulk_val];have:=len_bulk l;show l.length≤_;omega
 have hl4:(Dt.L d 4).length≤d.bulk:=by
  cases hw with
  | @mk k i t l ds hl hd=>rw[bulk_val];have:=len_bulk ds;show ds.length≤_;omega
 have h6:=parts_l6 m d (by omega) (m+1) 0 (Nat.zero_le _) (by omega)
 have h1:=parts_l1 m d (by omega) (m+1) 0 (Nat.zero_le _) (by omega)
 rw[List.take_zero] at h6 h1
 have h6':qP_l6 m (Nat.succ m) 0 d []=_:=h6
 have h1':qP_l1 m (Nat.succ m) 0 d []=_:=h1
 unfold prts
 simp only[qP,qP_j0,h1']
 cases h:(Dt.I d 0==6)
 ·simp only[cond_false,qP_j4,qP_j5,h6',qP_j9]
  cases (Dt.I d 0==5)<;>rfl
 ·have e:Dt.I d 0=6:=by simpa using h
  simp only[cond_true,qP_j4,e]
  rfl
theorem prts_wv {d:Dt} (hw:WV d):∀e∈prts d,WV e∧e.bulk<d.bulk:=by
 cases hw with
 | @mk  k i t l ds hl hd=>
   intro e he
   rw[bulk_val]
   unfold prts at he
   have e1:Dt.I (.agg [.int k,.int i,.str t,.lst l,.lst ds]) 0=k:=rfl
   have e2:Dt.L (.agg [.int k,.int i,.str t,.lst l,.lst ds]) 3=l:=rfl
   have e3:Dt.L (.agg [.int k,.int i,.str t,.lst l,.lst ds]) 4=ds:=rfl
   rw[e1,e2,e3] at he
   cases h6:(k==6)
   ·rw[   h6] at he
    simp only[cond_false] at he
    cases h5:(k==5)
    ·rw[h5] at he;simp at he
    ·   rw[h5] at he
        simp only[cond_true,List.mem_map] at he
        obtain⟨f,hf,rfl⟩:=he
        have hb:=bulk_mem hf
        cases hd f hf with
        | @mk s v hv=>
          rw[bulk_fld] at hb
          exact⟨hv,by show v.bulk<_;omega⟩
   ·rw[h6] at he
    simp only[cond_true] at he
    have hb:=bulk_mem he
    exact⟨hl e he,by omega⟩
theorem prts_len {d:Dt} (hw:WV d):(prts d).length≤d.bulk:=by
 cases hw with
 | @mk k i t l ds hl hd=>
   rw[bulk_val]
   have h3:=len_bulk l
   have h4:=len_bulk ds
   unfold prts
   cases (Dt.I (.agg [.int k,.int i,.str t,.lst l,.lst ds]) 0==6)<;>cases (Dt.I (.agg [.int k,.int i,.str t,.lst l,.lst ds]) 0==5)<;>simp[Dt.L,Dt.fld,Dt.toLst]<;>omega
end Go.Proofs.YtpifchdngodgjaaGreatDoor
namespace Go.Proofs.YtpifchdngodgjaaGreatDoor
open Go.Am
def ndsF:Nat→Dt→Nat
 |0,_=>1
 |n+1,d=>1+((prts d).map (ndsF n)).sum
theorem ndsF_fuel:∀(n n':Nat) (d:Dt),WV d→d.bulk≤n→d.bulk≤n'→ndsF n d=ndsF n' d
 |0,_,d,_,h,_=>by have:=bulk_pos d;omega
 |_+1,0,d,_,_,h=>by have:=bulk_pos d;omega
 |n+1,n'+1,d,hw,h,h'=>by
  simp only[ndsF]
  congr 2
  refine List.map_congr_left fun e he=>?_
  have:=prts_wv hw e he
  exact ndsF_fuel n n' e this.1 (by omega) (by omega)
def nds (d:Dt):Nat:=ndsF d.bulk d
theorem nds_eq {d:Dt} (hw:WV d):nds d=1+((prts d).map nds).sum:=by
 obtain⟨k,hk⟩:∃k,d.bulk=k+1:=⟨d.bulk-1,by have:=bulk_pos d;omega⟩
 unfold nds
 rw[hk]
 simp only[ndsF]
 congr 2
 refine List.map_congr_left fun e he=>?_
 have:=prts_wv hw e he
 exact ndsF_fuel _ _ e this.1 (by omega) (Nat.le_refl _)
theorem nds_pos {d:Dt} (hw:WV d):1≤nds d:=by rw[nds_eq hw];omega
theorem sum_cons (f:Dt→Nat) {L:List Dt} {i:Nat} (h:i<L.length):((L.drop i).map f).sum=f L[i]+((L.drop (i+1)).map f).sum:=by
 rw[List.drop_eq_getElem_cons h,List.map_cons,List.sum_cons]
theorem count_l1 (m:Nat) (self:Dt→Int→Option Int) (L:List Dt) (hl:L.length<9223372036854775807) (most:Nat) (hb:most<1000000) (hs:∀e∈L,∀k:Nat,1≤k→k≤most→self e (k:Int)=some ((min (nds e) k:Nat):Int)):∀(M i acc:Nat),i≤L.length→L.length-i<M→acc≤most→
  zC_l1 m self M (most:Int) (acc:Int) L (i:Int)=some ((min (acc+((L.drop i).map nds).sum) most:Nat):Int)
 |0,i,_,_,h,_=>by omega
 |M+    1,i,acc,hi,h,ha=>by
  simp only[zC_l1,dlt]
  by_cases hlt:i<L.length
  ·simp only[hlt,decide_true,cond_true]
   by_cases hm:acc<most
   ·    have hw:IntKind.wrap IntKind.i64 ((most:Int)-(acc:Int))=((most-acc:Nat):Int):=by rw[wrap64 (by omega) (by omega)];omega
        have hr:=hs _ (List.getElem_mem hlt) (most-acc) (by omega) (by omega)
        have hw2:IntKind.wrap IntKind.i64 ((acc:Int)+((min (nds L[i]) (most-acc):Nat):Int))=((acc+min (nds L[i]) (most-acc):Nat):Int):=by rw[wrap64 (by omega) (by omega)];omega
        simp only[hm,decide_true,cond_true,zC_j3,zC_j2,zC_j4,zC_j0,idx_lt hlt,Option.bind_some,hw,hr,hw2,wrapS (show i<9223372036854775807 by omega),count_l1 m self L hl most hb hs M (i+1) (acc+min (nds L[i]) (most-acc)) (by omega) (by omega) (by omega),sum_cons nds hlt]
        congr 2
        omega
   ·    have:acc=most:=by omega
        subst this
        simp only[hm,decide_false,cond_false]
        first|(simp only[zC_j4];congr 2;omega)|(congr 2;omega)
  ·rw[List.drop_eq_nil_of_le (by omega)]
   simp only[hlt,decide_false,cond_false,List.map_nil,List.sum_nil]
   first|(simp only[zC_j4];congr 2;omega)|(congr 2;omega)
theorem count_eq:∀(N:Nat) (d:Dt),d.bulk≤N→N≤137438953472→WV d→∀m,N≤m→∀most:Nat,1≤most→most<1000000→zC (m+2) d (most:Int)=some ((min (nds d) most:Nat):Int)
 |0,d,h,_,_,_,_,_,_,_=>by have:=bulk_pos d;omega
 |N+1,d,h,hN,hw,m,hm,most,h1,h2=>by
  obtain⟨m,rfl⟩:∃q,m=q+1:=⟨m-1,by omega⟩
  simp only[zC,parts_eq d hw (m+1) (by omega) (by omega),Option.bind_some,zC_j0]
  have hl:=prts_len hw
  have:=count_l1 (m+2) (zC (m+2)) (prts d) (by omega) most h2 (fun e he k hk1 hk2=>by
   obtain⟨hwe,hbe⟩:=prts_wv hw e he
   exact count_eq N e (by omega) (by omega) hwe m (by omega) k hk1 (by omega)) (m+3) 0 1 (Nat.zero_le _) (by omega) h1
  rw[List.drop_zero,←nds_eq hw] at this
  exact this
theorem rNodes_eq {d:Dt} (hw:WV d) (hb:d.bulk≤137438953472) (m:Nat) (hm:d.bulk≤m):zT (m+3) d=some ((min (nds d) 1025:Nat):Int):=by
 simp only[zT]
 rw[show ((1025:Int))=((1025:Nat):Int) from rfl,count_eq d.bulk d (Nat.le_refl _) hb hw m hm 1025 (by omega) (by omega)]
 rfl
theorem each1_l (m:Nat) (self:Dt→Int→Int→Option (Bool×Int×Int)) (L:List Dt) (hl:L.length<9223372036854775807) (most:Nat) (hs:∀e∈L,∀k:Nat,k<most→self e (k:Int) (most:Int)=some (decide (((min (k+nds e) most:Nat):Int)<(most:Int)),((min (k+nds e) most:Nat):Int),(most:Int))):∀(M i acc:Nat),i≤L.length→L.length-i<M→acc<most→
  i67_l1 m self M L (L.length:Int) (i:Int) (acc:Int) (most:Int)=some (((min (acc+((L.drop i).map nds).sum) most:Nat):Int),(most:Int))
 |0,i,_,_,h,_=>by omega
 |M+    1,i,acc,hi,h,ha=>by
  simp only[i67_l1,dlt]
  by_cases hlt:i<L.length
  ·have hr:=hs _ (List.getElem_mem hlt) acc ha
   simp only[hlt,decide_true,cond_true,i67_j3,i67_j2,i67_j0,i67_j7,i67_j6,i67_j4,idx_lt hlt,Option.bind_some,hr,dlt,wrapS (show i<9223372036854775807 by omega),sum_cons nds hlt]
   by_cases hm:min (acc+nds L[i]) most<most
   ·    simp only[hm,decide_true,Bool.not_true,cond_false,each1_l m self L hl most hs M (i+1) (min (acc+nds L[i]) most) (by omega) (by omega) hm]
        congr 3
        omega
   ·    simp only[hm,decide_false,Bool.not_false,cond_true]
        congr 3
        omega
  ·rw[List.drop_eq_nil_of_le (by omega)]
   simp only[hlt,decide_false,cond_false,List.map_nil,List.sum_nil]
   congr 3
   omega
theorem each1_d (m:Nat) (self:Dt→Int→Int→Option (Bool×Int×Int)) (L:List Dt) (hl:L.length<9223372036854775807) (most:Nat) (hs:∀e∈L,∀k:Nat,k<most→self (Dt.fld e 1) (k:Int) (most:Int)=some (decide (((min (k+nds (Dt.fld e 1)) most:Nat):Int)<(most:Int)),((min (k+nds (Dt.fld e 1)) most:Nat):Int),(most:Int))):∀(M i acc:Nat),i≤L.length→L.length-i<M→acc<most→
  i67_l5 m self M L (L.length:Int) (i:Int) (acc:Int) (most:Int)=some (((min (acc+((L.drop i).map fun f=>nds (Dt.fld f 1)).sum) most:Nat):Int),(most:Int))
 |0,i,_,_,h,_=>by omega
 |M+    1,i,acc,hi,h,ha=>by
  simp only[i67_l5,dlt]
  by_cases hlt:i<L.length
  ·have hr:=hs _ (List.getElem_mem hlt) acc ha
   simp only[hlt,decide_true,cond_true,i67_j3,i67_j2,i67_j0,i67_j7,i67_j6,i67_j4,idx_lt hlt,Option.bind_some,hr,dlt,wrapS (show i<9223372036854775807 by omega),sum_cons (fun f=>nds (Dt.fld f 1)) hlt]
   by_cases hm:min (acc+nds (Dt.fld L[i] 1)) most<most
   ·    simp only[hm,decide_true,Bool.not_true,cond_false,each1_d m self L hl most hs M (i+1) (min (acc+nds (Dt.fld L[i] 1)) most) (by omega) (by omega) hm]
        congr 3
        omega
   ·    simp only[hm,decide_false,Bool.not_false,cond_true]
        congr 3
        omega
  ·rw[List.drop_eq_nil_of_le (by omega)]
   simp only[hlt,decide_false,cond_false,List.map_nil,List.sum_nil]
   congr 3
   omega
theorem vnodes_eq:∀(N:Nat) (d:Dt),d.bulk≤N→N≤137438953472→WV d→∀m,3*N≤m→∀most:Nat,1≤most→most<1000000→zL (m+1) d (most:Int)=some ((min (nds d) most:Nat):Int)
 |0,d,h,_,_,_,_,_,_,_=>by have:=bulk_pos d;omega
 |N+    1,d,h,hN,hw,m,hm,most,h1,h2=>by
  obtain⟨m,rfl⟩:∃q,m=q+3:=⟨m-3,by omega⟩
  simp only[zL]
  have hpos:=nds_pos hw
  by_cases e1:most=1
  ·subst e1
   have:(((1:Int))==((1:Nat):Int))=true:=rfl
   simp only[this,cond_true]
   congr 1
   omega
  ·have e2:(((1:Int))==(most:Int))=false:=by rw[beq_eq_false_iff_ne];omega
   have hc:∀e:Dt,WV e→e.bulk≤N→∀k:Nat,k<most→i68 (m+2) e (k:Int) (most:Int)=some (decide (((min (k+nds e) most:Nat):Int)<(most:Int)),((min (k+nds e) most:Nat):Int),(most:Int)):=fun e hwe hbe k hk=>by
        have hw1:IntKind.wrap IntKind.i64 ((most:Int)-(k:Int))=((most-k:Nat):Int):=by rw[wrap64 (by omega) (by omega)];omega
        have hr:=vnodes_eq N e hbe (by omega) hwe m (by omega) (most-k) (by omega) (by omega)
        have hw2:IntKind.wrap IntKind.i64 ((k:Int)+((min (nds e) (most-k):Nat):Int))=((min (k+nds e) most:Nat):Int):=by rw[wrap64 (by omega) (by omega)];omega
        simp only[i68,hw1,hr,Option.bind_some,hw2]
   obtain⟨p1,p2,p3,p4⟩:=wv_parts hw
   have k1:=each1_l (m+2) (i68 (m+2)) (Dt.L d 3) (by omega) most (fun e he=>hc e (p3 e he).1 (by have:=(p3 e he).2;omega)) (m+3) 0 1 (Nat.zero_le _) (by omega) (by omega)
   have k2:=each1_d (m+2) (i68 (m+2)) (Dt.L d 4) (by omega) most (fun e he=>hc _ (p4 e he).1 (by have:=(p4 e he).2;omega)) (m+3) 0 1 (Nat.zero_le _) (by omega) (by omega)
   rw[List.drop_zero] at k1 k2
   have hn:=nds_eq hw
   unfold prts at hn
   simp only[e2,cond_false,zL_j0,i67]
   cases h6:(Dt.I d 0==6)
   ·    rw[h6] at hn
        cases h5:(Dt.I d 0==5)
        ·rw[h5] at hn
         simp only[cond_false,List.map_nil,List.sum_nil] at hn
         simp only[cond_false,Option.bind_some,hn]
         congr 1
         omega
        ·rw[h5] at hn
         simp only[cond_false,cond_true,List.map_map] at hn
         have hn':nds d=1+((Dt.L d 4).map fun f=>nds (Dt.fld f 1)).sum:=hn
         have k2':i67_l5 (m+2) (i68 (m+2)) (Nat.succ (m+2)) (Dt.L d 4) ((Dt.L d 4).length:Int) 0 1 (most:Int)=_:=k2
         simp only[cond_false,cond_true,i67_j3,i67_j2,i67_j0,i67_j7,i67_j6,i67_j4,k2',Option.bind_some,hn']
   ·    rw[h6] at hn
        simp only[cond_true] at hn
        have k1':i67_l1 (m+2) (i68 (m+2)) (Nat.succ (m+2)) (Dt.L d 3) ((Dt.L d 3).length:Int) 0 1 (most:Int)=_:=k1
        simp only[cond_true,i67_j3,i67_j2,i67_j0,i67_j7,i67_j6,i67_j4,k1',Option.bind_some,hn]
theorem vNodes_eq {d:Dt} (hw:WV d) (hb:d.bulk≤137438953472) (m:Nat) (hm:3*d.bulk≤m):zR (m+2) d=some ((min (nds d) 1025:Nat):Int):=by
 simp only[zR]
 rw[show ((1025:Int))=((1025:Nat):Int) from rfl,vnodes_eq d.bulk d (Nat.le_refl _) hb hw m hm 1025 (by omega) (by omega)]
 rfl
end Go.Proofs.YtpifchdngodgjaaGreatDoor
