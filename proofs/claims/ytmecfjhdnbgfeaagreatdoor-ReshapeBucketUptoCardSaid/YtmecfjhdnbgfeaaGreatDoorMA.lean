/- Small facts on the primitive functions of the shallow texts.
Data of the seat's types,taken apart.
Values:well-formed data,and their sizes.
Values:their parts.
Values:how many values are within a value,and how many levels it has:the program's functions and the reference's,in plain Lean.
Names,in plain Lean.
UTF-8:the library's decoder and the reference's test agree,in plain Lean.
UTF-8:the reference's test is the library's.
Sets of strings as maps:what a map of 'true' holds is what was put in. -/
import Derived.Test.YtmecfjhdnbgfeaaGreatDoorAm20
import Derived.Test.YtmecfjhdnbgfeaaGreatDoorAm21
import Derived.Test.YtmecfjhdnbgfeaaGreatDoorProg
import Derived.Test.YtmecfjhdnbgfeaaGreatDoorSh
import Derived.Lib.MapLaws
import Derived.Lib.ValidU
set_option linter.unusedVariables false
set_option linter.unusedSimpArgs false
namespace Go.Am
theorem wrap64 {n:Int} (h1: -9223372036854775808≤n) (h2:n≤9223372036854775807):IntKind.wrap IntKind.i64 n=n:=by
 unfold IntKind.wrap
 simp only[IntKind.bits,IntKind.signed,Bool.true_and,Nat.add_one_sub_one]
 split<;>rename_i h<;>simp only[ge_iff_le,decide_eq_true_eq] at h<;>omega
theorem aM {i:Nat} (h:i<9223372036854775807):IntKind.wrap IntKind.i64 ((i:Int)+1)=((i+1:Nat):Int):=by rw[wrap64 (by omega) (by omega)];omega
theorem aC {l:List Dt} {i:Nat} (h:i<l.length):idx l (i:Int)=some l[i]:=by
 unfold idx
 rw[if_pos (by omega)]
 simp[h]
theorem oK {s:ByteArray} {i:Nat} (h:i<s.size):idxS s (i:Int)=some ((s[i]).toNat:Int):=by
 unfold idxS
 rw[if_pos (by omega)]
 simp[h]
theorem afI {l:List Dt} {i j:Nat} (h1:i≤j) (h2:j≤l.length):cutL l (i:Int) (j:Int)=some ((l.drop i).take (j-i)):=by
 unfold cutL
 rw[if_pos (by omega)]
 simp
theorem LH {s:ByteArray} {i j:Nat} (h1:i≤j) (h2:j≤s.size):cutS s (i:Int) (j:Int)=some (s.extract i j):=by
 unfold cutS
 rw[if_pos (by omega)]
 simp
theorem jg {l r:List Dt} (h:l.length+r.length≤137438953472):app l r=some (l++r):=by unfold app;rw[if_pos h]
theorem dlt {i j:Nat}:decide ((i:Int)<(j:Int))=decide (i<j):=by simp
theorem dle {i j:Nat}:decide ((i:Int)≤(j:Int))=decide (i≤j):=by simp
theorem ieq {i j:Nat}:(((i:Int)==(j:Int)):Bool)=(i==j):=by
 rw[Bool.eq_iff_iff];simp;omega
end Go.Am
namespace Go.Proofs.YtmecfjhdnbgfeaaGreatDoor
open Go.Am
theorem YI {T E:TypeId} {P:Program} {d:Dt} (hu:P.underlying T=some (.slice E)) (h:HasTy P T d):d= .lst d.toLst∧d.toLst.length≤maxLen∧∀e∈d.toLst,HasTy P E e:=by
 obtain⟨ok,w,_,h⟩:=h
 obtain⟨h1,a,cap,ad,g,_,h2,h3,_,_,h4⟩:=h.lst_inv hu
 refine⟨h1,Nat.le_trans h2 h3,fun e he=>?_⟩
 obtain⟨i,hi⟩:=List.getElem?_of_mem he
 exact⟨ok,w,_,h4 i e hi⟩
theorem al3 {T:TypeId} {fs:Array Field} {P:Program} {d:Dt} (hu:P.underlying T=some (.struct fs)) (h:HasTy P T d):(∃ds,d= .agg ds∧ds.length=fs.size)∧∀i f,fs[i]? =some f→HasTy P f.type (d.fld i):=by
 obtain⟨ok,w,_,h⟩:=h
 obtain⟨h1,_,_,h2⟩:=h.agg_inv hu
 exact⟨h1,fun i f hf=>⟨ok,w,_,h2 i f hf⟩⟩
end Go.Proofs.YtmecfjhdnbgfeaaGreatDoor
namespace Go.Proofs.YtmecfjhdnbgfeaaGreatDoor
open Go.Am
mutual
inductive WV:Dt→Prop where
 |mk {k i:Int} {t:ByteArray} {l ds:List Dt} (hl:∀e∈l,WV e) (hd:∀f∈ds,WF f):WV (.agg [.int k,.int i,.str t,.lst l,.lst ds])
inductive WF:Dt→Prop where
 |mk {s:ByteArray} {v:Dt} (h:WV v):WF (.agg [.str s,v])
end
theorem ao8 {A:Type} {l:List A} (h:l.length=2):∃a b,l=[a,b]:=by
 match l,h with
 | [a,b],_=>exact⟨a,b,rfl⟩
theorem al4 {A:Type} {l:List A} (h:l.length=5):∃a b c d e,l=[a,b,c,d,e]:=by
 match l,h with
 | [a,b,c,d,e],_=>exact⟨a,b,c,d,e,rfl⟩
structure TQ (T:TypeId) (d:Dt):Prop where
 i:T=3→∃n,d= .int n
 s:T=9→∃s,d= .str s
 v:T=26→WV d
 f:T=48→WF d
 l:T=23→∃l,d= .lst l∧∀e∈l,WV e
 d:T=24→∃l,d= .lst l∧∀e∈l,WF e
theorem ao9 {ok:Nat→Prop} {w:World} {T:TypeId} {d:Dt} {cs:List Value} (h:RD Tryz.prog ok w T d cs):TQ T d:=by
 induction h with
 | @int T k n hu _ _=>
   refine⟨fun _=>⟨n,rfl⟩,?_,?_,?_,?_,?_⟩<;>rintro rfl
   ·have:=hu.symm.trans Tryz.underlying9;cases this
   ·have:=hu.symm.trans Tryz.underlying26;cases this
   ·have:=hu.symm.trans Tryz.underlying48;cases this
   ·have:=hu.symm.trans Tryz.underlying23;cases this
   ·have:=hu.symm.trans Tryz.underlying24;cases this
 | @bool T b hu=>
   refine⟨?_,?_,?_,?_,?_,?_⟩<;>rintro rfl
   ·have:=hu.symm.trans Tryz.underlying3;cases this
   ·have:=hu.symm.trans Tryz.underlying9;cases this
   ·have:=hu.symm.trans Tryz.underlying26;cases this
   ·have:=hu.symm.trans Tryz.underlying48;cases this
   ·have:=hu.symm.trans Tryz.underlying23;cases this
   ·have:=hu.symm.trans Tryz.underlying24;cases this
 | @str T s hu _=>
   refine⟨?_,fun _=>⟨s,rfl⟩,?_,?_,?_,?_⟩<;>rintro rfl
   ·have:=hu.symm.trans Tryz.underlying3;cases this
   ·have:=hu.symm.trans Tryz.underlying26;cases this
   ·have:=hu.symm.trans Tryz.underlying48;cases this
   ·have:=hu.symm.trans Tryz.underlying23;cases this
   ·have:=hu.symm.trans Tryz.underlying24;cases this
 | @agg T fs ds cs hu hl _ _ _ ih=>
   refine⟨?_,?_,?_,?_,?_,?_⟩<;>rintro rfl
   ·have:=hu.symm.trans Tryz.underlying3;cases this
   ·have:=hu.symm.trans Tryz.underlying9;cases this
   ·have e:=hu.symm.trans Tryz.underlying26
    simp only[Option.some.injEq,TypeDesc.struct.injEq] at e
    subst e
    obtain⟨a,b,c,d,e,rfl⟩:=al4 hl
    obtain⟨n0,rfl⟩:=(ih 0 _ a rfl rfl).i rfl
    obtain⟨n1,rfl⟩:=(ih 1 _ b rfl rfl).i rfl
    obtain⟨n2,rfl⟩:=(ih 2 _ c rfl rfl).s rfl
    obtain⟨l,rfl,hl'⟩:=(ih 3 _ d rfl rfl).l rfl
    obtain⟨ds,rfl,hd'⟩:=(ih 4 _ e rfl rfl).d rfl
    exact .mk hl' hd'
   ·have e:=hu.symm.trans Tryz.underlying48
    simp only[Option.some.injEq,TypeDesc.struct.injEq] at e
    subst e
    obtain⟨a,b,rfl⟩:=ao8 hl
    obtain⟨s,rfl⟩:=(ih 0 _ a rfl rfl).s rfl
    exact .mk ((ih 1 _ b rfl rfl).v rfl)
   ·have:=hu.symm.trans Tryz.underlying23;cases this
   ·have:=hu.symm.trans Tryz.underlying24;cases this
 | @lst T E es a len cap ad g hu _ _ _ _ _ _ ih=>
   refine⟨?_,?_,?_,?_,?_,?_⟩<;>rintro rfl
   ·have:=hu.symm.trans Tryz.underlying3;cases this
   ·have:=hu.symm.trans Tryz.underlying9;cases this
   ·have:=hu.symm.trans Tryz.underlying26;cases this
   ·have:=hu.symm.trans Tryz.underlying48;cases this
   ·have e:=hu.symm.trans Tryz.underlying23
    simp only[Option.some.injEq,TypeDesc.slice.injEq] at e
    subst e
    refine⟨es,rfl,fun e he=>?_⟩
    obtain⟨i,hi⟩:=List.getElem?_of_mem he
    exact(ih i e hi).v rfl
   ·have e:=hu.symm.trans Tryz.underlying24
    simp only[Option.some.injEq,TypeDesc.slice.injEq] at e
    subst e
    refine⟨es,rfl,fun e he=>?_⟩
    obtain⟨i,hi⟩:=List.getElem?_of_mem he
    exact(ih i e hi).f rfl
 | @arr T E q es cs hu _ _ _ _ ih=>
   refine⟨?_,?_,?_,?_,?_,?_⟩<;>rintro rfl
   ·have:=hu.symm.trans Tryz.underlying3;cases this
   ·have:=hu.symm.trans Tryz.underlying9;cases this
   ·have:=hu.symm.trans Tryz.underlying26;cases this
   ·have:=hu.symm.trans Tryz.underlying48;cases this
   ·have:=hu.symm.trans Tryz.underlying23;cases this
   ·have:=hu.symm.trans Tryz.underlying24;cases this
 | @nilp T E hu=>
   refine⟨?_,?_,?_,?_,?_,?_⟩<;>rintro rfl
   ·have:=hu.symm.trans Tryz.underlying3;cases this
   ·have:=hu.symm.trans Tryz.underlying9;cases this
   ·have:=hu.symm.trans Tryz.underlying26;cases this
   ·have:=hu.symm.trans Tryz.underlying48;cases this
   ·have:=hu.symm.trans Tryz.underlying23;cases this
   ·have:=hu.symm.trans Tryz.underlying24;cases this
 | @ptr T E d cs ad hu _ _ _ _ _=>
   refine⟨?_,?_,?_,?_,?_,?_⟩<;>rintro rfl
   ·have:=hu.symm.trans Tryz.underlying3;cases this
   ·have:=hu.symm.trans Tryz.underlying9;cases this
   ·have:=hu.symm.trans Tryz.underlying26;cases this
   ·have:=hu.symm.trans Tryz.underlying48;cases this
   ·have:=hu.symm.trans Tryz.underlying23;cases this
   ·have:=hu.symm.trans Tryz.underlying24;cases this
theorem afJ {d:Dt} (h:HasTy Tryz.prog 26 d):WV d:=by
 obtain⟨_,_,_,h⟩:=h
 exact(ao9 h).v rfl
theorem fH (d:Dt):1≤d.bulk:=by cases d<;>simp[Dt.bulk]
theorem lC {e:Dt}:∀{l:List Dt},e∈l→e.bulk≤Dt.bulkL l
 |a::r,h=>by
  simp only[Dt.bulkL]
  rcases List.mem_cons.1 h with rfl|h
  ·omega
  ·have:=lC h;omega
theorem jh:∀l:List Dt,l.length≤Dt.bulkL l
 | []=>by simp[Dt.bulkL]
 |a::r=>by have:=jh r;have:=fH a;simp only[Dt.bulkL,List.length_cons];omega
theorem mO {k i:Int} {t:ByteArray} {l ds:List Dt}:Dt.bulk (.agg [.int k,.int i,.str t,.lst l,.lst ds])=Dt.bulkL l+Dt.bulkL ds+(t.size+6):=by
 simp only[Dt.bulk,Dt.bulkL];omega
theorem vo {s:ByteArray} {v:Dt}:Dt.bulk (.agg [.str s,v])=v.bulk+s.size+2:=by simp only[Dt.bulk,Dt.bulkL];omega
theorem AU {A:Type} (l:List A) (z:A) (i:Nat) (h:i<l.length):(l.take i++List.replicate (l.length-i) z).set i l[i]=l.take (i+1)++List.replicate (l.length-(i+1)) z:=by
 rw[List.set_append_right _ _ (by simp;omega)]
 have h1:i-(l.take i).length=0:=by simp;omega
 rw[h1,show l.length-i=(l.length-(i+1))+1 by omega,List.replicate_succ,List.set_cons_zero,List.take_succ_eq_append_getElem h,List.append_assoc]
 rfl
theorem E9 {A:Type} (l:List A) (z:A) (i:Nat) (h:i≤l.length):(l.take i++List.replicate (l.length-i) z).length=l.length:=by simp;omega
theorem tY {l:List Dt} {i:Nat} (h:i<l.length):inL l (i:Int)=some ():=by
 unfold inL
 rw[if_pos (by omega)]
theorem wI {n:Nat} {z:Dt} (h:n≤137438953472):mkL (n:Int) (n:Int) z=some (List.replicate n z):=by
 unfold mkL
 rw[if_pos (by omega)]
 simp
theorem AX {d:Dt} (hw:WV d):(Dt.L d 3).length≤d.bulk∧(Dt.L d 4).length≤d.bulk∧(∀e∈Dt.L d 3,WV e∧e.bulk<d.bulk)∧(∀f∈Dt.L d 4,WV (Dt.fld f 1)∧(Dt.fld f 1).bulk<d.bulk):=by
 cases hw with
 | @mk  k i t l ds hl hd=>
   rw[mO]
   have h3:=jh l
   have h4:=jh ds
   refine⟨by show l.length≤_;omega,by show ds.length≤_;omega,fun e he=>⟨hl e he,?_⟩,fun f hf=>?_⟩
   ·have:=lC (show e∈l from he);omega
   ·have hb:=lC (show f∈ds from hf)
    cases hd f hf with
    |   @mk s v hv=>
        rw[vo] at hb
        exact⟨hv,by show v.bulk<_;omega⟩
end Go.Proofs.YtmecfjhdnbgfeaaGreatDoor
namespace Go.Proofs.YtmecfjhdnbgfeaaGreatDoor
open Go.Am
def qx (d:Dt):List Dt:=bif Dt.I d 0==6 then Dt.L d 3 else bif Dt.I d 0==5 then(Dt.L d 4).map (·.fld 1) else[]
theorem VI (m:Nat) (d:Dt) (hl:(Dt.L d 4).length≤137438953472):∀(M i:Nat),i≤(Dt.L d 4).length→(Dt.L d 4).length-i<M→kM m M (i:Int) d (((Dt.L d 4).map (·.fld 1)).take i)=some ((Dt.L d 4).map (·.fld 1))
 |0,i,_,h=>by omega
 |M+    1,i,hi,h=>by
  simp only[kM,dlt]
  by_cases hlt:i<(Dt.L d 4).length
  ·have happ:app (((Dt.L d 4).map (·.fld 1)).take i) [(Dt.L d 4)[i].fld 1]=some (((Dt.L d 4).map (·.fld 1)).take (i+1)):=by
        rw[jg (by simp;omega),List.take_succ_eq_append_getElem (by simpa using hlt)]
        simp
   simp only[hlt,decide_true,cond_true,aC hlt,Option.bind_some,happ,aM (show i<9223372036854775807 by omega)]
   exact VI m d hl M (i+1) (by omega) (by omega)
  ·have e:i=(Dt.L d 4).length:=by omega
   simp only[hlt,decide_false,cond_false]
   rw[List.take_of_length_le (by simp;omega)]
theorem VJ (m:Nat) (d:Dt) (hl:(Dt.L d 3).length≤137438953472):∀(M i:Nat),i≤(Dt.L d 3).length→(Dt.L d 3).length-i<M→kP m M (i:Int) d ((Dt.L d 3).take i)=kN m d (Dt.L d 3)
 |0,i,_,h=>by omega
 |M+    1,i,hi,h=>by
  simp only[kP,dlt]
  by_cases hlt:i<(Dt.L d 3).length
  ·have happ:app ((Dt.L d 3).take i) [(Dt.L d 3)[i]]=some ((Dt.L d 3).take (i+1)):=by
        rw[jg (by simp;omega),List.take_succ_eq_append_getElem hlt]
   simp only[hlt,decide_true,cond_true,aC hlt,Option.bind_some,happ,aM (show i<9223372036854775807 by omega)]
   exact VJ m d hl M (i+1) (by omega) (by omega)
  ·simp only[hlt,decide_false,cond_false]
   rw[List.take_of_length_le (by omega)]
theorem parts_eq (d:Dt) (hw:WV d) (m:Nat) (hm:d.bulk≤m) (hb:d.bulk≤137438953472):jD (m+1) d=some (qx d):=by
 have hl3:(Dt.L d 3).length≤d.bulk:=by
  cases hw with
  | @mk k i t l ds hl hd=>rw[mO];have:=jh l;show l.length≤_;omega
 have hl4:(Dt.L d 4).length≤d.bulk:=by
  cases hw with
  | @mk k i t l ds hl hd=>rw[mO];have:=jh ds;show ds.length≤_;omega
 have h6:=VI m d (by omega) (m+1) 0 (Nat.zero_le _) (by omega)
 have h1:=VJ m d (by omega) (m+1) 0 (Nat.zero_le _) (by omega)
 rw[List.take_zero] at h6 h1
 have h6':kM m (Nat.succ m) 0 d []=_:=h6
 have h1':kP m (Nat.succ m) 0 d []=_:=h1
 unfold qx
 simp only[jD,h1']
 cases h:(Dt.I d 0==6)
 ·simp only[cond_false,kN,h6']
  cases (Dt.I d 0==5)<;>rfl
 ·have e:Dt.I d 0=6:=by simpa using h
  simp only[cond_true,kN,e]
  rfl
theorem BS {d:Dt} (hw:WV d):∀e∈qx d,WV e∧e.bulk<d.bulk:=by
 cases hw with
 | @mk  k i t l ds hl hd=>
   intro e he
   rw[mO]
   unfold qx at he
   have e1:Dt.I (.agg [.int k,.int i,.str t,.lst l,.lst ds]) 0=k:=rfl
   have e2:Dt.L (.agg [.int k,.int i,.str t,.lst l,.lst ds]) 3=l:=rfl
   have e3:Dt.L (.agg [.int k,.int i,.str t,.lst l,.lst ds]) 4=ds:=rfl
   rw[e1,e2,e3] at he
   cases h6:(k==6)
   ·rw[   h6] at he
    simp only[cond_false] at he
    cases h5:(k==5)
    ·rw[h5] at he;simp at he
    ·   rw[h5] at he
        simp only[cond_true,List.mem_map] at he
        obtain⟨f,hf,rfl⟩:=he
        have hb:=lC hf
        cases hd f hf with
        | @mk s v hv=>
          rw[vo] at hb
          exact⟨hv,by show v.bulk<_;omega⟩
   ·rw[h6] at he
    simp only[cond_true] at he
    have hb:=lC he
    exact⟨hl e he,by omega⟩
theorem VK {d:Dt} (hw:WV d):(qx d).length≤d.bulk:=by
 cases hw with
 | @mk k i t l ds hl hd=>
   rw[mO]
   have h3:=jh l
   have h4:=jh ds
   unfold qx
   cases (Dt.I (.agg [.int k,.int i,.str t,.lst l,.lst ds]) 0==6)<;>cases (Dt.I (.agg [.int k,.int i,.str t,.lst l,.lst ds]) 0==5)<;>simp[Dt.L,Dt.fld,Dt.toLst]<;>omega
end Go.Proofs.YtmecfjhdnbgfeaaGreatDoor
namespace Go.Proofs.YtmecfjhdnbgfeaaGreatDoor
open Go.Am
def YJ:Nat→Dt→Nat
 |0,_=>1
 |n+1,d=>1+((qx d).map (YJ n)).sum
theorem Qz:∀(n n':Nat) (d:Dt),WV d→d.bulk≤n→d.bulk≤n'→YJ n d=YJ n' d
 |0,_,d,_,h,_=>by have:=fH d;omega
 |_+1,0,d,_,_,h=>by have:=fH d;omega
 |n+1,n'+1,d,hw,h,h'=>by
  simp only[YJ]
  congr 2
  refine List.map_congr_left fun e he=>?_
  have:=BS hw e he
  exact Qz n n' e this.1 (by omega) (by omega)
def nds (d:Dt):Nat:=YJ d.bulk d
theorem DT {d:Dt} (hw:WV d):nds d=1+((qx d).map nds).sum:=by
 obtain⟨k,hk⟩:∃k,d.bulk=k+1:=⟨d.bulk-1,by have:=fH d;omega⟩
 unfold nds
 rw[hk]
 simp only[YJ]
 congr 2
 refine List.map_congr_left fun e he=>?_
 have:=BS hw e he
 exact Qz _ _ e this.1 (by omega) (Nat.le_refl _)
theorem ajE {d:Dt} (hw:WV d):1≤nds d:=by rw[DT hw];omega
theorem sum_cons (f:Dt→Nat) {L:List Dt} {i:Nat} (h:i<L.length):((L.drop i).map f).sum=f L[i]+((L.drop (i+1)).map f).sum:=by
 rw[List.drop_eq_getElem_cons h,List.map_cons,List.sum_cons]
theorem VL (m:Nat) (self:Dt→Int→Option Int) (L:List Dt) (hl:L.length<9223372036854775807) (most:Nat) (hb:most<1000000) (hs:∀e∈L,∀k:Nat,1≤k→k≤most→self e (k:Int)=some ((min (nds e) k:Nat):Int)):∀(M i acc:Nat),i≤L.length→L.length-i<M→acc≤most→
  nU m self M (most:Int) (acc:Int) L (i:Int)=some ((min (acc+((L.drop i).map nds).sum) most:Nat):Int)
 |0,i,_,_,h,_=>by omega
 |M+    1,i,acc,hi,h,ha=>by
  simp only[nU,dlt]
  by_cases hlt:i<L.length
  ·simp only[hlt,decide_true,cond_true]
   by_cases hm:acc<most
   ·    have hw:IntKind.wrap IntKind.i64 ((most:Int)-(acc:Int))=((most-acc:Nat):Int):=by rw[wrap64 (by omega) (by omega)];omega
        have hr:=hs _ (List.getElem_mem hlt) (most-acc) (by omega) (by omega)
        have hw2:IntKind.wrap IntKind.i64 ((acc:Int)+((min (nds L[i]) (most-acc):Nat):Int))=((acc+min (nds L[i]) (most-acc):Nat):Int):=by rw[wrap64 (by omega) (by omega)];omega
        simp only[hm,decide_true,cond_true,aC hlt,Option.bind_some,hw,hr,hw2,aM (show i<9223372036854775807 by omega),VL m self L hl most hb hs M (i+1) (acc+min (nds L[i]) (most-acc)) (by omega) (by omega) (by omega),sum_cons nds hlt]
        congr 2
        omega
   ·    have:acc=most:=by omega
        subst this
        simp only[hm,decide_false,cond_false]
        first|(simp only[];congr 2;omega)|(congr 2;omega)
  ·rw[List.drop_eq_nil_of_le (by omega)]
   simp only[hlt,decide_false,cond_false,List.map_nil,List.sum_nil]
   first|(simp only[];congr 2;omega)|(congr 2;omega)
theorem count_eq:∀(N:Nat) (d:Dt),d.bulk≤N→N≤137438953472→WV d→∀m,N≤m→∀most:Nat,1≤most→most<1000000→gG (m+2) d (most:Int)=some ((min (nds d) most:Nat):Int)
 |0,d,h,_,_,_,_,_,_,_=>by have:=fH d;omega
 |N+1,d,h,hN,hw,m,hm,most,h1,h2=>by
  obtain⟨m,rfl⟩:∃q,m=q+1:=⟨m-1,by omega⟩
  simp only[gG,parts_eq d hw (m+1) (by omega) (by omega),Option.bind_some]
  have hl:=VK hw
  have:=VL (m+2) (gG (m+2)) (qx d) (by omega) most h2 (fun e he k hk1 hk2=>by
   obtain⟨hwe,hbe⟩:=BS hw e he
   exact count_eq N e (by omega) (by omega) hwe m (by omega) k hk1 (by omega)) (m+3) 0 1 (Nat.zero_le _) (by omega) h1
  rw[List.drop_zero,←DT hw] at this
  exact this
theorem ada {d:Dt} (hw:WV d) (hb:d.bulk≤137438953472) (m:Nat) (hm:d.bulk≤m):lK (m+3) d=some ((min (nds d) 1025:Nat):Int):=by
 simp only[lK]
 rw[show ((1025:Int))=((1025:Nat):Int) from rfl,count_eq d.bulk d (Nat.le_refl _) hb hw m hm 1025 (by omega) (by omega)]
 rfl
theorem aaR (m:Nat) (self:Dt→Int→Int→Option (Bool×Int×Int)) (L:List Dt) (hl:L.length<9223372036854775807) (most:Nat) (hs:∀e∈L,∀k:Nat,k<most→self e (k:Int) (most:Int)=some (decide (((min (k+nds e) most:Nat):Int)<(most:Int)),((min (k+nds e) most:Nat):Int),(most:Int))):∀(M i acc:Nat),i≤L.length→L.length-i<M→acc<most→
  BN m self M L (L.length:Int) (i:Int) (acc:Int) (most:Int)=some (((min (acc+((L.drop i).map nds).sum) most:Nat):Int),(most:Int))
 |0,i,_,_,h,_=>by omega
 |M+    1,i,acc,hi,h,ha=>by
  simp only[BN,dlt]
  by_cases hlt:i<L.length
  ·have hr:=hs _ (List.getElem_mem hlt) acc ha
   simp only[hlt,decide_true,cond_true,aC hlt,Option.bind_some,hr,dlt,aM (show i<9223372036854775807 by omega),sum_cons nds hlt]
   by_cases hm:min (acc+nds L[i]) most<most
   ·    simp only[hm,decide_true,Bool.not_true,cond_false,aaR m self L hl most hs M (i+1) (min (acc+nds L[i]) most) (by omega) (by omega) hm]
        congr 3
        omega
   ·    simp only[hm,decide_false,Bool.not_false,cond_true]
        congr 3
        omega
  ·rw[List.drop_eq_nil_of_le (by omega)]
   simp only[hlt,decide_false,cond_false,List.map_nil,List.sum_nil]
   congr 3
   omega
theorem aaS (m:Nat) (self:Dt→Int→Int→Option (Bool×Int×Int)) (L:List Dt) (hl:L.length<9223372036854775807) (most:Nat) (hs:∀e∈L,∀k:Nat,k<most→self (Dt.fld e 1) (k:Int) (most:Int)=some (decide (((min (k+nds (Dt.fld e 1)) most:Nat):Int)<(most:Int)),((min (k+nds (Dt.fld e 1)) most:Nat):Int),(most:Int))):∀(M i acc:Nat),i≤L.length→L.length-i<M→acc<most→
  BO m self M L (L.length:Int) (i:Int) (acc:Int) (most:Int)=some (((min (acc+((L.drop i).map fun f=>nds (Dt.fld f 1)).sum) most:Nat):Int),(most:Int))
 |0,i,_,_,h,_=>by omega
 |M+    1,i,acc,hi,h,ha=>by
  simp only[BO,dlt]
  by_cases hlt:i<L.length
  ·have hr:=hs _ (List.getElem_mem hlt) acc ha
   simp only[hlt,decide_true,cond_true,aC hlt,Option.bind_some,hr,dlt,aM (show i<9223372036854775807 by omega),sum_cons (fun f=>nds (Dt.fld f 1)) hlt]
   by_cases hm:min (acc+nds (Dt.fld L[i] 1)) most<most
   ·    simp only[hm,decide_true,Bool.not_true,cond_false,aaS m self L hl most hs M (i+1) (min (acc+nds (Dt.fld L[i] 1)) most) (by omega) (by omega) hm]
        congr 3
        omega
   ·    simp only[hm,decide_false,Bool.not_false,cond_true]
        congr 3
        omega
  ·rw[List.drop_eq_nil_of_le (by omega)]
   simp only[hlt,decide_false,cond_false,List.map_nil,List.sum_nil]
   congr 3
   omega
theorem QA:∀(N:Nat) (d:Dt),d.bulk≤N→N≤137438953472→WV d→∀m,3*N≤m→∀most:Nat,1≤most→most<1000000→jG (m+1) d (most:Int)=some ((min (nds d) most:Nat):Int)
 |0,d,h,_,_,_,_,_,_,_=>by have:=fH d;omega
 |N+    1,d,h,hN,hw,m,hm,most,h1,h2=>by
  obtain⟨m,rfl⟩:∃q,m=q+3:=⟨m-3,by omega⟩
  simp only[jG]
  have hpos:=ajE hw
  by_cases e1:most=1
  ·subst e1
   have:(((1:Int))==((1:Nat):Int))=true:=rfl
   simp only[this,cond_true]
   congr 1
   omega
  ·have e2:(((1:Int))==(most:Int))=false:=by rw[beq_eq_false_iff_ne];omega
   have hc:∀e:Dt,WV e→e.bulk≤N→∀k:Nat,k<most→Dr (m+2) e (k:Int) (most:Int)=some (decide (((min (k+nds e) most:Nat):Int)<(most:Int)),((min (k+nds e) most:Nat):Int),(most:Int)):=fun e hwe hbe k hk=>by
        have hw1:IntKind.wrap IntKind.i64 ((most:Int)-(k:Int))=((most-k:Nat):Int):=by rw[wrap64 (by omega) (by omega)];omega
        have hr:=QA N e hbe (by omega) hwe m (by omega) (most-k) (by omega) (by omega)
        have hw2:IntKind.wrap IntKind.i64 ((k:Int)+((min (nds e) (most-k):Nat):Int))=((min (k+nds e) most:Nat):Int):=by rw[wrap64 (by omega) (by omega)];omega
        simp only[Dr,hw1,hr,Option.bind_some,hw2]
   obtain⟨p1,p2,p3,p4⟩:=AX hw
   have k1:=aaR (m+2) (Dr (m+2)) (Dt.L d 3) (by omega) most (fun e he=>hc e (p3 e he).1 (by have:=(p3 e he).2;omega)) (m+3) 0 1 (Nat.zero_le _) (by omega) (by omega)
   have k2:=aaS (m+2) (Dr (m+2)) (Dt.L d 4) (by omega) most (fun e he=>hc _ (p4 e he).1 (by have:=(p4 e he).2;omega)) (m+3) 0 1 (Nat.zero_le _) (by omega) (by omega)
   rw[List.drop_zero] at k1 k2
   have hn:=DT hw
   unfold qx at hn
   simp only[e2,cond_false,acU]
   cases h6:(Dt.I d 0==6)
   ·    rw[h6] at hn
        cases h5:(Dt.I d 0==5)
        ·rw[h5] at hn
         simp only[cond_false,List.map_nil,List.sum_nil] at hn
         simp only[cond_false,Option.bind_some,hn]
         congr 1
         omega
        ·rw[h5] at hn
         simp only[cond_false,cond_true,List.map_map] at hn
         have hn':nds d=1+((Dt.L d 4).map fun f=>nds (Dt.fld f 1)).sum:=hn
         have k2':BO (m+2) (Dr (m+2)) (Nat.succ (m+2)) (Dt.L d 4) ((Dt.L d 4).length:Int) 0 1 (most:Int)=_:=k2
         simp only[cond_false,cond_true,k2',Option.bind_some,hn']
   ·    rw[h6] at hn
        simp only[cond_true] at hn
        have k1':BN (m+2) (Dr (m+2)) (Nat.succ (m+2)) (Dt.L d 3) ((Dt.L d 3).length:Int) 0 1 (most:Int)=_:=k1
        simp only[cond_true,k1',Option.bind_some,hn]
theorem adb {d:Dt} (hw:WV d) (hb:d.bulk≤137438953472) (m:Nat) (hm:3*d.bulk≤m):lN (m+2) d=some ((min (nds d) 1025:Nat):Int):=by
 simp only[lN]
 rw[show ((1025:Int))=((1025:Nat):Int) from rfl,QA d.bulk d (Nat.le_refl _) hb hw m hm 1025 (by omega) (by omega)]
 rfl
end Go.Proofs.YtmecfjhdnbgfeaaGreatDoor
namespace Go.Proofs.YtmecfjhdnbgfeaaGreatDoor
open Go.Am
def okB (c:UInt8):Bool:=!(decide ((c.toNat:Int)<33)||decide ((126:Int)<c.toNat)||((c.toNat:Int)==46))
def nmL (l:List UInt8):Bool:=match l with
 | []=>false
 |c::r=>decide (r.length<32)&&!((c.toNat:Int)==36)&&(c::r).all okB
def nm (s:ByteArray):Bool:=nmL s.data.toList
theorem S9 (s:ByteArray) (i:Nat) (h:i<s.size):s.data.toList.drop i=s[i]::s.data.toList.drop (i+1):=by
 rw[List.drop_eq_getElem_cons (show i<s.data.toList.length by simpa using h)]
 rfl
theorem GR (s:ByteArray):s.data.toList.length=s.size:=by rw[Array.length_toList];rfl
theorem QB (m:Nat) (s:ByteArray) (hs:s.size<9223372036854775807):∀(M i:Nat),i≤s.size→s.size-i<M→fV m M s (i:Int)=some ((s.data.toList.drop i).all okB)
 |0,i,_,h=>by omega
 |M+1,i,hi,h=>by
  simp only[fV,dlt]
  by_cases hlt:i<s.size
  ·rw[S9 s i hlt]
   simp only[hlt,decide_true,cond_true,fU,fZ,oK hlt,Option.bind_some,aM (show i<9223372036854775807 by omega),QB m s hs M (i+1) (by omega) (by omega),List.all_cons,okB]
   cases decide (((s[i]).toNat:Int)<33)<;>cases decide ((126:Int)<((s[i]).toNat:Int))<;>cases (((s[i]).toNat:Int)==46)<;>rfl
  ·have:i=s.size:=by omega
   subst this
   rw[List.drop_eq_nil_of_le (by rw[GR];omega)]
   simp[fU,fZ]
theorem LJ (s:ByteArray) (h1:1≤s.size) (h2:s.size≤32):nm s=(!(((s[0]).toNat:Int)==36)&&s.data.toList.all okB):=by
 have e:=S9 s 0 (by omega)
 have hl:(s.data.toList.drop 1).length<32:=by rw[List.length_drop,GR];omega
 rw[List.drop_zero] at e
 unfold nm
 rw[e]
 simp only[Nat.zero_add] at hl ⊢
 unfold nmL
 simp only[hl,decide_true,Bool.true_and]
theorem LK (s:ByteArray) (h:s.size<1):nm s=false:=by
 unfold nm
 have:s.data.toList=[]:=List.eq_nil_of_length_eq_zero (by rw[GR];omega)
 rw[this];rfl
theorem KD (s:ByteArray) (h:32<s.size):nm s=false:=by
 have e:=S9 s 0 (by omega)
 have hl:¬(s.data.toList.drop 1).length<32:=by rw[List.length_drop,GR];omega
 rw[List.drop_zero] at e
 unfold nm
 rw[e]
 simp only[Nat.zero_add]
 unfold nmL
 simp only[hl,decide_false,Bool.false_and]
theorem KE (m:Nat) (hm:33≤m) (s:ByteArray):fK (m+1) s=some (nm s):=by
 simp only[fK]
 by_cases h1:s.size<1
 ·have:decide ((s.size:Int)<1)=true:=by simp;omega
  simp only[this,cond_true,fU,fZ,LK s h1]
 have e1:decide ((s.size:Int)<1)=false:=by simp;omega
 by_cases h2:32<s.size
 ·have:decide ((32:Int)<(s.size:Int))=true:=by simp;omega
  simp only[e1,this,cond_true,cond_false,fU,fZ,KD s h2]
 have e2:decide ((32:Int)<(s.size:Int))=false:=by simp;omega
 have hx:=oK (s:=s) (i:=0) (by omega)
 have hl:=QB m s (by omega) (m+1) 0 (by omega) (by omega)
 rw[List.drop_zero] at hl
 have hl':fV m (Nat.succ m) s 0=some (s.data.toList.all okB):=hl
 simp only[e1,e2,cond_false,show idxS s 0=_ from hx,Option.bind_some,fU,fZ,hl',LJ s (by omega) (by omega)]
 cases (((s[0]).toNat:Int)==36)<;>rfl
end Go.Proofs.YtmecfjhdnbgfeaaGreatDoor
namespace Go.Proofs.YtmecfjhdnbgfeaaGreatDoor
open Go.Am
def QC (b:UInt8):Bool:=decide (128≤b.toNat)&&decide (b.toNat≤191)
def tlU (n:Nat) (r:List UInt8):Bool:=decide (n≤r.length)&&(r.take n).all QC
def hdN (r:List UInt8):Nat:=(r.getD 0 0).toNat
def okU (b:Nat) (r:List UInt8):Option Nat:=
 if b<128 then some 0
 else if 194≤b∧b≤223 then(if tlU 1 r=true then some 1 else none)
 else if 224≤b∧b≤239 then(if tlU 2 r=true∧¬(b=224∧hdN r<160)∧¬(b=237∧159<hdN r) then some 2 else none)
 else if 240≤b∧b≤244 then(if tlU 3 r=true∧¬(b=240∧hdN r<144)∧¬(b=244∧143<hdN r) then some 3 else none)
 else none
theorem tl1 (r:List UInt8):tlU 1 r=true↔1≤r.length∧128≤(r.getD 0 0).toNat∧(r.getD 0 0).toNat≤191:=by
 unfold tlU QC
 match r with
 | []=>simp
 |a::r=>simp
theorem tl2 (r:List UInt8):tlU 2 r=true↔2≤r.length∧(128≤(r.getD 0 0).toNat∧(r.getD 0 0).toNat≤191)∧128≤(r.getD 1 0).toNat∧(r.getD 1 0).toNat≤191:=by
 unfold tlU QC
 match r with
 | []=>simp
 | [a]=>simp
 |a::b::r=>simp
theorem tl3 (r:List UInt8):tlU 3 r=true↔3≤r.length∧(128≤(r.getD 0 0).toNat∧(r.getD 0 0).toNat≤191)∧(128≤(r.getD 1 0).toNat∧(r.getD 1 0).toNat≤191)∧128≤(r.getD 2 0).toNat∧(r.getD 2 0).toNat≤191:=by
 unfold tlU QC
 match r with
 | []=>simp
 | [a]=>simp
 | [a,b]=>simp
 |a::b::c::r=>simp
theorem ajF (n b0 b1 b2 b3:Nat) (k0:b0<256) (k1:b1<256) (k2:b2<256) (k3:b3<256) (k:Nat) (h:(b0<128∧k=0)∨(194≤b0∧b0≤223∧1<n∧128≤b1∧b1≤191∧k=1)∨(224≤b0∧b0≤239∧2<n∧(128≤b1∧b1≤191)∧(128≤b2∧b2≤191)∧¬(b0=224∧b1<160)∧¬(b0=237∧159<b1)∧k=2)∨(240≤b0∧b0≤244∧3<n∧(128≤b1∧b1≤191)∧(128≤b2∧b2≤191)∧(128≤b3∧b3≤191)∧¬(b0=240∧b1<144)∧¬(b0=244∧143<b1)∧k=3)):
  ¬((Lib.decodeN n b0 b1 b2 b3).1=65533∧(Lib.decodeN n b0 b1 b2 b3).2=1)∧(Lib.decodeN n b0 b1 b2 b3).2=k+1:=by
 rcases h with⟨h1,rfl⟩| ⟨h1,h2,h3,h4,h5,rfl⟩| ⟨h1,h2,h3,h4,h5,h6,h7,rfl⟩| ⟨h1,h2,h3,h4,h5,h6,h7,h8,rfl⟩
 ·unfold Lib.decodeN
  rw[if_pos h1]
  exact⟨fun h=>by have:=h.1;dsimp only at this;omega,rfl⟩
 ·unfold Lib.decodeN
  rw[if_neg (by omega),if_pos (by omega),if_pos (by omega)]
  exact⟨fun h=>by have:=h.2;dsimp only at this;omega,rfl⟩
 ·unfold Lib.decodeN
  rw[if_neg (by omega),if_neg (by omega),if_pos (by omega),if_pos (by omega)]
  exact⟨fun h=>by have:=h.2;dsimp only at this;omega,rfl⟩
 ·unfold Lib.decodeN
  rw[if_neg (by omega),if_neg (by omega),if_neg (by omega),if_pos (by omega),if_pos (by omega)]
  exact⟨fun h=>by have:=h.2;dsimp only at this;omega,rfl⟩
theorem ajG (n b0 b1 b2 b3:Nat) (k0:b0<256) (k1:b1<256) (k2:b2<256) (k3:b3<256) (h1:¬b0<128) (h2:¬(194≤b0∧b0≤223∧1<n∧128≤b1∧b1≤191)) (h3:¬(224≤b0∧b0≤239∧2<n∧(128≤b1∧b1≤191)∧(128≤b2∧b2≤191)∧¬(b0=224∧b1<160)∧¬(b0=237∧159<b1))) (h4:¬(240≤b0∧b0≤244∧3<n∧(128≤b1∧b1≤191)∧(128≤b2∧b2≤191)∧(128≤b3∧b3≤191)∧¬(b0=240∧b1<144)∧¬(b0=244∧143<b1))):
  Lib.decodeN n b0 b1 b2 b3=(65533,1):=by
 unfold Lib.decodeN
 rw[if_neg h1]
 split
 ·rw[if_neg (by omega)]
 ·split
  ·rw[if_neg (by omega)]
  ·split
   ·rw[if_neg (by omega)]
   ·rfl
theorem afK (b:UInt8) (r:List UInt8):(∀n,okU b.toNat r=some n→¬((Lib.decodeL (b::r)).1=65533∧(Lib.decodeL (b::r)).2=1)∧(Lib.decodeL (b::r)).2=n+1)∧(okU b.toNat r=none→(Lib.decodeL (b::r)).1=65533∧(Lib.decodeL (b::r)).2=1):=by
 rw[Lib.decodeL_N]
 have k0:=b.toNat_lt
 have k1:=(r.getD 0 0).toNat_lt
 have k2:=(r.getD 1 0).toNat_lt
 have k3:=(r.getD 2 0).toNat_lt
 have e0:((b::r).getD 0 0)=b:=rfl
 have e1:((b::r).getD 1 0)=r.getD 0 0:=rfl
 have e2:((b::r).getD 2 0)=r.getD 1 0:=rfl
 have e3:((b::r).getD 3 0)=r.getD 2 0:=rfl
 rw[e0,e1,e2,e3,List.length_cons]
 have t1:=tl1 r
 have t2:=tl2 r
 have t3:=tl3 r
 unfold okU hdN
 generalize tlU 1 r=u1 at*
 generalize tlU 2 r=u2 at*
 generalize tlU 3 r=u3 at*
 generalize (r.getD 0 0).toNat=c1 at*
 generalize (r.getD 1 0).toNat=c2 at*
 generalize (r.getD 2 0).toNat=c3 at*
 generalize b.toNat=c0 at*
 refine⟨fun n hn=>?_,fun hn=>?_⟩
 ·refine ajF _ _ _ _ _ k0 k1 k2 k3 n ?_
  split at hn
  ·simp only[Option.some.injEq] at hn;omega
  ·split  at hn
   ·    split at hn
        ·rename_i h;have:=t1.1 h;simp only[Option.some.injEq] at hn;omega
        ·cases hn
   ·    split at hn
        ·split at hn
         ·rename_i h;have:=t2.1 h.1;simp only[Option.some.injEq] at hn;omega
         ·cases hn
        ·split at hn
         ·split at hn
          ·rename_i h;have:=t3.1 h.1;simp only[Option.some.injEq] at hn;omega
          ·cases hn
         ·cases hn
 ·have key:Lib.decodeN (r.length+1) c0 c1 c2 c3=(65533,1):=by
   refine ajG _ _ _ _ _ k0 k1 k2 k3 ?_ ?_ ?_ ?_<;>intro h
   ·rw[if_pos h] at hn;cases hn
   ·rw[if_neg (by omega),if_pos (by omega),if_pos (t1.2 (by omega))] at hn;cases hn
   ·rw[if_neg (by omega),if_neg (by omega),if_pos (by omega),if_pos ⟨t2.2 (by omega),by omega,by omega⟩] at hn;cases hn
   ·rw[if_neg (by omega),if_neg (by omega),if_neg (by omega),if_pos (by omega),if_pos ⟨t3.2 (by omega),by omega,by omega⟩] at hn;cases hn
  rw[key]
  exact⟨rfl,rfl⟩
theorem Ta (k:Nat) (b:UInt8) (r:List UInt8):Lib.validGoD (k+1) (b::r)=match okU b.toNat r with
  |some n=>Lib.validGoD k (r.drop n)
  |none=>false:=by
 obtain⟨h1,h2⟩:=afK b r
 have hd:Lib.validGoD (k+1) (b::r)=if(b::r:List UInt8)=[] then true else if(Lib.decodeL (b::r)).1=65533∧(Lib.decodeL (b::r)).2=1 then false else Lib.validGoD k ((b::r).drop (Lib.decodeL (b::r)).2):=rfl
 rw[hd,if_neg (by simp)]
 cases e:okU b.toNat r with
 |none=>
  rw[if_pos (h2 e)]
 |some n=>
  obtain⟨h3,h4⟩:=h1 n e
  rw[if_neg h3,h4,List.drop_succ_cons]
theorem VN:∀k,Lib.validGoD k []=true
 |0=>rfl
 |k+1=>by unfold Lib.validGoD;rw[if_pos rfl]
end Go.Proofs.YtmecfjhdnbgfeaaGreatDoor
namespace Go.Proofs.YtmecfjhdnbgfeaaGreatDoor
open Go.Am
theorem QD (m:Nat) (s:ByteArray) (i n:Nat) (hin:i+n≤s.size) (hs:s.size<4611686018427387904):∀(M k:Nat),k≤n→n-k<M→ng m M s (i:Int) (n:Int) (k:Int)=some (((s.data.toList.drop (i+k)).take (n-k)).all QC)
 |0,k,_,h=>by omega
 |M+    1,k,hk,h=>by
  simp only[ng,dlt]
  by_cases hlt:k<n
  ·have w1:IntKind.wrap IntKind.i64 ((i:Int)+(k:Int))=((i+k:Nat):Int):=by rw[wrap64 (by omega) (by omega)];omega
   rw[S9 s (i+k) (by omega),show n-k=(n-(k+1))+1 by omega,List.take_succ_cons,List.all_cons]
   simp only[hlt,decide_true,cond_true,sj,mZ,su,sw,sF,sG,w1,oK (show i+k<s.size by omega),Option.bind_some,aM (show k<9223372036854775807 by omega),QD m s i n hin hs M (k+1) (by omega) (by omega),QC]
   rw[show i+k+1=i+(k+1) by omega]
   generalize (s[i+k]).toNat=b
   by_cases h1:b<128
   ·    have e1:decide ((b:Int)<128)=true:=by simp;omega
        have e2:decide (128≤b)=false:=by simp;omega
        simp only[e1,e2,cond_true,Bool.false_and]
   ·    have e1:decide ((b:Int)<128)=false:=by simp;omega
        have e2:decide (128≤b)=true:=by simp;omega
        by_cases h2:191<b
        ·have e3:decide ((191:Int)<(b:Int))=true:=by simp;omega
         have e4:decide (b≤191)=false:=by simp;omega
         simp only[e1,e2,e3,e4,cond_true,cond_false,Bool.true_and,Bool.false_and]
        ·have e3:decide ((191:Int)<(b:Int))=false:=by simp;omega
         have e4:decide (b≤191)=true:=by simp;omega
         simp only[e1,e2,e3,e4,cond_true,cond_false,Bool.true_and]
  ·have:k=n:=by omega
   subst this
   simp[sj,mZ,su,sw,sF,sG]
theorem ajH (m:Nat) (hm:4≤m) (s:ByteArray) (hs:s.size<4611686018427387904) (i n:Nat) (hn:n≤3) (hi:i≤s.size):pR (m+1) s (i:Int) (n:Int)=some (tlU n (s.data.toList.drop i)):=by
 have w1:IntKind.wrap IntKind.i64 ((i:Int)+(n:Int))=((i+n:Nat):Int):=by rw[wrap64 (by omega) (by omega)];omega
 have hl:(s.data.toList.drop i).length=s.size-i:=by rw[List.length_drop,GR]
 simp only[pR,w1,dlt,tlU,hl]
 by_cases h:s.size<i+n
 ·have e:decide (n≤s.size-i)=false:=by simp;omega
  simp only[h,e,decide_true,cond_true,Bool.false_and]
 ·have e:decide (n≤s.size-i)=true:=by simp;omega
  have:=QD m s i n (by omega) hs (m+1) 0 (by omega) (by omega)
  rw[Nat.add_zero,Nat.sub_zero] at this
  simp only[h,e,decide_false,cond_false,Bool.true_and,sj,mZ,su,sw,sF,sG]
  exact this
theorem al5 (s:ByteArray) (i:Nat) (h:i<s.size):idxS s (i:Int)=some ((hdN (s.data.toList.drop i):Nat):Int):=by
 rw[oK h,S9 s i h]
 rfl
theorem bN (b k:Nat):(((b:Nat):Int)==((k:Nat):Int))=decide (b=k):=by rw[Bool.eq_iff_iff];simp;omega
def Tc (b h:Nat):Bool:=(decide (b=224)&&decide (h<160))||(decide (b=237)&&decide (159<h))||(decide (b=240)&&decide (h<144))||(decide (b=244)&&decide (143<h))
theorem al6 (m:Nat) (rec1:ByteArray→Int→Option Bool) (s:ByteArray) (hs:s.size<4611686018427387904) (i b n:Nat) (hn:n≤3) (hi:i<s.size) (hb:b<128∨i+1<s.size):xQ m rec1 s (i:Int) (b:Int) (n:Int)=bif Tc b (hdN (s.data.toList.drop (i+1))) then some false else rec1 s ((i+n+1:Nat):Int):=by
 have q1:(((b:Nat):Int)==224)=decide (b=224):=bN b 224
 have q2:(((b:Nat):Int)==237)=decide (b=237):=bN b 237
 have q3:(((b:Nat):Int)==240)=decide (b=240):=bN b 240
 have q4:(((b:Nat):Int)==244)=decide (b=244):=bN b 244
 have w0:IntKind.wrap IntKind.i64 ((IntKind.wrap IntKind.i64 ((i:Int)+(n:Int)))+1)=((i+n+1:Nat):Int):=by
  have wa:IntKind.wrap IntKind.i64 ((i:Int)+(n:Int))=((i+n:Nat):Int):=by rw[wrap64 (by omega) (by omega)];omega
  rw[wa,aM (by omega)]
 have w1:IntKind.wrap IntKind.i64 ((i:Int)+1)=((i+1:Nat):Int):=aM (by omega)
 simp only[xQ,aK,CY,q1,q2,q3,q4,w0,w1,Tc]
 by_cases hlt:i+1<s.size
 ·rw[al5 s (i+1) hlt]
  generalize hdN (s.data.toList.drop (i+1))=h
  have d1:decide (((h:Nat):Int)<160)=decide (h<160):=dlt (j:=160)
  have d2:decide ((159:Int)<((h:Nat):Int))=decide (159<h):=dlt (i:=159)
  have d3:decide (((h:Nat):Int)<144)=decide (h<144):=dlt (j:=144)
  have d4:decide ((143:Int)<((h:Nat):Int))=decide (143<h):=dlt (i:=143)
  simp only[Option.bind_some,d1,d2,d3,d4]
  cases decide (b=224)<;>cases decide (b=237)<;>cases decide (b=240)<;>cases decide (b=244)<;>cases decide (h<160)<;>cases decide (159<h)<;>cases decide (h<144)<;>cases decide (143<h)<;>rfl
 ·have hb':b<128:=by omega
  have c1:decide (b=224)=false:=by simp;omega
  have c2:decide (b=237)=false:=by simp;omega
  have c3:decide (b=240)=false:=by simp;omega
  have c4:decide (b=244)=false:=by simp;omega
  simp only[c1,c2,c3,c4,cond_false,Bool.false_and,Bool.or_false]
theorem al7 (m:Nat) (hm:4≤m) (rec1:ByteArray→Int→Option Bool) (s:ByteArray) (hs:s.size<4611686018427387904) (i b n:Nat) (hn:n≤3) (hi:i<s.size) (hb:b<128∨1≤n):jY (m+1) rec1 s (i:Int) (b:Int) (n:Int)=bif tlU n (s.data.toList.drop (i+1)) then(bif Tc b (hdN (s.data.toList.drop (i+1))) then some false else rec1 s ((i+n+1:Nat):Int)) else some false:=by
 have w1:IntKind.wrap IntKind.i64 ((i:Int)+1)=((i+1:Nat):Int):=aM (by omega)
 simp only[jY,w1,ajH m hm s hs (i+1) n hn (by omega),Option.bind_some]
 cases ht:tlU n (s.data.toList.drop (i+1))
 ·simp only[Bool.not_false,cond_true,cond_false]
 ·have h1:i+1+n≤s.size:=by
   unfold tlU at ht
   have:=of_decide_eq_true (Bool.and_eq_true_iff.1 ht).1
   rw[List.length_drop,GR] at this
   omega
  simp only[Bool.not_true,cond_true,cond_false,al6 (m+1) rec1 s hs i b n hn hi (by omega)]
theorem afL (m:Nat) (hm:4≤m) (rec1:ByteArray→Int→Option Bool) (s:ByteArray) (hs:s.size<4611686018427387904) (i:Nat) (hi:i<s.size):xR (m+1) rec1 s (i:Int)=match okU (s[i]).toNat (s.data.toList.drop (i+1)) with
  |some n=>rec1 s ((i+n+1:Nat):Int)
  |none=>some false:=by
 have hlt:=(s[i]).toNat_lt
 simp only[xR,oK hi,Option.bind_some]
 generalize (s[i]).toNat=b at hlt
 have t0:tlU 0 (s.data.toList.drop (i+1))=true:=by simp[tlU]
 have r:=al7 m hm rec1 s hs i b
 have r0:=fun h=>r 0 (by omega) hi h
 have r1:=fun h=>r 1 (by omega) hi h
 have r2:=fun h=>r 2 (by omega) hi h
 have r3:=fun h=>r 3 (by omega) hi h
 rw[t0] at r0
 have d128:decide (((b:Nat):Int)<128)=decide (b<128):=dlt (j:=128)
 have d194:decide ((194:Int)≤((b:Nat):Int))=decide (194≤b):=dle (i:=194)
 have d223:decide (((b:Nat):Int)≤223)=decide (b≤223):=dle (j:=223)
 have d224:decide ((224:Int)≤((b:Nat):Int))=decide (224≤b):=dle (i:=224)
 have d239:decide (((b:Nat):Int)≤239)=decide (b≤239):=dle (j:=239)
 have d240:decide ((240:Int)≤((b:Nat):Int))=decide (240≤b):=dle (i:=240)
 have d244:decide (((b:Nat):Int)≤244)=decide (b≤244):=dle (j:=244)
 simp only[d128,d194,d223,d224,d239,d240,d244]
 unfold okU
 by_cases h1:b<128
 ·have hr:=r0 (.inl h1)
  have hbad:Tc b (hdN (s.data.toList.drop (i+1)))=false:=by
   simp only[Tc,show decide (b=224)=false by simp;omega,show decide (b=237)=false by simp;omega,show decide (b=240)=false by simp;omega,show decide (b=244)=false by simp;omega,Bool.false_and,Bool.or_false]
  rw[if_pos h1]
  simp only[h1,decide_true,cond_true]
  rw[show (0:Int)=((0:Nat):Int) from rfl,hr,hbad]
  rfl
 rw[if_neg h1]
 simp only[h1,decide_false,cond_false,sJ,sI,sH,d224,d239,d240,d244]
 by_cases h2:194≤b∧b≤223
 ·have hr:=r1 (.inr (by omega))
  have hbad:Tc b (hdN (s.data.toList.drop (i+1)))=false:=by
   simp only[Tc,show decide (b=224)=false by simp;omega,show decide (b=237)=false by simp;omega,show decide (b=240)=false by simp;omega,show decide (b=244)=false by simp;omega,Bool.false_and,Bool.or_false]
  rw[if_pos h2]
  simp only[h2.1,h2.2,decide_true,cond_true]
  rw[show (1:Int)=((1:Nat):Int) from rfl,hr,hbad]
  cases tlU 1 (s.data.toList.drop (i+1))<;>rfl
 rw[if_neg h2]
 have e2:(bif decide (194≤b) then decide (b≤223) else false)=false:=by
  by_cases h:194≤b
  ·simp only[h,decide_true,cond_true];simp;omega
  ·simp[h]
 have k2:∀{X:Type} (f:Bool→X),(bif decide (194≤b) then f (decide (b≤223)) else f false)=f false:=fun f=>by
  by_cases h:194≤b
  ·have:decide (b≤223)=false:=by simp;omega
   simp only[h,decide_true,cond_true,this]
  ·simp only[h,decide_false,cond_false]
 have k3:=fun {X:Type} (f:Bool→X) (h:¬(224≤b∧b≤239))=>show (bif decide (224≤b) then f (decide (b≤239)) else f false)=f false by
  by_cases h':224≤b
  ·have:decide (b≤239)=false:=by simp;omega
   simp only[h',decide_true,cond_true,this]
  ·simp only[h',decide_false,cond_false]
 have k4:=fun {X:Type} (f:Bool→X) (h:¬(240≤b∧b≤244))=>show (bif decide (240≤b) then f (decide (b≤244)) else f false)=f false by
  by_cases h':240≤b
  ·have:decide (b≤244)=false:=by simp;omega
   simp only[h',decide_true,cond_true,this]
  ·simp only[h',decide_false,cond_false]
 by_cases h3:224≤b∧b≤239
 ·have hr:=r2 (.inr (by omega))
  have hg:decide (194≤b)=true:=by simp;omega
  have hg2:decide (b≤223)=false:=by simp;omega
  rw[if_pos h3]
  simp only[hg,hg2,h3.1,h3.2,decide_true,cond_true,cond_false]
  rw[show (2:Int)=((2:Nat):Int) from rfl,hr]
  simp only[Tc,show decide (b=240)=false by simp;omega,show decide (b=244)=false by simp;omega,Bool.false_and,Bool.or_false]
  generalize hdN (s.data.toList.drop (i+1))=h
  cases tlU 2 (s.data.toList.drop (i+1))
  ·rw[if_neg (by simp)];rfl
  ·by_cases hb1:b=224∧h<160
   ·    rw[if_neg (by simp;omega)]
        simp only[hb1.1,hb1.2,decide_true,Bool.true_and,Bool.true_or,cond_true]
   ·    by_cases hb2:b=237∧159<h
        ·rw[if_neg (by simp;omega)]
         simp only[hb2.1,hb2.2,decide_true,Bool.true_and,Bool.or_true,cond_true]
        ·rw[if_pos ⟨rfl,hb1,hb2⟩]
         have e1:(decide (b=224)&&decide (h<160))=false:=by rw[Bool.and_eq_false_iff];simp;omega
         have e3:(decide (b=237)&&decide (159<h))=false:=by rw[Bool.and_eq_false_iff];simp;omega
         simp only[e1,e3,Bool.or_false,cond_true,cond_false]
 rw[if_neg h3]
 by_cases h4:240≤b∧b≤244
 ·have hr:=r3 (.inr (by omega))
  have hg:decide (194≤b)=true:=by simp;omega
  have hg2:decide (b≤223)=false:=by simp;omega
  have hg3:decide (224≤b)=true:=by simp;omega
  have hg4:decide (b≤239)=false:=by simp;omega
  rw[if_pos h4]
  simp only[hg,hg2,hg3,hg4,h4.1,h4.2,decide_true,cond_true,cond_false]
  rw[show (3:Int)=((3:Nat):Int) from rfl,hr]
  simp only[Tc,show decide (b=224)=false by simp;omega,show decide (b=237)=false by simp;omega,Bool.false_and,Bool.false_or]
  generalize hdN (s.data.toList.drop (i+1))=h
  cases tlU 3 (s.data.toList.drop (i+1))
  ·rw[if_neg (by simp)];rfl
  ·by_cases hb1:b=240∧h<144
   ·    rw[if_neg (by simp;omega)]
        simp only[hb1.1,hb1.2,decide_true,Bool.true_and,Bool.true_or,cond_true]
   ·    by_cases hb2:b=244∧143<h
        ·rw[if_neg (by simp;omega)]
         simp only[hb2.1,hb2.2,decide_true,Bool.true_and,Bool.or_true,cond_true]
        ·rw[if_pos ⟨rfl,hb1,hb2⟩]
         have e1:(decide (b=240)&&decide (h<144))=false:=by rw[Bool.and_eq_false_iff];simp;omega
         have e3:(decide (b=244)&&decide (143<h))=false:=by rw[Bool.and_eq_false_iff];simp;omega
         simp only[e1,e3,Bool.or_false,cond_true,cond_false]
 rw[if_neg h4]
 by_cases g1:194≤b<;>by_cases g2:224≤b<;>by_cases g3:240≤b
 all_goals by_cases g4:b≤223<;>by_cases g5:b≤239<;>by_cases g6:b≤244
 all_goals first|(exfalso;omega)|(simp only[g1,g2,g3,g4,g5,g6,decide_true,decide_false,cond_true,cond_false])
theorem VO (    m:Nat) (hm:4≤m) (s:ByteArray) (hs:s.size<4611686018427387904):∀(M i k:Nat),i≤s.size→s.size-i<M→s.size-i≤k→iC (m+1) M s (i:Int)=some (Lib.validGoD k (s.data.toList.drop i))
 |0,i,_,_,h,_=>by omega
 |M+    1,i,k,hi,h,hk=>by
  simp only[iC,dlt]
  by_cases hlt:i<s.size
  ·obtain⟨  k,rfl⟩:∃q,k=q+1:=⟨k-1,by omega⟩
   simp only[hlt,decide_true,cond_true]
   rw[afL m hm _ s hs i hlt,S9 s i hlt,Ta]
   cases e:okU (s[i]).toNat (s.data.toList.drop (i+1)) with
   |none=>rfl
   |    some n=>
        have hn:n≤(s.data.toList.drop (i+1)).length:=by
         unfold okU at e
         split at e
         ·simp only[Option.some.injEq] at e;omega
         ·split at e
          · split at e
            ·rename_i h;have:=(tl1 _).1 h;simp only[Option.some.injEq] at e;omega
            ·cases e
          · split at e
            ·  split at e
               ·rename_i h;have:=(tl2 _).1 h.1;simp only[Option.some.injEq] at e;omega
               ·cases e
            ·  split at e
               ·split at e
                ·rename_i h;have:=(tl3 _).1 h.1;simp only[Option.some.injEq] at e;omega
                ·cases e
               ·cases e
        rw[List.length_drop,GR] at hn
        show iC (m+1) M s ((i+n+1:Nat):Int)=_
        rw[VO m hm s hs M (i+n+1) k (by omega) (by omega) (by omega)]
        show _=some (Lib.validGoD k (List.drop n (List.drop (i+1) s.data.toList)))
        rw[List.drop_drop,show i+1+n=i+n+1 by omega]
  ·rw[List.drop_eq_nil_of_le (by rw[GR];omega),VN]
   simp only[hlt,decide_false,cond_false]
   simp[Aj]
theorem al8 (m:Nat) (s:ByteArray) (hs:s.size<4611686018427387904) (hm:s.size+5≤m):pU (m+1) s=some (Lib.validD s.data.toList):=by
 obtain⟨m,rfl⟩:∃q,m=q+1:=⟨m-1,by omega⟩
 have:=VO m (by omega) s hs (m+2) 0 s.size (by omega) (by omega) (by omega)
 rw[List.drop_zero] at this
 unfold Lib.validD
 rw[GR]
 exact this
end Go.Proofs.YtmecfjhdnbgfeaaGreatDoor
namespace Go.Proofs.YtmecfjhdnbgfeaaGreatDoor
open Go.Am
def eqb (a b:ByteArray):Bool:=a.toList==b.toList
theorem Td (a b:ByteArray):eqb a b=true↔a=b:=by
 unfold eqb
 rw[ByteArray.toList_eq,ByteArray.toList_eq,beq_iff_eq]
 refine⟨fun h=>?_,fun h=>by rw[h]⟩
 cases a with|mk x=>cases b with|mk y=>
 have:x=y:=Array.ext' h
 rw[this]
theorem Fa (a b:ByteArray):eqb a b=eqb b a:=by
 rw[Bool.eq_iff_iff,Td,Td]
 exact eq_comm
theorem al9 (a b:ByteArray):eqb a b=(a==b):=by rw[Bool.eq_iff_iff,Td,vR]
theorem VP (s t:ByteArray) (v:Dt):∀es:List Dt,mget (mput es s v) t=bif s==t then some v else mget es t
 | []=>by
   simp only[mput,mget]
   rfl
 | e::r=>by
   simp only[mput]
   cases h:(e.S 0)==s
   ·simp only[cond_false,mget,VP s t v r]
    cases h2:(e.S 0)==t
    ·rfl
    ·   have:(s==t)=false:=Jc fun e1=>by
         subst e1
         rw[h] at h2;cases h2
        rw[this];rfl
   ·have e1:=(vR _ _).1 h
    simp only[cond_true,mget,e1]
    show (bif s==t then some v else mget r t)=bif s==t then some v else(bif s==t then some (e.fld 1) else mget r t)
    cases (s==t)<;>rfl
def afM (mp:List Dt) (seen:List ByteArray):Prop:=∀s,(mgetD mp s (.bool false)).toBool=seen.any (eqb s)
theorem VQ:afM [] []:=fun s=>rfl
theorem VR {mp:List Dt} {seen:List ByteArray} (h:afM mp seen) (s:ByteArray):afM (mput mp s (.bool true)) (seen++[s]):=fun t=>by
 have:=h t
 unfold mgetD at this ⊢
 rw[VP,List.any_append,←this]
 simp only[List.any_cons,List.any_nil,Bool.or_false]
 rw[Fa t s,al9]
 cases (s==t)
 ·simp
 ·simp[Dt.toBool]
def VU (p:ByteArray→Bool):List ByteArray→List ByteArray→Bool
 |_,[]=>true
 |seen,s::r=>p s&&!(seen.any (eqb s))&&VU p (seen++[s]) r
end Go.Proofs.YtmecfjhdnbgfeaaGreatDoor
