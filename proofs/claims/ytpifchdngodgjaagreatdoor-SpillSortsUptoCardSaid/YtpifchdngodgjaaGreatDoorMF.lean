/- Fields by name, numbers, the reference's Set (out of layer 4's texts).
The value that a name denotes in a document.
Values:their integers are 64-bit.
Lengths of encodings:the program's,as a plain function.
The parts of documents for a memory:the program's,as plain functions. -/
import Derived.Test.YtpifchdngodgjaaGreatDoorMA
import Derived.Test.YtpifchdngodgjaaGreatDoorMC
import Derived.Test.YtpifchdngodgjaaGreatDoorMB
set_option linter.unusedVariables false
set_option linter.unusedSimpArgs false
namespace Go.Proofs.YtpifchdngodgjaaGreatDoor
open Go.Am
def fi (s:ByteArray):List Dt→Option Nat
 | []=>none
 |f::r=>bif ByteArray.toList (Dt.S f 0)==ByteArray.toList s then some 0 else(fi s r).map (· +1)
def oI (i:Nat):Option Nat→Int
 |some k=>((i+k:Nat):Int)
 |none=> -1
theorem oI_map (i:Nat) (o:Option Nat):oI i (o.map (· +1))=oI (i+1) o:=by cases o<;>simp[oI];omega
theorem fi_lt {s:ByteArray}:∀{L:List Dt} {k:Nat},fi s L=some k→k<L.length
 | [],k,h=>by cases h
 |f::r,k,h=>by
  rw[fi] at h
  cases hc:(ByteArray.toList (Dt.S f 0)==ByteArray.toList s) with
  |true=>rw[hc] at h;cases h;simp
  |false=>
   rw[hc,cond_false] at h
   cases hr:fi s r with
   |none=>rw[hr] at h;cases h
   |some j=>rw[hr] at h;cases h;have:=fi_lt hr;simp;omega
theorem zR_fil (m:Nat) (s:ByteArray) (L:List Dt) (hl:L.length<9223372036854775807):∀(M i:Nat),i≤L.length→L.length-i<M→zR_l1 m M L s (L.length:Int) (i:Int)=some (oI i (fi s (L.drop i)))
 |0,i,_,h=>by omega
 |M+    1,i,hi,h=>by
  simp only[zR_l1,dlt]
  by_cases hlt:i<L.length
  ·rw[List.drop_eq_getElem_cons hlt]
   simp only[hlt,decide_true,cond_true,zR_j2,zR_j3,idx_lt hlt,Option.bind_some,fi,wrapS (show i<9223372036854775807 by omega)]
   cases (ByteArray.toList (Dt.S L[i] 0)==ByteArray.toList s)
   ·    simp only[cond_false]
        rw[zR_fil m s L hl M (i+1) (by omega) (by omega),oI_map]
   ·simp[oI]
  ·have e:i=L.length:=by omega
   subst e
   simp[zR_j4,fi,oI]
theorem zR_fi (m:Nat) (s:ByteArray) (L:List Dt) (hm:L.length≤m) (hm2:m<9223372036854775807):zR (m+1) L s=some (oI 0 (fi s L)):=by
 have h:=zR_fil m s L (by omega) (m+1) 0 (Nat.zero_le _) (by omega)
 rw[List.drop_zero] at h
 exact h
def dgs (a:Nat):List UInt8→Option Nat
 | []=>some a
 |c::r=>if 48≤c.toNat∧c.toNat≤57 then dgs (10*a+(c.toNat-48)) r else none
def nu (s:ByteArray):Option Nat:=
 if s.size<1∨4<s.size then none else if(s.data.toList.head?.map (·.toNat))=some 48∧1<s.size then none else dgs 0 s.data.toList
def oP:Option Nat→Int×Bool
 |some k=>((k:Int),true)
 |none=>(0,false)
theorem wrap8 {x:Int} (h0:0≤x) (h1:x<256):IntKind.wrap IntKind.u8 x=x:=by
 unfold IntKind.wrap
 simp only[IntKind.bits,IntKind.signed,Bool.false_and,Bool.false_eq_true,if_false]
 omega
theorem num_wrap {n c:Nat} (hn:n<10000) (h1:48≤c) (h2:c≤57):IntKind.wrap IntKind.i64 ((IntKind.wrap IntKind.i64 ((10:Int)*(n:Int)))+(IntKind.wrap IntKind.i64 (IntKind.wrap IntKind.u8 ((c:Int)-(48:Int)))))=((10*n+(c-48):Nat):Int):=by
 rw[wrap8 (by omega) (by omega),wrap64 (n:=(10:Int)*(n:Int)) (by omega) (by omega),wrap64 (n:=(c:Int)-48) (by omega) (by omega),wrap64 (by omega) (by omega)]
 omega
theorem path_num_l (m:Nat) (s:ByteArray) (hs:s.size≤4):∀(M i n:Nat),i≤s.size→s.size-i<M→n<10^i→zD_l3 m M s (n:Int) (s.size:Int) (i:Int)=some (oP (dgs n (s.data.toList.drop i)))
 |0,i,_,_,h,_=>by omega
 |M+    1,i,n,hi,h,hn=>by
  have hp:10^i≤10^4:=Nat.pow_le_pow_right (by omega) (by omega)
  rw[zD_l3,dlt]
  by_cases hlt:i<s.size
  ·rw[   getB s i hlt,dgs,decide_eq_true hlt,cond_true,zD_j4,idxS_lt hlt,Option.bind_some]
   by_cases h48:s[i].toNat<48
   ·    rw[decide_eq_true (show ((s[i].toNat:Nat):Int)<48 by omega),if_neg (by omega)]
        rfl
   ·    rw[decide_eq_false (show ¬((s[i].toNat:Nat):Int)<48 by omega),cond_false,Option.bind_some]
        by_cases h57:57<s[i].toNat
        ·rw[decide_eq_true (show (57:Int)<((s[i].toNat:Nat):Int) by omega),if_neg (by omega)]
         rfl
        ·have e1:(10:Nat)^(i+1)=10*10^i:=by rw[Nat.pow_succ];omega
         rw[if_pos (by omega),decide_eq_false (show ¬(57:Int)<((s[i].toNat:Nat):Int) by omega),zD_j5,cond_false,zD_j6,idxS_lt hlt,Option.bind_some,num_wrap (by omega) (by omega) (by omega),zD_j7,wrapS (by omega)]
         exact path_num_l m s hs M (i+1) _ (by omega) (by omega) (by omega)
  ·have e:i=s.size:=by omega
   subst e
   rw[decide_eq_false hlt,List.drop_eq_nil_of_le (by rw[lenB];omega)]
   rfl
theorem ref_num_l (m:Nat) (s:ByteArray) (hs:s.size≤4):∀(M i n:Nat),i≤s.size→s.size-i<M→n<10^i→qY_l3 m M s (n:Int) (i:Int)=some (oP (dgs n (s.data.toList.drop i)))
 |0,i,_,_,h,_=>by omega
 |M+    1,i,n,hi,h,hn=>by
  have hp:10^i≤10^4:=Nat.pow_le_pow_right (by omega) (by omega)
  rw[qY_l3,dlt]
  by_cases hlt:i<s.size
  ·rw[   getB s i hlt,dgs,decide_eq_true hlt,cond_true,qY_j4,idxS_lt hlt,Option.bind_some]
   by_cases h48:s[i].toNat<48
   ·    rw[decide_eq_true (show ((s[i].toNat:Nat):Int)<48 by omega),if_neg (by omega)]
        rfl
   ·    rw[decide_eq_false (show ¬((s[i].toNat:Nat):Int)<48 by omega),cond_false,Option.bind_some]
        by_cases h57:57<s[i].toNat
        ·rw[decide_eq_true (show (57:Int)<((s[i].toNat:Nat):Int) by omega),if_neg (by omega)]
         rfl
        ·have e1:(10:Nat)^(i+1)=10*10^i:=by rw[Nat.pow_succ];omega
         rw[if_pos (by omega),decide_eq_false (show ¬(57:Int)<((s[i].toNat:Nat):Int) by omega),qY_j5,cond_false,qY_j6,idxS_lt hlt,Option.bind_some,Int.mul_comm ((n:Nat):Int) (10:Int),num_wrap (by omega) (by omega) (by omega),qY_j7,wrapS (by omega)]
         exact ref_num_l m s hs M (i+1) _ (by omega) (by omega) (by omega)
  ·have e:i=s.size:=by omega
   subst e
   rw[decide_eq_false hlt,List.drop_eq_nil_of_le (by rw[lenB];omega)]
   rfl
theorem head_nu (s:ByteArray) (h:0<s.size):s.data.toList.head?.map (·.toNat)=some s[0].toNat:=by
 have:=getB s 0 h
 rw[List.drop_zero] at this
 rw[this]
 rfl
theorem path_num (m:Nat) (hm:4≤m) (s:ByteArray):zD (m+1) s=some (oP (nu s)):=by
 rw[zD,nu]
 by_cases h1:s.size<1
 ·rw[decide_eq_true (show ((s.size:Nat):Int)<1 by omega),cond_true,if_pos (.inl h1)]
  rfl
 rw[decide_eq_false (show ¬((s.size:Nat):Int)<1 by omega),cond_false]
 by_cases h4:4<s.size
 ·rw[decide_eq_true (show (4:Int)<((s.size:Nat):Int) by omega),cond_true,if_pos (.inr h4)]
  rfl
 have hi:idxS s (0:Int)=some ((s[0]).toNat:Int):=idxS_lt (i:=0) (by omega)
 have good:zD_j0 m s false=some (oP (dgs 0 s.data.toList)):=path_num_l m s (by omega) (m+1) 0 0 (Nat.zero_le _) (by omega) (by decide)
 rw[decide_eq_false (show ¬(4:Int)<((s.size:Nat):Int) by omega),cond_false,hi,Option.bind_some,if_neg (by omega),head_nu s (by omega)]
 by_cases h48:(s[0]).toNat=48
 ·have e:(((s[0]).toNat:Int)==48)=true:=by rw[h48];rfl
  rw[e,cond_true]
  by_cases h2:1<s.size
  ·rw[decide_eq_true (show (1:Int)<((s.size:Nat):Int) by omega),if_pos ⟨by rw[h48],h2⟩]
   rfl
  ·rw[decide_eq_false (show ¬(1:Int)<((s.size:Nat):Int) by omega),if_neg (by omega)]
   exact good
 ·have e:(((s[0]).toNat:Int)==48)=false:=by rw[beq_eq_false_iff_ne];omega
  rw[e,cond_false,if_neg (by rintro⟨h,_⟩;exact h48 (Option.some.inj h))]
  exact good
theorem ref_num (m:Nat) (hm:4≤m) (s:ByteArray):qY (m+1) s=some (oP (nu s)):=by
 rw[qY,nu]
 by_cases h1:s.size<1
 ·rw[decide_eq_true (show ((s.size:Nat):Int)<1 by omega),cond_true,if_pos (.inl h1)]
  rfl
 rw[decide_eq_false (show ¬((s.size:Nat):Int)<1 by omega),cond_false]
 by_cases h4:4<s.size
 ·rw[decide_eq_true (show (4:Int)<((s.size:Nat):Int) by omega),cond_true,if_pos (.inr h4)]
  rfl
 have hi:idxS s (0:Int)=some ((s[0]).toNat:Int):=idxS_lt (i:=0) (by omega)
 have good:qY_j0 m s false=some (oP (dgs 0 s.data.toList)):=ref_num_l m s (by omega) (m+1) 0 0 (Nat.zero_le _) (by omega) (by decide)
 rw[decide_eq_false (show ¬(4:Int)<((s.size:Nat):Int) by omega),cond_false,hi,Option.bind_some,if_neg (by omega),head_nu s (by omega)]
 by_cases h48:(s[0]).toNat=48
 ·have e:(((s[0]).toNat:Int)==48)=true:=by rw[h48];rfl
  rw[e,cond_true]
  by_cases h2:1<s.size
  ·rw[decide_eq_true (show (1:Int)<((s.size:Nat):Int) by omega),if_pos ⟨by rw[h48],h2⟩]
   rfl
  ·rw[decide_eq_false (show ¬(1:Int)<((s.size:Nat):Int) by omega),if_neg (by omega)]
   exact good
 ·have e:(((s[0]).toNat:Int)==48)=false:=by rw[beq_eq_false_iff_ne];omega
  rw[e,cond_false,if_neg (by rintro⟨h,_⟩;exact h48 (Option.some.inj h))]
  exact good
def chF (v:Dt) (k:Nat):Dt:=Dt.fld ((Dt.L v 4).getD k (.int 0)) 1
theorem oI0 (k:Nat):oI 0 (some k)=(k:Int):=by simp[oI]
theorem getD_lt {l:List Dt} {k:Nat} {z:Dt} (h:k<l.length):l.getD k z=l[k]:=by rw[List.getD,List.getElem?_eq_getElem h];rfl
theorem ch_F {v:Dt} (hw:WV v) {k:Nat} (hk:k<(Dt.L v 4).length):chF v k=Dt.fld (Dt.L v 4)[k] 1∧WV (chF v k)∧(chF v k).bulk<v.bulk:=by
 have e:chF v k=Dt.fld (Dt.L v 4)[k] 1:=by unfold chF;rw[getD_lt hk]
 rw[e]
 exact⟨rfl,(wv_parts hw).2.2.2 _ (List.getElem_mem hk)⟩
theorem b5 {k:Int} (h:k=5):(k==5)=true∧(k !=5)=false:=by subst h;exact⟨rfl,rfl⟩
theorem dn1:decide ((0:Int)≤ -1)=false:=rfl
theorem dn2:decide ((-1:Int)<0)=true:=rfl
theorem dp1 (k:Nat):decide ((0:Int)≤(k:Int))=true:=decide_eq_true (by omega)
theorem dp2 (k:Nat):decide ((k:Int)<0)=false:=decide_eq_false (by omega)
theorem oIn:oI 0 none= -1:=rfl
theorem oP1 (n:Nat):oP (some n)=((n:Int),true):=rfl
theorem oPn:oP none=(0,false):=rfl
theorem at_l (m:Nat) (s:ByteArray) (v:Dt) (hl:(Dt.L v 4).length<9223372036854775807):∀(M i:Nat),i≤(Dt.L v 4).length→(Dt.L v 4).length-i<M→zT_l2 m M s (i:Int) v=some (oI i (fi s ((Dt.L v 4).drop i)))
 |0,i,_,h=>by omega
 |M+    1,i,hi,h=>by
  simp only[zT_l2,dlt]
  by_cases hlt:i<(Dt.L v 4).length
  ·rw[List.drop_eq_getElem_cons hlt]
   simp only[hlt,decide_true,cond_true,zT_j3,zT_j4,idx_lt hlt,Option.bind_some,fi,wrapS (show i<9223372036854775807 by omega)]
   cases (ByteArray.toList (Dt.S (Dt.L v 4)[i] 0)==ByteArray.toList s)
   ·    simp only[cond_false]
        rw[at_l m s v hl M (i+1) (by omega) (by omega),oI_map]
   ·simp[oI]
  ·have e:i=(Dt.L v 4).length:=by omega
   rw[e,List.drop_length]
   simp[zT_j5,fi,oI]
theorem at_eq (m:Nat) (s:ByteArray) (v:Dt) (h5:Dt.I v 0=5) (hm:(Dt.L v 4).length≤m) (hm2:m<9223372036854775807):zT (m+1) v s=some (oI 0 (fi s (Dt.L v 4))):=by
 have h:=at_l m s v (by omega) (m+1) 0 (Nat.zero_le _) (by omega)
 rw[List.drop_zero] at h
 rw[zT,(b5 h5).2,cond_false]
 exact h
end Go.Proofs.YtpifchdngodgjaaGreatDoor
namespace Go.Proofs.YtpifchdngodgjaaGreatDoor
open Go.Am
def gtV (v:Dt) (s:ByteArray):Dt:=match fi s (Dt.L v 4) with
 |some k=>chF v k
 |none=>kza2373
end Go.Proofs.YtpifchdngodgjaaGreatDoor
namespace Go.Proofs.YtpifchdngodgjaaGreatDoor
open Go.Am
def rgI (i:Int):Prop:= -9223372036854775808≤i∧i≤9223372036854775807
mutual
inductive WR:Dt→Prop where
 |mk {k i:Int} {t:ByteArray} {l ds:List Dt} (hi:rgI i) (hl:∀e∈l,WR e) (hd:∀f∈ds,WRF f):WR (.agg [.int k,.int i,.str t,.lst l,.lst ds])
inductive WRF:Dt→Prop where
 |mk {s:ByteArray} {v:Dt} (h:WR v):WRF (.agg [.str s,v])
end
structure TR (T:TypeId) (d:Dt):Prop where
 i:T=3→∃n,d= .int n∧rgI n
 s:T=9→∃s,d= .str s
 v:T=36→WR d
 f:T=71→WRF d
 l:T=23→∃l,d= .lst l∧∀e∈l,WR e
 d:T=34→∃l,d= .lst l∧∀e∈l,WRF e
theorem tr_of {ok:Nat→Prop} {w:World} {T:TypeId} {d:Dt} {cs:List Value} (h:RD Tryz.prog ok w T d cs):TR T d:=by
 induction h with
 | @int T k n hu h1 h2=>
   refine⟨?_,?_,?_,?_,?_,?_⟩<;>rintro rfl
   ·have e:=hu.symm.trans Tryz.underlying3
    simp only[Option.some.injEq,TypeDesc.int.injEq] at e
    subst e
    exact⟨n,rfl,h1,h2⟩
   ·have:=hu.symm.trans Tryz.underlying9;cases this
   ·have:=hu.symm.trans Tryz.underlying36;cases this
   ·have:=hu.symm.trans Tryz.underlying71;cases this
   ·have:=hu.symm.trans Tryz.underlying23;cases this
   ·have:=hu.symm.trans Tryz.underlying34;cases this
 | @bool T b hu=>
   refine⟨?_,?_,?_,?_,?_,?_⟩<;>rintro rfl
   ·have:=hu.symm.trans Tryz.underlying3;cases this
   ·have:=hu.symm.trans Tryz.underlying9;cases this
   ·have:=hu.symm.trans Tryz.underlying36;cases this
   ·have:=hu.symm.trans Tryz.underlying71;cases this
   ·have:=hu.symm.trans Tryz.underlying23;cases this
   ·have:=hu.symm.trans Tryz.underlying34;cases this
 | @str T s hu _=>
   refine⟨?_,fun _=>⟨s,rfl⟩,?_,?_,?_,?_⟩<;>rintro rfl
   ·have:=hu.symm.trans Tryz.underlying3;cases this
   ·have:=hu.symm.trans Tryz.underlying36;cases this
   ·have:=hu.symm.trans Tryz.underlying71;cases this
   ·have:=hu.symm.trans Tryz.underlying23;cases this
   ·have:=hu.symm.trans Tryz.underlying34;cases this
 | @agg T fs ds cs hu hl _ _ _ ih=>
   refine⟨?_,?_,?_,?_,?_,?_⟩<;>rintro rfl
   ·have:=hu.symm.trans Tryz.underlying3;cases this
   ·have:=hu.symm.trans Tryz.underlying9;cases this
   ·have e:=hu.symm.trans Tryz.underlying36
    simp only[Option.some.injEq,TypeDesc.struct.injEq] at e
    subst e
    obtain⟨a,b,c,d,e,rfl⟩:=list5' hl
    obtain⟨n0,rfl,_⟩:=(ih 0 _ a rfl rfl).i rfl
    obtain⟨n1,rfl,hr⟩:=(ih 1 _ b rfl rfl).i rfl
    obtain⟨n2,rfl⟩:=(ih 2 _ c rfl rfl).s rfl
    obtain⟨l,rfl,hl'⟩:=(ih 3 _ d rfl rfl).l rfl
    obtain⟨ds,rfl,hd'⟩:=(ih 4 _ e rfl rfl).d rfl
    exact .mk hr hl' hd'
   ·have e:=hu.symm.trans Tryz.underlying71
    simp only[Option.some.injEq,TypeDesc.struct.injEq] at e
    subst e
    obtain⟨a,b,rfl⟩:=list2 hl
    obtain⟨s,rfl⟩:=(ih 0 _ a rfl rfl).s rfl
    exact .mk ((ih 1 _ b rfl rfl).v rfl)
   ·have:=hu.symm.trans Tryz.underlying23;cases this
   ·have:=hu.symm.trans Tryz.underlying34;cases this
 | @lst T E es a len cap ad g hu _ _ _ _ _ _ ih=>
   refine⟨?_,?_,?_,?_,?_,?_⟩<;>rintro rfl
   ·have:=hu.symm.trans Tryz.underlying3;cases this
   ·have:=hu.symm.trans Tryz.underlying9;cases this
   ·have:=hu.symm.trans Tryz.underlying36;cases this
   ·have:=hu.symm.trans Tryz.underlying71;cases this
   ·have e:=hu.symm.trans Tryz.underlying23
    simp only[Option.some.injEq,TypeDesc.slice.injEq] at e
    subst e
    refine⟨es,rfl,fun e he=>?_⟩
    obtain⟨i,hi⟩:=List.getElem?_of_mem he
    exact(ih i e hi).v rfl
   ·have e:=hu.symm.trans Tryz.underlying34
    simp only[Option.some.injEq,TypeDesc.slice.injEq] at e
    subst e
    refine⟨es,rfl,fun e he=>?_⟩
    obtain⟨i,hi⟩:=List.getElem?_of_mem he
    exact(ih i e hi).f rfl
 | @arr T E q es cs hu _ _ _ _ ih=>
   refine⟨?_,?_,?_,?_,?_,?_⟩<;>rintro rfl
   ·have:=hu.symm.trans Tryz.underlying3;cases this
   ·have:=hu.symm.trans Tryz.underlying9;cases this
   ·have:=hu.symm.trans Tryz.underlying36;cases this
   ·have:=hu.symm.trans Tryz.underlying71;cases this
   ·have:=hu.symm.trans Tryz.underlying23;cases this
   ·have:=hu.symm.trans Tryz.underlying34;cases this
theorem wr_of {d:Dt} (h:HasTy Tryz.prog 36 d):WR d:=by
 obtain⟨_,_,_,h⟩:=h
 exact(tr_of h).v rfl
theorem wr_parts {d:Dt} (hw:WR d):rgI (Dt.I d 1)∧(∀e∈Dt.L d 3,WR e)∧(∀f∈Dt.L d 4,WR (Dt.fld f 1)):=by
 cases hw with
 | @mk k i t l ds hi hl hd=>
   refine⟨hi,hl,fun f hf=>?_⟩
   cases hd f hf with
   |mk h=>exact h
theorem wv_size {d:Dt} (hw:WV d):d.bulk=Dt.bulkL (Dt.L d 3)+Dt.bulkL (Dt.L d 4)+((Dt.S d 2).size+6):=by
 cases hw with
 |mk hl hd=>rw[bulk_val];rfl
theorem wf_size {d:Dt} (hw:WV d):∀f∈Dt.L d 4,f.bulk=(Dt.fld f 1).bulk+(Dt.S f 0).size+2:=by
 cases hw with
 |mk hl hd=>
  intro f hf
  cases hd f hf with
  |mk h=>rw[bulk_fld];rfl
end Go.Proofs.YtpifchdngodgjaaGreatDoor
namespace Go.Proofs.YtpifchdngodgjaaGreatDoor
open Go.Am
def zz (n:Int):Nat:=if 0≤n then(2*n).toNat else(-2*n-1).toNat
def gr:Nat→Nat→Nat
 |0,_=>0
 |k+1,u=>if u<128 then 0 else gr k (u/128)+1
theorem gr_le:∀k u,gr k u≤k
 |0,_=>Nat.le_refl _
 |k+1,u=>by
  rw[gr]
  split
  ·omega
  ·have:=gr_le k (u/128);omega
theorem wrapU64 (x:Int):IntKind.wrap IntKind.u64 x=x%18446744073709551616:=by
 unfold IntKind.wrap
 simp[IntKind.bits,IntKind.signed]
theorem zz_lt {n:Int} (h1: -9223372036854775808≤n) (h2:n≤9223372036854775807):zz n<18446744073709551616:=by
 unfold zz
 split<;>omega
theorem zig_eq (m:Nat) (n:Int) (h1: -9223372036854775808≤n) (h2:n≤9223372036854775807):yE (m+1) n=some ((zz n:Nat):Int):=by
 rw[yE]
 congr 1
 have hs:shrI IntKind.i64 n (63:Int)=n.fdiv 9223372036854775808:=rfl
 have hl:shlI IntKind.u64 (IntKind.wrap IntKind.u64 n) (1:Int)=IntKind.wrap IntKind.u64 (IntKind.wrap IntKind.u64 n*2):=rfl
 rw[hs,hl]
 unfold xorI zz
 simp only[IntKind.bits]
 by_cases h:0≤n
 ·have e1:n.fdiv 9223372036854775808=0:=by rw[Int.fdiv_eq_ediv_of_nonneg _ (by omega)];omega
  have e2:IntKind.wrap IntKind.u64 n=n:=by rw[wrapU64];omega
  have e3:IntKind.wrap IntKind.u64 (n*2)=2*n:=by rw[wrapU64];omega
  have e4:IntKind.wrap IntKind.u64 (0:Int)=0:=by rw[wrapU64];rfl
  rw[e1,e2,e3,e4,if_pos h]
  have e5:((BitVec.ofInt 64 (2*n)^^^BitVec.ofInt 64 0).toNat:Int)=2*n:=by
   have:(BitVec.ofInt 64 (2*n)^^^BitVec.ofInt 64 0)=BitVec.ofInt 64 (2*n):=by simp
   rw[this,BitVec.toNat_ofInt]
   omega
  refine(congrArg (IntKind.wrap IntKind.u64) e5).trans ?_
  rw[wrapU64]
  omega
 ·have e1:n.fdiv 9223372036854775808= -1:=by rw[Int.fdiv_eq_ediv_of_nonneg _ (by omega)];omega
  have e2:IntKind.wrap IntKind.u64 n=n+18446744073709551616:=by rw[wrapU64];omega
  have e3:IntKind.wrap IntKind.u64 ((n+18446744073709551616)*2)=2*n+18446744073709551616:=by rw[wrapU64];omega
  have e4:IntKind.wrap IntKind.u64 (-1:Int)=18446744073709551615:=by rw[wrapU64];rfl
  rw[e1,e2,e3,e4,if_neg h]
  have e5:((BitVec.ofInt 64 (2*n+18446744073709551616)^^^BitVec.ofInt 64 18446744073709551615).toNat:Int)= -2*n-1:=by
   have e6:BitVec.ofInt 64 18446744073709551615=BitVec.allOnes 64:=by decide
   have:(BitVec.ofInt 64 (2*n+18446744073709551616)^^^BitVec.ofInt 64 18446744073709551615)= ~~~ BitVec.ofInt 64 (2*n+18446744073709551616):=by
        rw[e6,BitVec.xor_allOnes]
   rw[this,BitVec.toNat_not,BitVec.toNat_ofInt]
   omega
  refine(congrArg (IntKind.wrap IntKind.u64) e5).trans ?_
  rw[wrapU64]
  omega
theorem shr7 (u:Nat):shrI IntKind.u64 (u:Int) (7:Int)=((u/128:Nat):Int):=by
 have hs:shrI IntKind.u64 (u:Int) (7:Int)=(u:Int).fdiv 128:=rfl
 rw[hs,Int.fdiv_eq_ediv_of_nonneg _ (by omega)]
 omega
theorem num_loop (m:Nat):∀(k M u b:Nat),u<128^(k+1)→k<M→b+k<1000000→qZ_l1 m M (b:Int) (u:Int)=some ((b+gr k u:Nat):Int)
 |_,0,_,_,_,h,_=>by omega
 |0,M+1,u,b,hu,_,_=>by
  rw[qZ_l1,decide_eq_false (by simp at hu;omega),cond_false]
  rfl
 |k+    1,M+1,u,b,hu,hM,hb=>by
  rw[qZ_l1,gr]
  by_cases h:u<128
  ·rw[decide_eq_false (by omega),cond_false,if_pos h]
   rfl
  ·have hd:u/128<128^(k+1):=by
        rw[Nat.pow_succ] at hu
        exact Nat.div_lt_of_lt_mul (by rw[Nat.mul_comm];exact hu)
   rw[decide_eq_true (by omega),cond_true,qZ_j2,qZ_j3,wrapS (by omega),shr7,num_loop m k M (u/128) (b+1) hd (by omega) (by omega),if_neg h]
   congr 2
   omega
def nlen (n:Int):Nat:=1+gr 9 (zz n)
theorem nlen_le (n:Int):1≤nlen n∧nlen n≤10:=by have:=gr_le 9 (zz n);unfold nlen;omega
theorem nlen_eq (m:Nat) (hm:12≤m) (n:Int) (h1: -9223372036854775808≤n) (h2:n≤9223372036854775807):qZ (m+1) n=some ((nlen n:Nat):Int):=by
 obtain⟨q,rfl⟩:∃q,m=q+1:=⟨m-1,by omega⟩
 rw[qZ,zig_eq q n h1 h2,Option.bind_some,qZ_j0]
 have hz:=zz_lt h1 h2
 exact num_loop (q+1) 9 (q+2) (zz n) 1 (by rw[show (128:Nat)^(9+1)=1180591620717411303424 from by decide];omega) (by omega) (by omega)
noncomputable def lenF:Nat→Dt→Nat
 |0,_=>0
 |n+1,d=>1+(bif Dt.I d 0==3 then nlen (Dt.I d 1) else bif Dt.I d 0==10 then nlen (Dt.I d 1) else bif Dt.I d 0==9 then 1 else bif Dt.I d 0==4 then nlen (Dt.S d 2).size+(Dt.S d 2).size else bif Dt.I d 0==7 then nlen (Dt.S d 2).size+(Dt.S d 2).size else bif Dt.I d 0==8 then(Dt.S d 2).size else bif Dt.I d 0==6 then nlen (Dt.L d 3).length+((Dt.L d 3).map (lenF n)).sum else bif Dt.I d 0==5 then nlen (Dt.L d 4).length+((Dt.L d 4).map fun f=>nlen (Dt.S f 0).size+(Dt.S f 0).size+lenF n (Dt.fld f 1)).sum else 0)
theorem sum_le5 {L:List Dt} {g:Dt→Nat} (h:∀e∈L,g e≤5*e.bulk):(L.map g).sum≤5*Dt.bulkL L:=by
 induction L with
 |nil=>simp[Dt.bulkL]
 |cons x r ih=>
  have h1:=h x List.mem_cons_self
  have h2:=ih fun e he=>h e (List.mem_cons_of_mem _ he)
  simp only[List.map_cons,List.sum_cons,Dt.bulkL]
  omega
theorem lenF_le:∀(N:Nat) (d:Dt),WV d→lenF N d≤5*d.bulk
 |0,d,_=>by simp[lenF]
 |N+1,d,hw=>by
  obtain⟨p1,p2,p3,p4⟩:=wv_parts hw
  have hz:=wv_size hw
  have s3:((Dt.L d 3).map (lenF N)).sum≤5*Dt.bulkL (Dt.L d 3):=sum_le5 fun e he=>lenF_le N e (p3 e he).1
  have s4:((Dt.L d 4).map fun f=>nlen (Dt.S f 0).size+(Dt.S f 0).size+lenF N (Dt.fld f 1)).sum≤5*Dt.bulkL (Dt.L d 4):=sum_le5 fun f hf=>by
   have e1:=lenF_le N _ (p4 f hf).1
   have e2:=wf_size hw f hf
   have e3:=nlen_le (Dt.S f 0).size
   omega
  have n1:=nlen_le (Dt.I d 1)
  have n2:=nlen_le (Dt.S d 2).size
  have n3:=nlen_le (Dt.L d 3).length
  have n4:=nlen_le (Dt.L d 4).length
  have q0:∀(b:Bool) (x y:Nat),x+1≤5*d.bulk→y+1≤5*d.bulk→(bif b then x else y)+1≤5*d.bulk:=fun b x y h1 h2=>by cases b<;>assumption
  rw[lenF,Nat.add_comm]
  exact q0 _ _ _ (by omega) (q0 _ _ _ (by omega) (q0 _ _ _ (by omega) (q0 _ _ _ (by omega) (q0 _ _ _ (by omega) (q0 _ _ _ (by omega) (q0 _ _ _ (by omega) (q0 _ _ _ (by omega) (by omega))))))))
theorem wrapA {a b:Nat} (h:a+b<9223372036854775807):IntKind.wrap IntKind.i64 ((a:Int)+(b:Int))=((a+b:Nat):Int):=by rw[wrap64 (by omega) (by omega)];omega
theorem clen_l4 (m:Nat) (self:Dt→Option Int) (l:List Dt) (g:Dt→Nat) (hl:l.length<1000000000000) (hs:∀e∈l,self e=some ((g e:Nat):Int)):∀(M i b:Nat),i≤l.length→l.length-i<M→b+((l.drop i).map g).sum<1000000000000→qF_l4 m self M (b:Int) l (l.length:Int) (i:Int)=some ((b+((l.drop i).map g).sum:Nat):Int)
 |0,i,b,_,h,_=>by omega
 |M+1,i,b,hi,h,hb=>by
  simp only[qF_l4,dlt]
  by_cases hlt:i<l.length
  ·rw[List.drop_eq_getElem_cons hlt,List.map_cons,List.sum_cons] at hb ⊢
   simp only[hlt,decide_true,cond_true,qF_j1,qF_j6,qF_j5,qF_j3,qF_j10,qF_j9,qF_j7,qF_j2,qF_j0,idx_lt hlt,Option.bind_some,hs _ (List.getElem_mem hlt),wrapS (show i<9223372036854775807 by omega),wrapA (show b+g l[i]<9223372036854775807 by omega)]
   rw[clen_l4 m self l g hl hs M (i+1) (b+g l[i]) (by omega) (by omega) (by omega),Nat.add_assoc]
  ·have:l.drop i=[]:=List.drop_eq_nil_of_le (by omega)
   simp[hlt,this,qF_j1,qF_j6,qF_j5,qF_j3,qF_j10,qF_j9,qF_j7,qF_j2,qF_j0]
theorem clen_l8 (m:Nat) (hm:12≤m) (self:Dt→Option Int) (l:List Dt) (g:Dt→Nat) (hl:l.length<1000000000000) (hz:∀f∈l,(Dt.S f 0).size<1000000000000) (hs:∀f∈l,self (Dt.fld f 1)=some ((g f:Nat):Int)):∀(M i b:Nat),i≤l.length→l.length-i<M→b+((l.drop i).map fun f=>nlen (Dt.S f 0).size+(Dt.S f 0).size+g f).sum<1000000000000→qF_l8 (m+1) self M (b:Int) l (l.length:Int) (i:Int)=some ((b+((l.drop i).map fun f=>nlen (Dt.S f 0).size+(Dt.S f 0).size+g f).sum:Nat):Int)
 |0,i,b,_,h,_=>by omega
 |M+1,i,b,hi,h,hb=>by
  simp only[qF_l8,dlt]
  by_cases hlt:i<l.length
  ·rw[List.drop_eq_getElem_cons hlt,List.map_cons,List.sum_cons] at hb ⊢
   have hn:=nlen_eq m hm (Dt.S l[i] 0).size (by omega) (by have:=hz _ (List.getElem_mem hlt);omega)
   simp only[hlt,decide_true,cond_true,qF_j1,qF_j6,qF_j5,qF_j3,qF_j10,qF_j9,qF_j7,qF_j2,qF_j0,idx_lt hlt,Option.bind_some,hn,hs _ (List.getElem_mem hlt),wrapS (show i<9223372036854775807 by omega),wrapA (show nlen (Dt.S l[i] 0).size+(Dt.S l[i] 0).size<9223372036854775807 by omega),wrapA (show nlen (Dt.S l[i] 0).size+(Dt.S l[i] 0).size+g l[i]<9223372036854775807 by omega),wrapA (show b+(nlen (Dt.S l[i] 0).size+(Dt.S l[i] 0).size+g l[i])<9223372036854775807 by omega)]
   rw[clen_l8 m hm self l g hl hz hs M (i+1) (b+(nlen (Dt.S l[i] 0).size+(Dt.S l[i] 0).size+g l[i])) (by omega) (by omega) (by omega),Nat.add_assoc]
  ·have:l.drop i=[]:=List.drop_eq_nil_of_le (by omega)
   simp[hlt,this,qF_j1,qF_j6,qF_j5,qF_j3,qF_j10,qF_j9,qF_j7,qF_j2,qF_j0]
theorem clen_eq:∀(N:Nat) (d:Dt),WV d→WR d→d.bulk≤N→N≤100000000000→∀m,N+30≤m→qF (m+1) d=some ((lenF N d:Nat):Int)
 |0,d,_,_,h,_,_,_=>by have:=bulk_pos d;omega
 |N+1,d,hw,hr,h,hN,m,hm=>by
  obtain⟨p1,p2,p3,p4⟩:=wv_parts hw
  obtain⟨r1,r3,r4⟩:=wr_parts hr
  have hz:=wv_size hw
  have hle:=lenF_le (N+1) d hw
  obtain⟨q,rfl⟩:∃q,m=q+1:=⟨m-1,by omega⟩
  have k3:=clen_l4 (q+1) (qF (q+1)) (Dt.L d 3) (lenF N) (by omega) (fun e he=>clen_eq N e (p3 e he).1 (r3 e he) (by have:=(p3 e he).2;omega) (by omega) q (by omega)) (q+2) 0
  have k4:=clen_l8 q (by omega) (qF (q+1)) (Dt.L d 4) (fun f=>lenF N (Dt.fld f 1)) (by omega) (fun f hf=>by have:=wf_size hw f hf;have:=bulk_mem hf;omega) (fun f hf=>clen_eq N _ (p4 f hf).1 (r4 f hf) (by have:=(p4 f hf).2;omega) (by omega) q (by omega)) (q+2) 0
  have n1:=nlen_eq q (by omega) (Dt.I d 1) r1.1 r1.2
  have n2:=nlen_eq q (by omega) (Dt.S d 2).size (by omega) (by omega)
  have n3:=nlen_eq q (by omega) (Dt.L d 3).length (by omega) (by omega)
  have n4:=nlen_eq q (by omega) (Dt.L d 4).length (by omega) (by omega)
  have one:∀k:Nat,k<1000000000000→IntKind.wrap IntKind.i64 ((1:Int)+(k:Int))=((1+k:Nat):Int):=fun k hk=>wrapA (a:=1) (by omega)
  have o1:=one (nlen (Dt.I d 1)) (by have:=nlen_le (Dt.I d 1);omega)
  have l2:=nlen_le (Dt.S d 2).size
  have l3:=nlen_le (Dt.L d 3).length
  have l4:=nlen_le (Dt.L d 4).length
  rw[lenF] at hle ⊢
  simp only[qF,qF_j1,qF_j6,qF_j5,qF_j3,qF_j10,qF_j9,qF_j7,qF_j2,qF_j0]
  cases e3:(Dt.I d 0==3)
  case true=>simp only[cond_true,n1,Option.bind_some,o1]
  cases e10:(Dt.I d 0==10)
  case true=>simp only[cond_true,cond_false,n1,Option.bind_some,o1]
  cases e9:(Dt.I d 0==9)
  case true=>simp only[cond_true,cond_false];rfl
  cases e4:(Dt.I d 0==4)
  case true=>simp only[cond_true,cond_false,n2,Option.bind_some,wrapA (show nlen (Dt.S d 2).size+(Dt.S d 2).size<9223372036854775807 by omega),one (nlen (Dt.S d 2).size+(Dt.S d 2).size) (by omega)]
  cases e7:(Dt.I d 0==7)
  case true=>simp only[cond_true,cond_false,n2,Option.bind_some,wrapA (show nlen (Dt.S d 2).size+(Dt.S d 2).size<9223372036854775807 by omega),one (nlen (Dt.S d 2).size+(Dt.S d 2).size) (by omega)]
  cases e8:(Dt.I d 0==8)
  case true=>simp only[cond_true,cond_false,one (Dt.S d 2).size (by omega)]
  cases e6:(Dt.I d 0==6)
  case true=>
   simp only[e3,e10,e9,e4,e7,e8,e6,cond_true,cond_false] at hle
   simp only[cond_true,cond_false,n3,Option.bind_some,one (nlen (Dt.L d 3).length) (by omega)]
   have:=k3 (1+nlen (Dt.L d 3).length) (Nat.zero_le _) (by omega) (by rw[List.drop_zero];omega)
   rw[List.drop_zero,Nat.add_assoc] at this
   exact this
  cases e5:(Dt.I d 0==5)
  case true=>
   simp only[e3,e10,e9,e4,e7,e8,e6,e5,cond_true,cond_false] at hle
   simp only[cond_true,cond_false,n4,Option.bind_some,one (nlen (Dt.L d 4).length) (by omega)]
   have:=k4 (1+nlen (Dt.L d 4).length) (Nat.zero_le _) (by omega) (by rw[List.drop_zero];omega)
   rw[List.drop_zero,Nat.add_assoc] at this
   exact this
  simp only[cond_false]
  rfl
end Go.Proofs.YtpifchdngodgjaaGreatDoor
namespace Go.Proofs.YtpifchdngodgjaaGreatDoor
open Go.Am
def splitP (g:Dt→Nat) (mem:Int):List Dt→Nat→List Dt→List (List Dt)×List Dt×Nat
 |cur,sz,[]=>([],cur,sz)
 |cur,sz,d::r=>bif !cur.isEmpty&&decide (mem<((sz+g d:Nat):Int)) then(cur::(splitP g mem [d] (g d) r).1,(splitP g mem [d] (g d) r).2) else splitP g mem (cur++[d]) (sz+g d) r
theorem split_flat (g:Dt→Nat) (mem:Int):∀(r cur:List Dt) (sz:Nat),(splitP g mem cur sz r).1.flatten++(splitP g mem cur sz r).2.1=cur++r
 | [],cur,sz=>by simp[splitP]
 |d::r,cur,sz=>by
  rw[splitP]
  cases (!cur.isEmpty&&decide (mem<((sz+g d:Nat):Int)))
  ·rw[cond_false,split_flat g mem r];simp
  ·rw[cond_true]
   have:=split_flat g mem r [d] (g d)
   simp only[List.flatten_cons,List.append_assoc,this]
   simp
theorem split_big (g:Dt→Nat) (mem:Int):∀(r cur:List Dt) (sz:Nat),(splitP g mem cur sz r).1≠[]→mem<((sz+(r.map g).sum:Nat):Int)
 | [],cur,sz,h=>absurd rfl h
 |d::r,cur,sz,h=>by
  rw[List.map_cons,List.sum_cons]
  rw[splitP] at h
  cases e:(!cur.isEmpty&&decide (mem<((sz+g d:Nat):Int))) with
  |false=>
   rw[e,cond_false] at h
   have:=split_big g mem r _ _ h
   omega
  |true=>
   have:=of_decide_eq_true (Bool.and_eq_true_iff.1 e).2
   omega
theorem split_none (g:Dt→Nat) (mem:Int):∀(r cur:List Dt) (sz:Nat),(splitP g mem cur sz r).1=[]→(splitP g mem cur sz r).2.2=sz+(r.map g).sum
 | [],cur,sz,h=>by simp[splitP]
 |d::r,cur,sz,h=>by
  rw[List.map_cons,List.sum_cons]
  rw[splitP] at h ⊢
  cases e:(!cur.isEmpty&&decide (mem<((sz+g d:Nat):Int))) with
  |false=>
   rw[e,cond_false] at h
   rw[cond_false,split_none g mem r _ _ h]
   omega
  |true=>
   rw[e,cond_true] at h
   cases h
theorem split_len (g:Dt→Nat) (mem:Int):∀(r cur:List Dt) (sz:Nat),(splitP g mem cur sz r).1.length≤r.length
 | [],cur,sz=>by simp[splitP]
 |d::r,cur,sz=>by
  rw[splitP,List.length_cons]
  cases (!cur.isEmpty&&decide (mem<((sz+g d:Nat):Int)))
  ·rw[cond_false];have:=split_len g mem r (cur++[d]) (sz+g d);omega
  ·rw[cond_true];have:=split_len g mem r [d] (g d);simp only[List.length_cons];omega
noncomputable def finP (mem:Int) (al:Bool) (LL last:List Dt) (sz:Nat):List Dt×Int:=
 bif LL.isEmpty&&decide ((sz:Int)≤mem) then([],0) else bif al then(LL++[.lst last],0) else([],22)
theorem take_more {D:List Dt} {f k:Nat} (h:f+k<D.length):(D.drop f).take (k+1)=(D.drop f).take k++[D[f+k]]:=by
 rw[List.take_succ_eq_append_getElem (by rw[List.length_drop];omega),List.getElem_drop]
theorem sparts_l (m:Nat) (D:List Dt) (mem:Int) (al:Bool) (g:Dt→Nat) (hg:∀d∈D,zW m d=some (((g d:Nat):Int),0)) (h1:1≤mem) (h2:mem≤9223372036854775807) (hl:D.length<1000000):∀(M f k sz:Nat) (L:List Dt),f+k≤D.length→D.length-(f+k)<M→sz+((D.drop (f+k)).map g).sum<1000000000000→L.length+(D.length-(f+k))<1000000→
  qQ_l2 m M D mem al (f:Int) (sz:Int) D (D.length:Int) ((f+k:Nat):Int) L=some (finP mem al (L++(splitP g mem ((D.drop f).take k) sz (D.drop (f+k))).1.map Dt.lst) (splitP g mem ((D.drop f).take k) sz (D.drop (f+k))).2.1 (splitP g mem ((D.drop f).take k) sz (D.drop (f+k))).2.2)
 |0,f,k,sz,L,_,h,_,_=>by omega
 |M+    1,f,k,sz,L,hi,h,hb,hL=>by
  simp only[qQ_l2,dlt]
  by_cases hlt:f+k<D.length
  ·have hd:=List.drop_eq_getElem_cons hlt
   rw[hd,List.map_cons,List.sum_cons] at hb
   simp only[hlt,decide_true,cond_true,qQ_j6,qQ_j5,qQ_j4,qQ_j3,qQ_j10,qQ_j9,qQ_j8,qQ_j7,qQ_j1,qQ_j0,idx_lt hlt,Option.bind_some,hg _ (List.getElem_mem hlt)]
   rw[hd,splitP]
   have go:qQ_l2 m M D mem al (f:Int) (IntKind.wrap IntKind.i64 ((sz:Int)+(g D[f+k]:Int))) D (D.length:Int) (IntKind.wrap IntKind.i64 (((f+k:Nat):Int)+1)) L=some (finP mem al (L++(splitP g mem ((D.drop f).take k++[D[f+k]]) (sz+g D[f+k]) (D.drop (f+k+1))).1.map Dt.lst) (splitP g mem ((D.drop f).take k++[D[f+k]]) (sz+g D[f+k]) (D.drop (f+k+1))).2.1 (splitP g mem ((D.drop f).take k++[D[f+k]]) (sz+g D[f+k]) (D.drop (f+k+1))).2.2):=by
        rw[wrapA (by omega),wrapS (by omega),←take_more hlt]
        exact sparts_l m D mem al g hg h1 h2 hl M f (k+1) (sz+g D[f+k]) L (by omega) (by omega) (by rw[←Nat.add_assoc];omega) (by omega)
   cases k with
   |    zero=>
        have e1:decide ((f:Int)<((f+0:Nat):Int))=false:=decide_eq_false (by omega)
        simp only[e1,cond_false,List.take_zero,List.isEmpty_nil,Bool.not_true,Bool.false_and]
        simp only[List.take_zero] at go
        exact go
   |    succ k=>
        have e1:decide ((f:Int)<((f+(k+1):Nat):Int))=true:=decide_eq_true (by omega)
        have e2:((D.drop f).take (k+1)).isEmpty=false:=by
         rw[take_more (by omega)];simp
        have e3:decide (IntKind.wrap IntKind.i64 (mem-(sz:Int))<(g D[f+(k+1)]:Int))=decide (mem<((sz+g D[f+(k+1)]:Nat):Int)):=by
         rw[wrap64 (by omega) (by omega)]
         exact decide_eq_decide.2 (by omega)
        simp only[e1,cond_true,e2,Bool.not_false,Bool.true_and,e3]
        cases decide (mem<((sz+g D[f+(k+1)]:Nat):Int))
        ·simp only[cond_false]
         exact go
        ·simp only[cond_true]
         have c1:cutL D (f:Int) ((f+(k+1):Nat):Int)=some ((D.drop f).take (k+1)):=by
          rw[cutL_nat (by omega) (by omega)]
          congr 2
          omega
         have z:IntKind.wrap IntKind.i64 ((0:Int)+(g D[f+(k+1)]:Int))=((g D[f+(k+1)]:Nat):Int):=by rw[wrap64 (by omega) (by omega)];omega
         rw[c1,Option.bind_some,app_le (by simp;omega),Option.bind_some,z,wrapS (by omega)]
         have:=sparts_l m D mem al g hg h1 h2 hl M (f+(k+1)) 1 (g D[f+(k+1)]) (L++[Dt.lst ((D.drop f).take (k+1))]) (by omega) (by omega) (by omega) (by rw[List.length_append,List.length_singleton];omega)
         have t1:(D.drop (f+(k+1))).take 1=[D[f+(k+1)]]:=by rw[hd];rfl
         rw[t1] at this
         simpa using this
  ·have hk:f+k=D.length:=by omega
   have hd:D.drop (f+k)=[]:=List.drop_eq_nil_of_le (by omega)
   have c1:cutL D (f:Int) ((D.length:Nat):Int)=some ((D.drop f).take k):=by
        rw[cutL_nat (by omega) (by omega)]
        congr 2
        omega
   rw[hd,splitP]
   simp only[hlt,decide_false,cond_false,qQ_j6,qQ_j5,qQ_j4,qQ_j3,qQ_j10,qQ_j9,qQ_j8,qQ_j7,qQ_j1,qQ_j0,c1,Option.bind_some,List.map_nil,List.append_nil,finP]
   rw[app_le (by simp;omega),Option.bind_some]
   cases L with
   |    nil=>
        have e0:((([]:List Dt).length:Int)==0)=true:=rfl
        simp only[e0,cond_true,List.isEmpty_nil,Bool.true_and]
        cases decide ((sz:Int)≤mem)<;>cases al<;>rfl
   |    cons x r=>
        have e0:(((x::r).length:Int)==0)=false:=by rw[List.length_cons,beq_eq_false_iff_ne];omega
        simp only[e0,cond_false,List.isEmpty_cons,Bool.false_and]
        cases al<;>rfl
theorem sparts_eq (m:Nat) (D:List Dt) (mem:Int) (al:Bool) (g:Dt→Nat) (hg:∀d∈D,zW m d=some (((g d:Nat):Int),0)) (h1:1≤mem) (h2:mem≤9223372036854775807) (hl:D.length<1000000) (hm:D.length<m) (hb:(D.map g).sum<1000000000000):
  qQ (m+1) D mem al=some (finP mem al ((splitP g mem [] 0 D).1.map Dt.lst) (splitP g mem [] 0 D).2.1 (splitP g mem [] 0 D).2.2):=by
 have:=sparts_l m D mem al g hg h1 h2 hl (m+1) 0 0 0 [] (by omega) (by omega) (by rw[Nat.zero_add,List.drop_zero];omega) (by simp;omega)
 rw[List.take_zero,List.nil_append,List.drop_zero] at this
 rw[qQ,decide_eq_false (by omega),cond_false]
 exact this
theorem sparts_arg (m:Nat) (D:List Dt) (mem:Int) (al:Bool) (h1:mem<1):qQ (m+1) D mem al=some ([],1):=by
 rw[qQ,decide_eq_true h1,cond_true]
end Go.Proofs.YtpifchdngodgjaaGreatDoor
