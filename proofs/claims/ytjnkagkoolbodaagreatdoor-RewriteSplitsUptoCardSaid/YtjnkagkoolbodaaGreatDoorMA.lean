/- Small facts on the primitive functions of the shallow texts.
Data of the seat's types,taken apart.
Values:well-formed data,and their sizes.
Values:their parts.
Values:how many values are within a value,and how many levels it has:the program's functions and the reference's,in plain Lean. -/
import Derived.Test.YtjnkagkoolbodaaGreatDoorAm20
import Derived.Test.YtjnkagkoolbodaaGreatDoorAm21
import Derived.Test.YtjnkagkoolbodaaGreatDoorProg
import Derived.Test.YtjnkagkoolbodaaGreatDoorSh
set_option linter.unusedVariables false
set_option linter.unusedSimpArgs false
namespace Go.Am
theorem wrap64 {n:Int} (h1: -9223372036854775808≤n) (h2:n≤9223372036854775807):IntKind.wrap IntKind.i64 n=n:=by
 unfold IntKind.wrap
 simp only[IntKind.bits,IntKind.signed,Bool.true_and,Nat.add_one_sub_one]
 split<;>rename_i h<;>simp only[ge_iff_le,decide_eq_true_eq] at h<;>omega
theorem aF {i:Nat} (h:i<9223372036854775807):IntKind.wrap IntKind.i64 ((i:Int)+1)=((i+1:Nat):Int):=by rw[wrap64 (by omega) (by omega)];omega
theorem aA {l:List Dt} {i:Nat} (h:i<l.length):idx l (i:Int)=some l[i]:=by
 unfold idx
 rw[if_pos (by omega)]
 simp[h]
theorem ig {s:ByteArray} {i:Nat} (h:i<s.size):idxS s (i:Int)=some ((s[i]).toNat:Int):=by
 unfold idxS
 rw[if_pos (by omega)]
 simp[h]
theorem jB {l r:List Dt} (h:l.length+r.length≤137438953472):app l r=some (l++r):=by unfold app;rw[if_pos h]
theorem dlt {i j:Nat}:decide ((i:Int)<(j:Int))=decide (i<j):=by simp
theorem dle {i j:Nat}:decide ((i:Int)≤(j:Int))=decide (i≤j):=by simp
theorem ieq {i j:Nat}:(((i:Int)==(j:Int)):Bool)=(i==j):=by
 rw[Bool.eq_iff_iff];simp;omega
end Go.Am
namespace Go.Proofs.YtjnkagkoolbodaaGreatDoor
open Go.Am
theorem dw {T:TypeId} {k:IntKind} {P:Program} {d:Dt} (hu:P.underlying T=some (.int k)) (h:HasTy P T d):d= .int d.toInt∧k.min≤d.toInt∧d.toInt≤k.max:=by
 obtain⟨_,_,_,h⟩:=h
 obtain⟨h1,_,h2,h3⟩:=h.int_inv hu
 exact⟨h1,h2,h3⟩
theorem rR {T:TypeId} {P:Program} {d:Dt} (hu:P.underlying T=some .bool) (h:HasTy P T d):d= .bool d.toBool:=by
 obtain⟨_,_,_,h⟩:=h
 exact(h.bool_inv hu).1
theorem kV {T:TypeId} {P:Program} {d:Dt} (hu:P.underlying T=some .string) (h:HasTy P T d):d= .str d.toStr∧d.toStr.size≤maxLen:=by
 obtain⟨_,_,_,h⟩:=h
 exact⟨(h.str_inv hu).1,(h.str_inv hu).2.2⟩
theorem aM {T E:TypeId} {P:Program} {d:Dt} (hu:P.underlying T=some (.slice E)) (h:HasTy P T d):d= .lst d.toLst∧d.toLst.length≤maxLen∧∀e∈d.toLst,HasTy P E e:=by
 obtain⟨ok,w,_,h⟩:=h
 obtain⟨h1,a,cap,ad,g,_,h2,h3,_,_,h4⟩:=h.lst_inv hu
 refine⟨h1,Nat.le_trans h2 h3,fun e he=>?_⟩
 obtain⟨i,hi⟩:=List.getElem?_of_mem he
 exact⟨ok,w,_,h4 i e hi⟩
theorem aK {T:TypeId} {fs:Array Field} {P:Program} {d:Dt} (hu:P.underlying T=some (.struct fs)) (h:HasTy P T d):(∃ds,d= .agg ds∧ds.length=fs.size)∧∀i f,fs[i]? =some f→HasTy P f.type (d.fld i):=by
 obtain⟨ok,w,_,h⟩:=h
 obtain⟨h1,_,_,h2⟩:=h.agg_inv hu
 exact⟨h1,fun i f hf=>⟨ok,w,_,h2 i f hf⟩⟩
end Go.Proofs.YtjnkagkoolbodaaGreatDoor
namespace Go.Proofs.YtjnkagkoolbodaaGreatDoor
open Go.Am
mutual
inductive WV:Dt→Prop where
 |mk {k i:Int} {t:ByteArray} {l ds:List Dt} (hl:∀e∈l,WV e) (hd:∀f∈ds,WF f):WV (.agg [.int k,.int i,.str t,.lst l,.lst ds])
inductive WF:Dt→Prop where
 |mk {s:ByteArray} {v:Dt} (h:WV v):WF (.agg [.str s,v])
end
theorem aC5 {A:Type} {l:List A} (h:l.length=2):∃a b,l=[a,b]:=by
 match l,h with
 | [a,b],_=>exact⟨a,b,rfl⟩
theorem aAG {A:Type} {l:List A} (h:l.length=5):∃a b c d e,l=[a,b,c,d,e]:=by
 match l,h with
 | [a,b,c,d,e],_=>exact⟨a,b,c,d,e,rfl⟩
structure TQ (T:TypeId) (d:Dt):Prop where
 i:T=3→∃n,d= .int n
 s:T=9→∃s,d= .str s
 v:T=30→WV d
 f:T=156→WF d
 l:T=27→∃l,d= .lst l∧∀e∈l,WV e
 d:T=28→∃l,d= .lst l∧∀e∈l,WF e
theorem aC6 {ok:Nat→Prop} {w:World} {T:TypeId} {d:Dt} {cs:List Value} (h:RD Tryz.prog ok w T d cs):TQ T d:=by
 induction h with
 | @int T k n hu _ _=>
   refine⟨fun _=>⟨n,rfl⟩,?_,?_,?_,?_,?_⟩<;>rintro rfl
   ·have:=hu.symm.trans Tryz.underlying9;cases this
   ·have:=hu.symm.trans Tryz.underlying30;cases this
   ·have:=hu.symm.trans Tryz.underlying156;cases this
   ·have:=hu.symm.trans Tryz.underlying27;cases this
   ·have:=hu.symm.trans Tryz.underlying28;cases this
 | @bool T b hu=>
   refine⟨?_,?_,?_,?_,?_,?_⟩<;>rintro rfl
   ·have:=hu.symm.trans Tryz.underlying3;cases this
   ·have:=hu.symm.trans Tryz.underlying9;cases this
   ·have:=hu.symm.trans Tryz.underlying30;cases this
   ·have:=hu.symm.trans Tryz.underlying156;cases this
   ·have:=hu.symm.trans Tryz.underlying27;cases this
   ·have:=hu.symm.trans Tryz.underlying28;cases this
 | @str T s hu _=>
   refine⟨?_,fun _=>⟨s,rfl⟩,?_,?_,?_,?_⟩<;>rintro rfl
   ·have:=hu.symm.trans Tryz.underlying3;cases this
   ·have:=hu.symm.trans Tryz.underlying30;cases this
   ·have:=hu.symm.trans Tryz.underlying156;cases this
   ·have:=hu.symm.trans Tryz.underlying27;cases this
   ·have:=hu.symm.trans Tryz.underlying28;cases this
 | @agg T fs ds cs hu hl _ _ _ ih=>
   refine⟨?_,?_,?_,?_,?_,?_⟩<;>rintro rfl
   ·have:=hu.symm.trans Tryz.underlying3;cases this
   ·have:=hu.symm.trans Tryz.underlying9;cases this
   ·have e:=hu.symm.trans Tryz.underlying30
    simp only[Option.some.injEq,TypeDesc.struct.injEq] at e
    subst e
    obtain⟨a,b,c,d,e,rfl⟩:=aAG hl
    obtain⟨n0,rfl⟩:=(ih 0 _ a rfl rfl).i rfl
    obtain⟨n1,rfl⟩:=(ih 1 _ b rfl rfl).i rfl
    obtain⟨n2,rfl⟩:=(ih 2 _ c rfl rfl).s rfl
    obtain⟨l,rfl,hl'⟩:=(ih 3 _ d rfl rfl).l rfl
    obtain⟨ds,rfl,hd'⟩:=(ih 4 _ e rfl rfl).d rfl
    exact .mk hl' hd'
   ·have e:=hu.symm.trans Tryz.underlying156
    simp only[Option.some.injEq,TypeDesc.struct.injEq] at e
    subst e
    obtain⟨a,b,rfl⟩:=aC5 hl
    obtain⟨s,rfl⟩:=(ih 0 _ a rfl rfl).s rfl
    exact .mk ((ih 1 _ b rfl rfl).v rfl)
   ·have:=hu.symm.trans Tryz.underlying27;cases this
   ·have:=hu.symm.trans Tryz.underlying28;cases this
 | @lst T E es a len cap ad g hu _ _ _ _ _ _ ih=>
   refine⟨?_,?_,?_,?_,?_,?_⟩<;>rintro rfl
   ·have:=hu.symm.trans Tryz.underlying3;cases this
   ·have:=hu.symm.trans Tryz.underlying9;cases this
   ·have:=hu.symm.trans Tryz.underlying30;cases this
   ·have:=hu.symm.trans Tryz.underlying156;cases this
   ·have e:=hu.symm.trans Tryz.underlying27
    simp only[Option.some.injEq,TypeDesc.slice.injEq] at e
    subst e
    refine⟨es,rfl,fun e he=>?_⟩
    obtain⟨i,hi⟩:=List.getElem?_of_mem he
    exact(ih i e hi).v rfl
   ·have e:=hu.symm.trans Tryz.underlying28
    simp only[Option.some.injEq,TypeDesc.slice.injEq] at e
    subst e
    refine⟨es,rfl,fun e he=>?_⟩
    obtain⟨i,hi⟩:=List.getElem?_of_mem he
    exact(ih i e hi).f rfl
 | @arr T E q es cs hu _ _ _ _ ih=>
   refine⟨?_,?_,?_,?_,?_,?_⟩<;>rintro rfl
   ·have:=hu.symm.trans Tryz.underlying3;cases this
   ·have:=hu.symm.trans Tryz.underlying9;cases this
   ·have:=hu.symm.trans Tryz.underlying30;cases this
   ·have:=hu.symm.trans Tryz.underlying156;cases this
   ·have:=hu.symm.trans Tryz.underlying27;cases this
   ·have:=hu.symm.trans Tryz.underlying28;cases this
theorem OC {d:Dt} (h:HasTy Tryz.prog 30 d):WV d:=by
 obtain⟨_,_,_,h⟩:=h
 exact(aC6 h).v rfl
theorem aR (d:Dt):1≤d.bulk:=by cases d<;>simp[Dt.bulk]
theorem bM {e:Dt}:∀{l:List Dt},e∈l→e.bulk≤Dt.bulkL l
 |a::r,h=>by
  simp only[Dt.bulkL]
  rcases List.mem_cons.1 h with rfl|h
  ·omega
  ·have:=bM h;omega
theorem bf:∀l:List Dt,l.length≤Dt.bulkL l
 | []=>by simp[Dt.bulkL]
 |a::r=>by have:=bf r;have:=aR a;simp only[Dt.bulkL,List.length_cons];omega
theorem eB {k i:Int} {t:ByteArray} {l ds:List Dt}:Dt.bulk (.agg [.int k,.int i,.str t,.lst l,.lst ds])=Dt.bulkL l+Dt.bulkL ds+(t.size+6):=by
 simp only[Dt.bulk,Dt.bulkL];omega
theorem rT {s:ByteArray} {v:Dt}:Dt.bulk (.agg [.str s,v])=v.bulk+s.size+2:=by simp only[Dt.bulk,Dt.bulkL];omega
theorem fI {l:List Dt} {i:Nat} (h:i<l.length):inL l (i:Int)=some ():=by
 unfold inL
 rw[if_pos (by omega)]
theorem akp {d:Dt} (hw:WV d):(Dt.L d 3).length≤d.bulk∧(Dt.L d 4).length≤d.bulk∧(∀e∈Dt.L d 3,WV e∧e.bulk<d.bulk)∧(∀f∈Dt.L d 4,WV (Dt.fld f 1)∧(Dt.fld f 1).bulk<d.bulk):=by
 cases hw with
 | @mk  k i t l ds hl hd=>
   rw[eB]
   have h3:=bf l
   have h4:=bf ds
   refine⟨by show l.length≤_;omega,by show ds.length≤_;omega,fun e he=>⟨hl e he,?_⟩,fun f hf=>?_⟩
   ·have:=bM (show e∈l from he);omega
   ·have hb:=bM (show f∈ds from hf)
    cases hd f hf with
    |   @mk s v hv=>
        rw[rT] at hb
        exact⟨hv,by show v.bulk<_;omega⟩
end Go.Proofs.YtjnkagkoolbodaaGreatDoor
namespace Go.Proofs.YtjnkagkoolbodaaGreatDoor
open Go.Am
def kW (d:Dt):List Dt:=bif Dt.I d 0==6 then Dt.L d 3 else bif Dt.I d 0==5 then(Dt.L d 4).map (·.fld 1) else[]
theorem OD (m:Nat) (d:Dt) (hl:(Dt.L d 4).length≤137438953472):∀(M i:Nat),i≤(Dt.L d 4).length→(Dt.L d 4).length-i<M→BR m M (i:Int) d (((Dt.L d 4).map (·.fld 1)).take i)=some ((Dt.L d 4).map (·.fld 1))
 |0,i,_,h=>by omega
 |M+    1,i,hi,h=>by
  simp only[BR,dlt]
  by_cases hlt:i<(Dt.L d 4).length
  ·have happ:app (((Dt.L d 4).map (·.fld 1)).take i) [(Dt.L d 4)[i].fld 1]=some (((Dt.L d 4).map (·.fld 1)).take (i+1)):=by
        rw[jB (by simp;omega),List.take_succ_eq_append_getElem (by simpa using hlt)]
        simp
   simp only[hlt,decide_true,cond_true,ajh,ajg,aA hlt,Option.bind_some,happ,aF (show i<9223372036854775807 by omega)]
   exact OD m d hl M (i+1) (by omega) (by omega)
  ·have e:i=(Dt.L d 4).length:=by omega
   simp only[hlt,decide_false,cond_false,NZ]
   rw[List.take_of_length_le (by simp;omega)]
theorem OE (m:Nat) (d:Dt) (hl:(Dt.L d 3).length≤137438953472):∀(M i:Nat),i≤(Dt.L d 3).length→(Dt.L d 3).length-i<M→BS m M (i:Int) d ((Dt.L d 3).take i)=GQ m d (Dt.L d 3)
 |0,i,_,h=>by omega
 |M+    1,i,hi,h=>by
  simp only[BS,dlt]
  by_cases hlt:i<(Dt.L d 3).length
  ·have happ:app ((Dt.L d 3).take i) [(Dt.L d 3)[i]]=some ((Dt.L d 3).take (i+1)):=by
        rw[jB (by simp;omega),List.take_succ_eq_append_getElem hlt]
   simp only[hlt,decide_true,cond_true,ajf,aje,aA hlt,Option.bind_some,happ,aF (show i<9223372036854775807 by omega)]
   exact OE m d hl M (i+1) (by omega) (by omega)
  ·simp only[hlt,decide_false,cond_false]
   rw[List.take_of_length_le (by omega)]
theorem parts_eq (d:Dt) (hw:WV d) (m:Nat) (hm:d.bulk≤m) (hb:d.bulk≤137438953472):zI (m+1) d=some (kW d):=by
 have hl3:(Dt.L d 3).length≤d.bulk:=by
  cases hw with
  | @mk k i t l ds hl hd=>rw[eB];have:=bf l;show l.length≤_;omega
 have hl4:(Dt.L d 4).length≤d.bulk:=by
  cases hw with
  | @mk k i t l ds hl hd=>rw[eB];have:=bf ds;show ds.length≤_;omega
 have h6:=OD m d (by omega) (m+1) 0 (Nat.zero_le _) (by omega)
 have h1:=OE m d (by omega) (m+1) 0 (Nat.zero_le _) (by omega)
 rw[List.take_zero] at h6 h1
 have h6':BR m (Nat.succ m) 0 d []=_:=h6
 have h1':BS m (Nat.succ m) 0 d []=_:=h1
 unfold kW
 simp only[zI,ajj,h1']
 cases h:(Dt.I d 0==6)
 ·simp only[cond_false,GQ,aji,h6',NZ]
  cases (Dt.I d 0==5)<;>rfl
 ·have e:Dt.I d 0=6:=by simpa using h
  simp only[cond_true,GQ,e]
  rfl
theorem lX {d:Dt} (hw:WV d):∀e∈kW d,WV e∧e.bulk<d.bulk:=by
 cases hw with
 | @mk  k i t l ds hl hd=>
   intro e he
   rw[eB]
   unfold kW at he
   have e1:Dt.I (.agg [.int k,.int i,.str t,.lst l,.lst ds]) 0=k:=rfl
   have e2:Dt.L (.agg [.int k,.int i,.str t,.lst l,.lst ds]) 3=l:=rfl
   have e3:Dt.L (.agg [.int k,.int i,.str t,.lst l,.lst ds]) 4=ds:=rfl
   rw[e1,e2,e3] at he
   cases h6:(k==6)
   ·rw[   h6] at he
    simp only[cond_false] at he
    cases h5:(k==5)
    ·rw[h5] at he;simp at he
    ·   rw[h5] at he
        simp only[cond_true,List.mem_map] at he
        obtain⟨f,hf,rfl⟩:=he
        have hb:=bM hf
        cases hd f hf with
        | @mk s v hv=>
          rw[rT] at hb
          exact⟨hv,by show v.bulk<_;omega⟩
   ·rw[h6] at he
    simp only[cond_true] at he
    have hb:=bM he
    exact⟨hl e he,by omega⟩
theorem OG {d:Dt} (hw:WV d):(kW d).length≤d.bulk:=by
 cases hw with
 | @mk k i t l ds hl hd=>
   rw[eB]
   have h3:=bf l
   have h4:=bf ds
   unfold kW
   cases (Dt.I (.agg [.int k,.int i,.str t,.lst l,.lst ds]) 0==6)<;>cases (Dt.I (.agg [.int k,.int i,.str t,.lst l,.lst ds]) 0==5)<;>simp[Dt.L,Dt.fld,Dt.toLst]<;>omega
end Go.Proofs.YtjnkagkoolbodaaGreatDoor
namespace Go.Proofs.YtjnkagkoolbodaaGreatDoor
open Go.Am
def Zo:Nat→Dt→Nat
 |0,_=>1
 |n+1,d=>1+((kW d).map (Zo n)).sum
theorem Hz:∀(n n':Nat) (d:Dt),WV d→d.bulk≤n→d.bulk≤n'→Zo n d=Zo n' d
 |0,_,d,_,h,_=>by have:=aR d;omega
 |_+1,0,d,_,_,h=>by have:=aR d;omega
 |n+1,n'+1,d,hw,h,h'=>by
  simp only[Zo]
  congr 2
  refine List.map_congr_left fun e he=>?_
  have:=lX hw e he
  exact Hz n n' e this.1 (by omega) (by omega)
def nds (d:Dt):Nat:=Zo d.bulk d
theorem aAH {d:Dt} (hw:WV d):nds d=1+((kW d).map nds).sum:=by
 obtain⟨k,hk⟩:∃k,d.bulk=k+1:=⟨d.bulk-1,by have:=aR d;omega⟩
 unfold nds
 rw[hk]
 simp only[Zo]
 congr 2
 refine List.map_congr_left fun e he=>?_
 have:=lX hw e he
 exact Hz _ _ e this.1 (by omega) (Nat.le_refl _)
theorem sum_cons (f:Dt→Nat) {L:List Dt} {i:Nat} (h:i<L.length):((L.drop i).map f).sum=f L[i]+((L.drop (i+1)).map f).sum:=by
 rw[List.drop_eq_getElem_cons h,List.map_cons,List.sum_cons]
theorem OH (m:Nat) (self:Dt→Int→Option Int) (L:List Dt) (hl:L.length<9223372036854775807) (most:Nat) (hb:most<1000000) (hs:∀e∈L,∀k:Nat,1≤k→k≤most→self e (k:Int)=some ((min (nds e) k:Nat):Int)):∀(M i acc:Nat),i≤L.length→L.length-i<M→acc≤most→
  GU m self M (most:Int) (acc:Int) L (i:Int)=some ((min (acc+((L.drop i).map nds).sum) most:Nat):Int)
 |0,i,_,_,h,_=>by omega
 |M+    1,i,acc,hi,h,ha=>by
  simp only[GU,dlt]
  by_cases hlt:i<L.length
  ·simp only[hlt,decide_true,cond_true]
   by_cases hm:acc<most
   ·    have hw:IntKind.wrap IntKind.i64 ((most:Int)-(acc:Int))=((most-acc:Nat):Int):=by rw[wrap64 (by omega) (by omega)];omega
        have hr:=hs _ (List.getElem_mem hlt) (most-acc) (by omega) (by omega)
        have hw2:IntKind.wrap IntKind.i64 ((acc:Int)+((min (nds L[i]) (most-acc):Nat):Int))=((acc+min (nds L[i]) (most-acc):Nat):Int):=by rw[wrap64 (by omega) (by omega)];omega
        simp only[hm,decide_true,cond_true,ajk,ajl,GR,VK,aA hlt,Option.bind_some,hw,hr,hw2,aF (show i<9223372036854775807 by omega),OH m self L hl most hb hs M (i+1) (acc+min (nds L[i]) (most-acc)) (by omega) (by omega) (by omega),sum_cons nds hlt]
        congr 2
        omega
   ·    have:acc=most:=by omega
        subst this
        simp only[hm,decide_false,cond_false]
        first|(simp only[GR];congr 2;omega)|(congr 2;omega)
  ·rw[List.drop_eq_nil_of_le (by omega)]
   simp only[hlt,decide_false,cond_false,List.map_nil,List.sum_nil]
   first|(simp only[GR];congr 2;omega)|(congr 2;omega)
theorem count_eq:∀(N:Nat) (d:Dt),d.bulk≤N→N≤137438953472→WV d→∀m,N≤m→∀most:Nat,1≤most→most<1000000→zY (m+2) d (most:Int)=some ((min (nds d) most:Nat):Int)
 |0,d,h,_,_,_,_,_,_,_=>by have:=aR d;omega
 |N+1,d,h,hN,hw,m,hm,most,h1,h2=>by
  obtain⟨m,rfl⟩:∃q,m=q+1:=⟨m-1,by omega⟩
  simp only[zY,parts_eq d hw (m+1) (by omega) (by omega),Option.bind_some,VK]
  have hl:=OG hw
  have:=OH (m+2) (zY (m+2)) (kW d) (by omega) most h2 (fun e he k hk1 hk2=>by
   obtain⟨hwe,hbe⟩:=lX hw e he
   exact count_eq N e (by omega) (by omega) hwe m (by omega) k hk1 (by omega)) (m+3) 0 1 (Nat.zero_le _) (by omega) h1
  rw[List.drop_zero,←aAH hw] at this
  exact this
theorem Zp {d:Dt} (hw:WV d) (hb:d.bulk≤137438953472) (m:Nat) (hm:d.bulk≤m):vK (m+3) d=some ((min (nds d) 1025:Nat):Int):=by
 simp only[vK]
 rw[show ((1025:Int))=((1025:Nat):Int) from rfl,count_eq d.bulk d (Nat.le_refl _) hb hw m hm 1025 (by omega) (by omega)]
 rfl
end Go.Proofs.YtjnkagkoolbodaaGreatDoor
