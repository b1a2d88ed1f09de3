/- Values: their integers are 64-bit. -/
import Derived.Test.YtmejbpmceflcjaaGreatDoorND
import Derived.Test.YtmejbpmceflcjaaGreatDoorNE
set_option linter.unusedVariables false
set_option linter.unusedSimpArgs false
namespace Go.Proofs.YtmejbpmceflcjaaGreatDoor
open Go.Am
def rgI (i:Int):Prop:= -9223372036854775808≤i∧i≤9223372036854775807
mutual
inductive WR:Dt→Prop where
 |mk {k i:Int} {t:ByteArray} {l ds:List Dt} (hi:rgI i) (hl:∀e∈l,WR e) (hd:∀f∈ds,WRF f):WR (.agg [.int k,.int i,.str t,.lst l,.lst ds])
inductive WRF:Dt→Prop where
 |mk {s:ByteArray} {v:Dt} (h:WR v):WRF (.agg [.str s,v])
end
structure TR (T:TypeId) (d:Dt):Prop where
 i:T=3→∃n,d= .int n∧rgI n
 s:T=9→∃s,d= .str s
 v:T=25→WR d
 f:T=38→WRF d
 l:T=22→∃l,d= .lst l∧∀e∈l,WR e
 d:T=23→∃l,d= .lst l∧∀e∈l,WRF e
theorem tr_of {ok:Nat→Prop} {w:World} {T:TypeId} {d:Dt} {cs:List Value} (h:RD Tryz.prog ok w T d cs):TR T d:=by
 induction h with
 | @int T k n hu h1 h2=>
   refine⟨?_,?_,?_,?_,?_,?_⟩<;>rintro rfl
   ·have e:=hu.symm.trans Tryz.underlying3
    simp only[Option.some.injEq,TypeDesc.int.injEq] at e
    subst e
    exact⟨n,rfl,h1,h2⟩
   ·have:=hu.symm.trans Tryz.underlying9;cases this
   ·have:=hu.symm.trans Tryz.underlying25;cases this
   ·have:=hu.symm.trans Tryz.underlying38;cases this
   ·have:=hu.symm.trans Tryz.underlying22;cases this
   ·have:=hu.symm.trans Tryz.underlying23;cases this
 | @bool T b hu=>
   refine⟨?_,?_,?_,?_,?_,?_⟩<;>rintro rfl
   ·have:=hu.symm.trans Tryz.underlying3;cases this
   ·have:=hu.symm.trans Tryz.underlying9;cases this
   ·have:=hu.symm.trans Tryz.underlying25;cases this
   ·have:=hu.symm.trans Tryz.underlying38;cases this
   ·have:=hu.symm.trans Tryz.underlying22;cases this
   ·have:=hu.symm.trans Tryz.underlying23;cases this
 | @str T s hu _=>
   refine⟨?_,fun _=>⟨s,rfl⟩,?_,?_,?_,?_⟩<;>rintro rfl
   ·have:=hu.symm.trans Tryz.underlying3;cases this
   ·have:=hu.symm.trans Tryz.underlying25;cases this
   ·have:=hu.symm.trans Tryz.underlying38;cases this
   ·have:=hu.symm.trans Tryz.underlying22;cases this
   ·have:=hu.symm.trans Tryz.underlying23;cases this
 | @agg T fs ds cs hu hl _ _ _ ih=>
   refine⟨?_,?_,?_,?_,?_,?_⟩<;>rintro rfl
   ·have:=hu.symm.trans Tryz.underlying3;cases this
   ·have:=hu.symm.trans Tryz.underlying9;cases this
   ·have e:=hu.symm.trans Tryz.underlying25
    simp only[Option.some.injEq,TypeDesc.struct.injEq] at e
    subst e
    obtain⟨a,b,c,d,e,rfl⟩:=list5' hl
    obtain⟨n0,rfl,_⟩:=(ih 0 _ a rfl rfl).i rfl
    obtain⟨n1,rfl,hr⟩:=(ih 1 _ b rfl rfl).i rfl
    obtain⟨n2,rfl⟩:=(ih 2 _ c rfl rfl).s rfl
    obtain⟨l,rfl,hl'⟩:=(ih 3 _ d rfl rfl).l rfl
    obtain⟨ds,rfl,hd'⟩:=(ih 4 _ e rfl rfl).d rfl
    exact .mk hr hl' hd'
   ·have e:=hu.symm.trans Tryz.underlying38
    simp only[Option.some.injEq,TypeDesc.struct.injEq] at e
    subst e
    obtain⟨a,b,rfl⟩:=list2 hl
    obtain⟨s,rfl⟩:=(ih 0 _ a rfl rfl).s rfl
    exact .mk ((ih 1 _ b rfl rfl).v rfl)
   ·have:=hu.symm.trans Tryz.underlying22;cases this
   ·have:=hu.symm.trans Tryz.underlying23;cases this
 | @lst T E es a len cap ad g hu _ _ _ _ _ _ ih=>
   refine⟨?_,?_,?_,?_,?_,?_⟩<;>rintro rfl
   ·have:=hu.symm.trans Tryz.underlying3;cases this
   ·have:=hu.symm.trans Tryz.underlying9;cases this
   ·have:=hu.symm.trans Tryz.underlying25;cases this
   ·have:=hu.symm.trans Tryz.underlying38;cases this
   ·have e:=hu.symm.trans Tryz.underlying22
    simp only[Option.some.injEq,TypeDesc.slice.injEq] at e
    subst e
    refine⟨es,rfl,fun e he=>?_⟩
    obtain⟨i,hi⟩:=List.getElem?_of_mem he
    exact(ih i e hi).v rfl
   ·have e:=hu.symm.trans Tryz.underlying23
    simp only[Option.some.injEq,TypeDesc.slice.injEq] at e
    subst e
    refine⟨es,rfl,fun e he=>?_⟩
    obtain⟨i,hi⟩:=List.getElem?_of_mem he
    exact(ih i e hi).f rfl
theorem wr_of {d:Dt} (h:HasTy Tryz.prog 25 d):WR d:=by
 obtain⟨_,_,_,h⟩:=h
 exact(tr_of h).v rfl
theorem wr_parts {d:Dt} (hw:WR d):rgI (Dt.I d 1)∧(∀e∈Dt.L d 3,WR e)∧(∀f∈Dt.L d 4,WR (Dt.fld f 1)):=by
 cases hw with
 | @mk k i t l ds hi hl hd=>
   refine⟨hi,hl,fun f hf=>?_⟩
   cases hd f hf with
   |mk h=>exact h
theorem bulkL_sum:∀L:List Dt,(L.map fun e=>40*e.bulk).sum=40*Dt.bulkL L
 | []=>rfl
 |e::r=>by simp only[List.map_cons,List.sum_cons,bulkL_sum r,Dt.bulkL];omega
theorem wv_size {d:Dt} (hw:WV d):d.bulk=Dt.bulkL (Dt.L d 3)+Dt.bulkL (Dt.L d 4)+((Dt.S d 2).size+6):=by
 cases hw with
 |mk hl hd=>rw[bulk_val];rfl
theorem wf_size {d:Dt} (hw:WV d):∀f∈Dt.L d 4,f.bulk=(Dt.fld f 1).bulk+(Dt.S f 0).size+2:=by
 cases hw with
 |mk hl hd=>
  intro f hf
  cases hd f hf with
  |mk h=>rw[bulk_fld];rfl
theorem qtL_len (l:List UInt8):(qtL l).length≤6*l.length+2:=by
 have:=qL_len l
 simp only[qtL,List.length_append,List.length_cons,List.length_nil];omega
theorem txt_len:∀(N:Nat) (d:Dt),WV d→WR d→d.bulk≤N→(txt N d).length+1≤40*d.bulk
 |0,d,_,_,h=>by have:=bulk_pos d;omega
 |N+1,d,hw,hr,h=>by
  obtain⟨p1,p2,p3,p4⟩:=wv_parts hw
  obtain⟨r1,r3,r4⟩:=wr_parts hr
  have hz:=wv_size hw
  have hi:=itoa_len _ r1.1 r1.2
  have hq:=qtL_len (Dt.S d 2).data.toList
  have hx:=hxL_len (Dt.S d 2).data.toList
  rw[lenB] at hq hx
  have h3:(lsF (txt N) 0 (Dt.L d 3)).length≤40*Dt.bulkL (Dt.L d 3):=by
   rw[←bulkL_sum]
   exact lsF_len _ _ _ _ fun e he=>txt_len N e (p3 e he).1 (r3 e he) (by have:=(p3 e he).2;omega)
  have h4:(lsF (fun f=>qtL (Dt.S f 0).data.toList++([58]++txt N (Dt.fld f 1))) 0 (Dt.L d 4)).length≤40*Dt.bulkL (Dt.L d 4):=by
   rw[←bulkL_sum]
   refine lsF_len _ _ _ _ fun f hf=>?_
   have e1:=txt_len N _ (p4 f hf).1 (r4 f hf) (by have:=(p4 f hf).2;omega)
   have e2:=wf_size hw f hf
   have e3:=qtL_len (Dt.S f 0).data.toList
   rw[lenB] at e3
   simp only[List.length_append,List.length_cons,List.length_nil]
   omega
  have q0:∀(b:Bool) (x y:List UInt8),x.length+1≤40*d.bulk→y.length+1≤40*d.bulk→(bif b then x else y).length+1≤40*d.bulk:=fun b x y h1 h2=>by cases b<;>assumption
  simp only[txt]
  refine q0 _ _ _ (by simp only[litMin,List.length_cons,List.length_nil];omega) ?_
  refine q0 _ _ _ (by simp only[litMax,List.length_cons,List.length_nil];omega) ?_
  refine q0 _ _ _ (by simp only[litNull,List.length_cons,List.length_nil];omega) ?_
  refine q0 _ _ _ (q0 _ _ _ (by simp only[litTrue,List.length_cons,List.length_nil];omega) (by simp only[litFalse,List.length_cons,List.length_nil];omega)) ?_
  refine q0 _ _ _ (by omega) ?_
  refine q0 _ _ _ (by simp only[litTime,List.length_append,List.length_cons,List.length_nil];omega) ?_
  refine q0 _ _ _ (by omega) ?_
  refine q0 _ _ _ (by simp only[litId,litEnd,List.length_append,List.length_cons,List.length_nil];omega) ?_
  refine q0 _ _ _ (by simp only[litBytes,litEnd,List.length_append,List.length_cons,List.length_nil];omega) ?_
  refine q0 _ _ _ (by simp only[List.length_append,List.length_cons,List.length_nil];omega) ?_
  simp only[List.length_append,List.length_cons,List.length_nil];omega
theorem fl_mem {p:ByteArray→Bool} {g:Dt→Bool}:∀{L:List Dt} {seen:List ByteArray},fl p g seen L=true→∀f∈L,g (Dt.fld f 1)=true
 | [],_,_,f,hf=>by cases hf
 |e::r,seen,h,f,hf=>by
  simp only[fl,Bool.and_eq_true] at h
  rcases List.mem_cons.1 hf with rfl|hf
  ·exact h.1.2
  ·exact fl_mem h.2 f hf
theorem snd_kind {p:ByteArray→Bool} {n:Nat} {d:Dt} (h:sndF p (n+1) d=true):(1≤Dt.I d 0∧Dt.I d 0≤11)∧((Dt.I d 0=6→∀e∈Dt.L d 3,sndF p n e=true)∧(Dt.I d 0=5→∀f∈Dt.L d 4,sndF p n (Dt.fld f 1)=true)):=by
 refine⟨?_,fun h6=>?_,fun h5=>?_⟩
 ·simp only[sndF] at h
  rcases kcase (Dt.I d 0) with e|e|e|e|e|e|e|e|e|e|e|hk
  case inr.inr.inr.inr.inr.inr.inr.inr.inr.inr.inr=>
   obtain⟨q1,q2,q3,q4,q5,q6,q7,q8,q9,q10,q11⟩:=kno hk
   rw[q4,q5,q6,q7,q8,q9,q10] at h
   have:(decide (1≤Dt.I d 0)&&decide (Dt.I d 0≤11))=false:=by rw[Bool.and_eq_false_iff];simp;omega
   rw[this] at h
   simp at h
  all_goals omega
 ·rw[sndF_6 p n d h6] at h
  exact List.all_eq_true.1 (Bool.and_eq_true_iff.1 h).2
 ·rw[sndF_5 p n d h5] at h
  exact fl_mem (Bool.and_eq_true_iff.1 h).2
theorem snd_shp {p:ByteArray→Bool} {n:Nat} {d:Dt} (h:sndF p (n+1) d=true):(Dt.I d 0≠6→Dt.L d 3=[])∧(Dt.I d 0≠5→Dt.L d 4=[]):=by
 have hs:shp d=true:=by
  simp only[sndF] at h
  exact(Bool.and_eq_true_iff.1 h).1
 unfold shp at hs
 have s6:=(Bool.and_eq_true_iff.1 (Bool.and_eq_true_iff.1 hs).1).2
 have s5:=(Bool.and_eq_true_iff.1 hs).2
 refine⟨fun hne=>?_,fun hne=>?_⟩
 ·rcases Bool.or_eq_true_iff.1 s6 with h|h
  ·exact absurd (by simpa using h) hne
  ·exact len0 h
 ·rcases Bool.or_eq_true_iff.1 s5 with h|h
  ·exact absurd (by simpa using h) hne
  ·exact len0 h
end Go.Proofs.YtmejbpmceflcjaaGreatDoor
