/- Unwind: the program's documents are the reference's. -/
import Derived.Test.YtameompfdamfpaaGreatDoorUA
import Derived.Test.YtameompfdamfpaaGreatDoorRB
import Derived.Test.YtameompfdamfpaaGreatDoorMC
set_option linter.unusedVariables false
set_option linter.unusedSimpArgs false
namespace Go.Proofs.YtameompfdamfpaaGreatDoor
open Go.Am
inductive Nz:Dt→Prop where
 |mk {v:Dt} (h0:Dt.I v 0≠0) (hF:Dt.I v 0=5→∀k,k<(Dt.L v 4).length→Nz (chF v k)) (hE:Dt.I v 0=6→∀n,n<(Dt.L v 3).length→Nz (chE v n)):Nz v
theorem fl_self {q:ByteArray→Bool} {g:Dt→Bool}:∀{L:List Dt} {seen:List ByteArray},fl q g seen L=true→∀f∈L,g (Dt.fld f 1)=true
 | [],_,_,_,hf=>by cases hf
 |f::r,seen,h,e,he=>by
  rw[fl,Bool.and_eq_true,Bool.and_eq_true,Bool.and_eq_true] at h
  obtain⟨⟨⟨_,_⟩,h1⟩,h2⟩:=h
  rcases List.mem_cons.1 he with rfl|he
  ·exact h1
  ·exact fl_self h2 e he
theorem snd_nz {q:ByteArray→Bool}:∀{n:Nat} {d:Dt},sndF q n d=true→Nz d
 |0,d,h=>by cases h
 |n+1,d,h=>by
  rw[sndF,Bool.and_eq_true] at h
  have h:=h.2
  refine .mk (fun h0=>?_) (fun h5 k hk=>?_) (fun h6 j hj=>?_)
  ·rw[h0] at h
   cases h
  ·rw[h5] at h
   have:=fl_self (show fl q (sndF q n) [] (Dt.L d 4)=true from h) _ (List.getElem_mem hk)
   unfold chF
   rw[getD_lt hk]
   exact snd_nz this
  ·rw[h6] at h
   have:=List.all_eq_true.1 (show (Dt.L d 3).all (sndF q n)=true from h) _ (List.getElem_mem hj)
   unfold chE
   rw[getD_lt hj]
   exact snd_nz this
theorem nz_get:∀(p:List Dt) (v:Dt),Nz v→Nz (getD p v)∨getD p v=zeroD
 | [],v,h=> .inl h
 |s::p,v,h=>by
  rw[getD]
  have hs:=stp_is s.toStr v
  generalize stp s.toStr v=S at hs
  cases h with
  |mk h0 hF hE=>
   cases hs with
   |fld h5 h hk=>exact nz_get p _ (hF h5 _ hk)
   |el h6 h hn=>exact nz_get p _ (hE h6 _ hn)
   |newf h5 h=>exact .inr rfl
   |newe h6 h hn=>exact .inr rfl
   |no6 h6 h=>exact .inr rfl
   |no h5 h6=>exact .inr rfl
def intU (n:Int):Dt:= .agg [.int 3,.int n,.str (ByteArray.mk (List.toArray [])),.lst [],.lst []]
def nulU:Dt:= .agg [.int 2,.int 0,.str (ByteArray.mk (List.toArray [])),.lst [],.lst []]
theorem intU_wv (n:Int):WV (intU n):= .mk (by simp) (by simp)
theorem intU_bulk (n:Int):(intU n).bulk≤10:=by unfold intU;rw[bulk_val];simp[Dt.bulkL];decide
theorem nulU_wv:WV nulU:= .mk (by simp) (by simp)
theorem nulU_bulk:nulU.bulk≤10:=by unfold nulU;rw[bulk_val];simp[Dt.bulkL];decide
def els (f:Nat→Dt):Nat→Nat→List Dt
 |_,0=>[]
 |i,n+1=>f i::els f (i+1) n
theorem els_len (f:Nat→Dt):∀n i,(els f i n).length=n
 |0,_=>rfl
 |n+1,i=>by rw[els,List.length_cons,els_len f n (i+1)]
theorem els_mem {f:Nat→Dt} {Q:Dt→Prop}:∀n i,(∀k,i≤k→k<i+n→Q (f k))→∀x∈els f i n,Q x
 |0,_,_,x,hx=>by cases hx
 |n+1,i,h,x,hx=>by
  rcases List.mem_cons.1 hx with rfl|hx
  ·exact h i (Nat.le_refl _) (by omega)
  ·exact els_mem n (i+1) (fun k h1 h2=>h k (by omega) (by omega)) x hx
noncomputable def uel (p:List Dt) (name:ByteArray) (d:Dt) (k:Nat):Dt:=nmd (putP p d (chE (getD p d) k)).1 name (intU k)
noncomputable def unS (p:List Dt) (name:ByteArray) (keep:Bool) (d:Dt):List Dt:=
 if Dt.I (getD p d) 0=6 then(if(Dt.L (getD p d) 3).length=0 then(if keep then[nmd (dropP p d) name nulU] else[]) else els (uel p name d) 0 (Dt.L (getD p d) 3).length)
 else if Dt.I (getD p d) 0=2∨Dt.I (getD p d) 0=0 then(if keep then[nmd d name nulU] else[]) else[nmd d name nulU]
def DocU (d:Dt):Prop:=WV d∧Dt.I d 0=5∧Nz d∧d.bulk≤1048576
section
variable {p:List Dt} {name:ByteArray} {keep:Bool} {d:Dt}
theorem nmd_bulk {v r:Dt} (hw:WV v) (hr:r.bulk≤10):(nmd v name r).bulk≤v.bulk+name.size+20:=by
 unfold nmd
 cases (ByteArray.toList name==[]) with
 |true=>simp only[cond_true];omega
 |false=>
  simp only[cond_false,setV]
  cases h:fi name (Dt.L v 4) with
  |some k=>
   have:=setF_bulk (c:=r) hw (fi_lt h)
   show (setF v k r).bulk≤_
   omega
  |none=>
   show (mkV v (Dt.L v 3) (Dt.L v 4++[.agg [.str name,r]])).bulk≤_
   rw[mkV_bulk,bulkL_app]
   have e1:Dt.bulkL [Dt.agg [.str name,r]]=(Dt.agg [.str name,r]).bulk:=by simp[Dt.bulkL]
   have:=(wv_L hw).2.2
   rw[e1,bulk_fld]
   omega
theorem list_facts (hd:DocU d) (hp:p≠[]) (h6:Dt.I (getD p d) 0=6):folP p d=true∧(Dt.L (getD p d) 3).length≤1048576∧∀k,k<(Dt.L (getD p d) 3).length→
  Dt.I (chE (getD p d) k) 0≠0∧WV (chE (getD p d) k)∧(chE (getD p d) k).bulk≤1048576∧WV (putP p d (chE (getD p d) k)).1∧(putP p d (chE (getD p d) k)).1.bulk≤2097152∧Dt.I (putP p d (chE (getD p d) k)).1 0=5:=by
 obtain⟨w1,w2,w3,w4⟩:=hd
 have hg:=getD_wv p w1
 have hl:=L_len (getD p d) 3
 refine⟨folP_of p d (by omega),by omega,fun k hk=>?_⟩
 have hc:=ch_E hg.1 hk
 have hn:Dt.I (chE (getD p d) k) 0≠0:=by
  rcases nz_get p d w3 with h|h
  ·cases h with
   |    mk h0 hF hE=>
        cases hE h6 k hk with
        |mk h0 _ _=>exact h0
  ·rw[h] at h6;cases h6
 have hw:=putP_wv p w1 hc.2.1
 exact⟨hn,hc.2.1,by omega,hw.1,by omega,by rw[putP_kind p d _ hp];exact w2⟩
theorem un_bulk (hd:DocU d) (hp:p≠[]):∀x∈unS p name keep d,x.bulk≤2200000+name.size:=by
 have w1:=hd.1
 have w4:=hd.2.2.2
 have hn:=nulU_bulk
 have h1:∀x∈[nmd d name nulU],x.bulk≤2200000+name.size:=fun x hx=>by
  rw[List.mem_singleton.1 hx]
  have:=nmd_bulk (name:=name) w1 hn
  omega
 have h2:∀x∈[nmd (dropP p d) name nulU],x.bulk≤2200000+name.size:=fun x hx=>by
  rw[List.mem_singleton.1 hx]
  have hq:=dropP_wv p w1
  have:=nmd_bulk (name:=name) hq.1 hn
  omega
 intro x hx
 unfold unS at hx
 split at hx
 ·rename_i h6
  split at hx
  ·split at hx
   ·exact h2 x hx
   ·cases hx
  ·refine els_mem (Q:=fun x=>x.bulk≤2200000+name.size) _ 0 (fun k _ hk=>?_) x hx
   obtain⟨_,_,hf⟩:=list_facts hd hp h6
   obtain⟨_,_,_,q1,q2,_⟩:=hf k (by omega)
   have:=nmd_bulk (name:=name) q1 (intU_bulk k)
   show (uel p name d k).bulk≤_
   unfold uel
   omega
 ·split at hx
  ·split at hx
   ·exact h1 x hx
   ·cases hx
  ·exact h1 x hx
theorem un_len (hd:DocU d) (hp:p≠[]):(unS p name keep d).length≤1048576:=by
 unfold unS
 split
 ·rename_i h6
  split
  ·split<;>simp
  ·rw[els_len];exact(list_facts hd hp h6).2.1
 ·split
  ·split<;>simp
  ·simp
theorem pPut (hv:vld p=true) (hd:DocU d) (hfo:folP p d=true) {x:Dt} (h0:Dt.I x 0≠0) (hb:x.bulk≤1048576):path_PutC d p x=some ((putP p d x).1,0):=by
 obtain⟨w1,w2,w3,w4⟩:=hd
 have h1:P1.path_Valid 100 p=some true:=by rw[show (100:Nat)=97+3 from rfl,valid_eq 97 (by omega) p,hv]
 have h2:(putP p d x).2=true:=(rput_eq p 1048576 d x hfo w1 w4 (by omega) (1048576+p.length+20000) (by omega) (by
  have:p.length≤16:=by simp only[vld,Bool.and_eq_true,decide_eq_true_eq] at hv;exact hv.1.2
  omega)).1
 rw[path_PutC,fol_eq p d (by omega),putD_eq p d x (by omega),if_pos ⟨by omega,by omega,hfo,h1,w2,h0,h2⟩]
theorem pDrop (hd:DocU d) (hfo:folP p d=true) (hp:p≠[]):path_DropC d p=some (dropP p d):=by
 obtain⟨w1,w2,w3,w4⟩:=hd
 rw[path_DropC,fol_eq p d (by omega),if_pos ⟨by omega,hfo⟩]
 cases p with
 |nil=>exact absurd rfl hp
 |cons s r=>rw[if_neg (by simp),dropD_eq _ d (by omega)]
theorem unw_l (m:Nat) (p:List Dt) (name:ByteArray) (d:Dt) (L:List Dt) (hL:L.length≤1048576) (P:Nat→Dt) (f:Nat→Dt)
  (h:∀k (hk:k<L.length),path_PutC d p L[k]=some (P k,0)∧reshape_integer m (k:Int)=some (intU k)∧reshape_named m (P k) name (intU k)=some (f k)):∀(M i:Nat) (out:List Dt),i≤L.length→L.length-i<M→out.length≤i→
  reshape_unwind_l3 m M p name L (L.length:Int) (i:Int) d out=some (out++els f i (L.length-i))
 |0,i,_,_,h,_=>by omega
 |M+1,i,out,hi,hM,ho=>by
  rw[reshape_unwind_l3,dlt]
  by_cases hlt:i<L.length
  ·obtain⟨h1,h2,h3⟩:=h i hlt
   rw[decide_eq_true hlt,cond_true,reshape_unwind_j4,idx_lt hlt,Option.bind_some,h1,Option.bind_some]
   simp only[beq_self_eq_true,cond_true]
   rw[h2,Option.bind_some,h3,Option.bind_some,app_one (by omega),Option.bind_some,reshape_unwind_j5,wrapS (by omega),unw_l m p name d L hL P f h M (i+1) (out++[f i]) (by omega) (by omega) (by simp;omega),List.append_assoc,show L.length-i=(L.length-(i+1))+1 by omega,els]
   rfl
  ·rw[decide_eq_false hlt,cond_false,show L.length-i=0 by omega,els,List.append_nil]
   rfl
theorem unwind_eq (hv:vld p=true) (hp:p≠[]) (hd:DocU d) (hn:name.size≤1048576) (m:Nat) (hm:5000000≤m) (hm2:m<9223372036854775000):reshape_unwind (m+5) p name keep d=some (unS p name keep d):=by
 have w1:=hd.1
 have w2:=hd.2.1
 have w4:=hd.2.2.2
 have hpl:p.length≤16:=by simp only[vld,Bool.and_eq_true,decide_eq_true_eq] at hv;exact hv.1.2
 have hg:path_Get (m+4) d p=some (getD p d):=pget_eq 1048576 p d w1 w4 (by omega) (m+3) (by omega) (by omega)
 have hnu:=nulU_bulk
 have hc:reshape_copyValue (m+4) d=some d:=rcopy_eq _ d (Nat.le_refl _) (by omega) w1 (m+3) (by omega)
 have hn1:reshape_named (m+4) d name nulU=some (nmd d name nulU):=named_eq (m+1) name d nulU w1 nulU_wv w2 (by omega) (by omega) (by omega) (by omega) (by omega)
 have hdw:=dropP_wv p w1
 have hn2:reshape_named (m+4) (dropP p d) name nulU=some (nmd (dropP p d) name nulU):=named_eq (m+1) name (dropP p d) nulU hdw.1 nulU_wv (by rw[dropP_kind];exact w2) (by omega) (by omega) (by omega) (by omega) (by omega)
 have hn1':reshape_named (m+4) d name kz3c25e=some (nmd d name nulU):=hn1
 have hn2':reshape_named (m+4) (dropP p d) name kz3c25e=some (nmd (dropP p d) name nulU):=hn2
 have j9:reshape_unwind_j9 (m+4) name (dropP p d)=some [nmd (dropP p d) name nulU]:=by rw[reshape_unwind_j9,hn2',Option.bind_some]
 have j9':reshape_unwind_j9 (m+4) name d=some [nmd d name nulU]:=by rw[reshape_unwind_j9,hn1',Option.bind_some]
 have j10:reshape_unwind_j10 (m+4) name d=some [nmd d name nulU]:=by rw[reshape_unwind_j10,hc,Option.bind_some,hn1',Option.bind_some]
 rw[reshape_unwind,hg,Option.bind_some]
 unfold unS
 by_cases h6:Dt.I (getD p d) 0=6
 ·rw[   if_pos h6,show (Dt.I (getD p d) 0==6)=true by rw[h6];rfl,cond_true,reshape_unwind_j0,show (Dt.I (getD p d) 0==6)=true by rw[h6];rfl,cond_true,reshape_unwind_j1]
  obtain⟨hfo,hl,hf⟩:=list_facts hd hp h6
  by_cases h0:(Dt.L (getD p d) 3).length=0
  ·rw[if_pos h0,h0,show (((0:Nat):Int)==0)=true from rfl,Bool.not_true,cond_false,cond_true,reshape_unwind_j7,cond_true]
   cases keep with
   |false=>rfl
   |true=>rw[Bool.not_true,cond_false,reshape_unwind_j8,hc,Option.bind_some,cond_true,pDrop hd hfo hp,Option.bind_some,j9,if_pos rfl]
  ·rw[if_neg h0,show ((((Dt.L (getD p d) 3).length:Nat):Int)==0)=false by rw[beq_eq_false_iff_ne];omega,Bool.not_false,cond_true,reshape_unwind_j2]
   have key:=unw_l (m+4) p name d (Dt.L (getD p d) 3) hl (fun k=>(putP p d (chE (getD p d) k)).1) (uel p name d) (fun k hk=>by
        obtain⟨q0,q1,q2,q3,q4,q5⟩:=hf k hk
        have e:(Dt.L (getD p d) 3)[k]=chE (getD p d) k:=(ch_E (getD_wv p w1).1 hk).1.symm
        have hi:=intU_bulk k
        rw[e]
        exact⟨pPut hv hd hfo q0 q2,rfl,named_eq (m+1) name _ (intU k) q3 (intU_wv k) q5 (by omega) (by omega) (by omega) (by omega) (by omega)⟩) (m+5) 0 [] (Nat.zero_le _) (by omega) (Nat.le_refl _)
   rw[Nat.sub_zero,List.nil_append] at key
   exact key
 ·have e6:(Dt.I (getD p d) 0==6)=false:=by rw[beq_eq_false_iff_ne];exact h6
  rw[if_neg h6,e6,cond_false,reshape_unwind_j0,e6,cond_false,reshape_unwind_j1,cond_false,cond_false]
  have j7:reshape_unwind_j7 (m+4) p name keep false true d=(if keep then some [nmd d name nulU] else some []):=by
   rw[reshape_unwind_j7,cond_true]
   cases keep with
   |false=>rfl
   |true=>rw[Bool.not_true,cond_false,reshape_unwind_j8,hc,Option.bind_some,cond_false,j9',if_pos rfl]
  by_cases h2:Dt.I (getD p d) 0=2
  ·rw[if_pos (.inl h2),show (Dt.I (getD p d) 0==2)=true by rw[h2];rfl,cond_true,j7]
   split<;>rfl
  ·rw[show (Dt.I (getD p d) 0==2)=false by rw[beq_eq_false_iff_ne];exact h2,cond_false]
   by_cases h0:Dt.I (getD p d) 0=0
   ·    rw[if_pos (.inr h0),show (Dt.I (getD p d) 0==0)=true by rw[h0];rfl,j7]
        split<;>rfl
   ·rw[if_neg (by rintro(h|h)<;>omega),show (Dt.I (getD p d) 0==0)=false by rw[beq_eq_false_iff_ne];exact h0,reshape_unwind_j7,cond_false,j10]
theorem Unw_l (m:Nat) (p:List Dt) (name:ByteArray) (keep:Bool) (docs:List Dt) (hl:docs.length≤30) (g:Dt→List Dt) (h:∀d∈docs,reshape_unwind m p name keep d=some (g d)∧(g d).length≤1048576):∀(M i:Nat) (out:List Dt),i≤docs.length→docs.length-i<M→out.length≤1048576*i→
  reshape_Unwind_l1 m M p name keep docs (docs.length:Int) (i:Int) out=some (out++(docs.drop i).flatMap g)
 |0,i,_,_,h,_=>by omega
 |M+1,i,out,hi,hM,ho=>by
  rw[reshape_Unwind_l1,dlt]
  by_cases hlt:i<docs.length
  ·obtain⟨h1,h2⟩:=h _ (List.getElem_mem hlt)
   rw[decide_eq_true hlt,cond_true,reshape_Unwind_j2,idx_lt hlt,Option.bind_some,h1,Option.bind_some,app_le (by omega),Option.bind_some,reshape_Unwind_j3,wrapS (by omega),Unw_l m p name keep docs hl g h M (i+1) _ (by omega) (by omega) (by rw[List.length_append];omega),List.drop_eq_getElem_cons hlt,List.flatMap_cons,List.append_assoc]
  ·have e:i=docs.length:=by omega
   subst e
   rw[decide_eq_false hlt,cond_false,List.drop_length,List.flatMap_nil,List.append_nil]
   rfl
theorem rPut (hv:vld p=true) (hd:DocU d) (hfo:folP p d=true) {x:Dt} (h0:Dt.I x 0≠0) (m:Nat) (hm:5000000≤m) (hm2:m<9223372036854775000):ref04_Put (m+2) d p x=some ((putP p d x).1,0):=by
 obtain⟨w1,w2,w3,w4⟩:=hd
 have hpl:p.length≤16:=by simp only[vld,Bool.and_eq_true,decide_eq_true_eq] at hv;exact hv.1.2
 have e1:=(rput_eq p 1048576 d x hfo w1 w4 (by omega) m (by omega) (by omega)).2
 have h0':(Dt.I x 0==0)=false:=by rw[beq_eq_false_iff_ne];exact h0
 rw[ref04_Put,refvalid_eq m (by omega),Option.bind_some,hv,Bool.not_true,cond_false,ref04_Put_j0,(b5 w2).2,cond_false,h0',ref04_Put_j1,cond_false,ref04_Put_j2,e1,Option.bind_some,Bool.not_true,cond_false,ref04_Put_j3]
theorem rUnw_l5 (m:Nat) (rec1:List Dt→ByteArray→Bool→List Dt→Int→List Dt→Option (List Dt)) (p:List Dt) (name:ByteArray) (keep:Bool) (docs:List Dt) (j:Nat) (hj:j<docs.length) (v:Dt) (hL:(Dt.L v 3).length≤1048576) (f:Nat→Dt) (P:Nat→Dt×Int)
  (h:∀k (hk:k<(Dt.L v 3).length),ref04_Put m docs[j] p (Dt.L v 3)[k]=some (P k)∧ref36_integer m (k:Int)=some (intU k)∧ref36_with m (P k).1 name (intU k)=some (f k)):∀(M i:Nat) (out:List Dt),i≤(Dt.L v 3).length→(Dt.L v 3).length-i<M→out.length≤1048576*j+i→j≤30→
  ref36_Unwind_l5 m rec1 M p name keep docs (j:Int) (i:Int) out v=ref36_Unwind_j8 m rec1 p name keep docs (j:Int) (out++els f i ((Dt.L v 3).length-i))
 |0,i,_,_,h,_,_=>by omega
 |M+1,i,out,hi,hM,ho,hj30=>by
  rw[ref36_Unwind_l5,dlt]
  by_cases hlt:i<(Dt.L v 3).length
  ·obtain⟨h1,h2,h3⟩:=h i hlt
   rw[decide_eq_true hlt,cond_true,ref36_Unwind_j6,idx_lt hj,Option.bind_some,idx_lt hlt,Option.bind_some,h1,Option.bind_some,h2,Option.bind_some,h3,Option.bind_some,app_one (by omega),Option.bind_some,ref36_Unwind_j7,wrapS (by omega),rUnw_l5 m rec1 p name keep docs j hj v hL f P h M (i+1) (out++[f i]) (by omega) (by omega) (by simp;omega) hj30,List.append_assoc,show (Dt.L v 3).length-i=((Dt.L v 3).length-(i+1))+1 by omega,els]
   rfl
  ·rw[decide_eq_false hlt,cond_false,show (Dt.L v 3).length-i=0 by omega,els,List.append_nil]
theorem rUnw_step (hv:vld p=true) (hp:p≠[]) (hn:name.size≤1048576) (m:Nat) (hm:5000000≤m) (hm2:m<9223372036854774000) (rec1:List Dt→ByteArray→Bool→List Dt→Int→List Dt→Option (List Dt)) (docs:List Dt) (i:Nat) (hi:i<docs.length) (hl:docs.length≤30) (hd:DocU docs[i]) (out:List Dt) (ho:out.length≤1048576*i):
  ref36_Unwind_j2 (m+4) rec1 p name keep docs (i:Int) out=rec1 p name keep docs ((i+1:Nat):Int) (out++unS p name keep docs[i]):=by
 have w1:=hd.1
 have w2:=hd.2.1
 have w4:=hd.2.2.2
 generalize hdd:docs[i]=d at*
 have hpl:p.length≤16:=by simp only[vld,Bool.and_eq_true,decide_eq_true_eq] at hv;exact hv.1.2
 have hg:ref04_Get (m+4) d p=some (getD p d):=rget_eq p 1048576 d w1 w4 (m+3) (by omega) (by omega)
 have hn1:ref36_with (m+4) d name nulU=some (nmd d name nulU):=with_eq (m+1) name d nulU w2 (by omega) (by omega) (by omega)
 have hdw:=dropP_wv p w1
 have hn2:ref36_with (m+4) (dropP p d) name nulU=some (nmd (dropP p d) name nulU):=with_eq (m+1) name (dropP p d) nulU (by rw[dropP_kind];exact w2) (by omega) (by omega) (by omega)
 have hix:idx docs (i:Int)=some d:=by rw[idx_lt hi,hdd]
 have hnl:ref36_null (m+4)=some nulU:=rfl
 have j8:∀o,ref36_Unwind_j8 (m+4) rec1 p name keep docs (i:Int) o=rec1 p name keep docs ((i+1:Nat):Int) o:=fun o=>by rw[ref36_Unwind_j8,wrapS (by omega)]
 have j9:ref36_Unwind_j9 (m+4) rec1 p name keep docs (i:Int) true out=rec1 p name keep docs ((i+1:Nat):Int) (out++[nmd d name nulU]):=by
  rw[ref36_Unwind_j9,cond_true,hix,Option.bind_some,hnl,Option.bind_some,hn1,Option.bind_some,app_one (by omega),Option.bind_some,j8]
 rw[ref36_Unwind_j2,hix,Option.bind_some,hg,Option.bind_some]
 unfold unS
 by_cases h6:Dt.I (getD p d) 0=6
 ·have e6:(Dt.I (getD p d) 0==6)=true:=by rw[h6];rfl
  obtain⟨hfo,hlL,hf⟩:=list_facts hd hp h6
  rw[if_pos h6,e6,cond_true,ref36_Unwind_j3]
  by_cases h0:(Dt.L (getD p d) 3).length=0
  ·rw[if_pos h0,h0,show decide ((0:Int)<((0:Nat):Int))=false from rfl,cond_false,e6,cond_true]
   have hdr:ref04_Drop (m+4) d p=some (dropP p d):=rdrop_eq p 1048576 d w1 w4 (by omega) (m+3) (by omega) (by omega)
   cases keep with
   |false=>rw[cond_false,if_neg (by decide),List.append_nil,j8]
   |true=>rw[cond_true,hix,Option.bind_some,hdr,Option.bind_some,hnl,Option.bind_some,hn2,Option.bind_some,app_one (by omega),Option.bind_some,if_pos rfl,j8]
  ·rw[if_neg h0,decide_eq_true (by omega),cond_true,ref36_Unwind_j4]
   have key:=rUnw_l5 (m+4) rec1 p name keep docs i hi (getD p d) hlL (uel p name d) (fun k=>((putP p d (chE (getD p d) k)).1,0)) (fun k hk=>by
        obtain⟨q0,q1,q2,q3,q4,q5⟩:=hf k hk
        have e:(Dt.L (getD p d) 3)[k]=chE (getD p d) k:=(ch_E (getD_wv p w1).1 hk).1.symm
        rw[e,hdd]
        have hw:ref36_with (m+4) (putP p d (chE (getD p d) k)).1 name (intU k)=some (uel p name d k):=with_eq (m+1) name _ (intU k) q5 (by omega) (by omega) (by omega)
        exact⟨rPut hv hd hfo q0 (m+2) (by omega) (by omega),rfl,hw⟩) (m+5) 0 out (Nat.zero_le _) (by omega) (by omega) (by omega)
   rw[Nat.sub_zero,j8] at key
   exact key
 ·have e6:(Dt.I (getD p d) 0==6)=false:=by rw[beq_eq_false_iff_ne];exact h6
  rw[if_neg h6,e6,cond_false,ref36_Unwind_j3,cond_false,e6,cond_false]
  cases keep with
  |true=>
   rw[cond_true,j9]
   split
   ·rw[if_pos rfl]
   ·rfl
  |false=>
   rw[cond_false]
   by_cases h2:Dt.I (getD p d) 0=2
   ·rw[if_pos (.inl h2),show (Dt.I (getD p d) 0 !=2)=false by rw[h2];rfl,cond_false,if_neg (by decide),List.append_nil,ref36_Unwind_j9,cond_false,j8]
   ·    rw[show (Dt.I (getD p d) 0 !=2)=true by simp only[bne,Bool.not_eq_true',beq_eq_false_iff_ne];exact h2,cond_true]
        by_cases h0:Dt.I (getD p d) 0=0
        ·rw[if_pos (.inr h0),show (Dt.I (getD p d) 0 !=0)=false by rw[h0];rfl,if_neg (by decide),List.append_nil,ref36_Unwind_j9,cond_false,j8]
        ·rw[if_neg (by rintro(h|h)<;>omega),show (Dt.I (getD p d) 0 !=0)=true by simp only[bne,Bool.not_eq_true',beq_eq_false_iff_ne];exact h0,j9]
theorem rUnw_l1 (hv:vld p=true) (hp:p≠[]) (hn:name.size≤1048576) (m:Nat) (hm:5000000≤m) (hm2:m<9223372036854774000) (docs:List Dt) (hl:docs.length≤30) (hd:∀d∈docs,DocU d):∀(M i:Nat) (out:List Dt),i≤docs.length→docs.length-i<M→out.length≤1048576*i→
  ref36_Unwind_l1 (m+4) M p name keep docs (i:Int) out=some (out++(docs.drop i).flatMap (unS p name keep))
 |0,i,_,_,h,_=>by omega
 |M+1,i,out,hi,hM,ho=>by
  rw[ref36_Unwind_l1,dlt]
  by_cases hlt:i<docs.length
  ·have hdi:=hd _ (List.getElem_mem hlt)
   have hul:=un_len (name:=name) (keep:=keep) hdi hp
   rw[decide_eq_true hlt,cond_true,rUnw_step hv hp hn m hm hm2 _ docs i hlt hl hdi out ho,rUnw_l1 hv hp hn m hm hm2 docs hl hd M (i+1) _ (by omega) (by omega) (by rw[List.length_append];omega),List.drop_eq_getElem_cons hlt,List.flatMap_cons,List.append_assoc]
  ·have e:i=docs.length:=by omega
   subst e
   rw[decide_eq_false hlt,cond_false,List.drop_length,List.flatMap_nil,List.append_nil]
   rfl
theorem unwind_both (hv:vld p=true) (hp:p≠[]) (hn:name.size≤1048576) (docs:List Dt) (hl:docs.length≤30) (hd:∀d∈docs,DocU d) (m:Nat) (hm:5000000≤m) (hm2:m<9223372036854773000):
  reshape_Unwind (m+6) p name keep docs=some (docs.flatMap (unS p name keep))∧ref36_Unwind (m+6) p name keep docs=some (docs.flatMap (unS p name keep)):=by
 have h1:=Unw_l (m+5) p name keep docs hl (unS p name keep) (fun d h=>⟨unwind_eq hv hp (hd d h) hn m hm (by omega),un_len (hd d h) hp⟩) (m+6) 0 [] (Nat.zero_le _) (by omega) (Nat.zero_le _)
 have h2:=rUnw_l1 (keep:=keep) hv hp hn (m+1) (by omega) (by omega) docs hl hd (m+6) 0 [] (Nat.zero_le _) (by omega) (Nat.zero_le _)
 rw[List.drop_zero,List.nil_append] at h1 h2
 exact⟨h1,h2⟩
end
end Go.Proofs.YtameompfdamfpaaGreatDoor
