/- Copies of documents by reshape's own function.
A field of a document is set:the program's function and the reference's.
Each value is the same as itself (layer 3's functions). -/
import Derived.Test.YtameompfdamfpaaGreatDoorRCl
import Derived.Test.YtameompfdamfpaaGreatDoorMC
import Derived.Test.YtameompfdamfpaaGreatDoorUA
set_option linter.unusedVariables false
set_option linter.unusedSimpArgs false
namespace Go.Proofs.YtameompfdamfpaaGreatDoor
open Go.Am
theorem app_one {l:List Dt} {x:Dt} (h:l.length<137438953472):app l [x]=some (l++[x]):=by
 unfold app
 rw[if_pos (by simp;omega)]
theorem take_snoc {l:List Dt} {i:Nat} (h:i<l.length):l.take i++[l[i]]=l.take (i+1):=by rw[List.take_add_one,List.getElem?_eq_getElem h];rfl
theorem rcopy_l1 (m:Nat) (self:Dt→Option Dt) (l:List Dt) (hl:l.length≤137438953472) (hs:∀e∈l,self e=some e) (x3 x4:Dt) (x5 x6:Int) (x7:ByteArray) (x9:List Dt):∀(M i:Nat),i≤l.length→l.length-i<M→
  reshape_copyValue_l1 m self M l (l.length:Int) (i:Int) x3 x4 x5 x6 x7 (l.take i) x9=reshape_copyValue_j4 m self x3 x4 x5 x6 x7 l x9
 |0,i,_,h=>by omega
 |M+1,i,hi,h=>by
  simp only[reshape_copyValue_l1,dlt]
  by_cases hlt:i<l.length
  ·have hx:(l.take i).length<137438953472:=by rw[List.length_take];omega
   simp only[hlt,decide_true,cond_true,reshape_copyValue_j2,reshape_copyValue_j3,idx_lt hlt,Option.bind_some,hs _ (List.getElem_mem hlt),app_one hx,take_snoc hlt,wrapS (show i<9223372036854775807 by omega)]
   exact rcopy_l1 m self l hl hs x3 x4 x5 x6 x7 x9 M (i+1) (by omega) (by omega)
  ·have e:i=l.length:=by omega
   subst e
   simp
theorem rcopy_l6 (m:Nat) (self:Dt→Option Dt) (l:List Dt) (hl:l.length≤137438953472) (hf:∀f∈l,∃s v,f= .agg [.str s,v]∧self v=some v) (x3:Dt) (x4 x5:Int) (x6:ByteArray) (x7:List Dt):∀(M i:Nat),i≤l.length→l.length-i<M→
  reshape_copyValue_l6 m self M l (l.length:Int) (i:Int) x3 x4 x5 x6 x7 (l.take i)=some (.agg [.int x4,.int x5,.str x6,.lst x7,.lst l])
 |0,i,_,h=>by omega
 |M+1,i,hi,h=>by
  simp only[reshape_copyValue_l6,dlt]
  by_cases hlt:i<l.length
  ·have hx:(l.take i).length<137438953472:=by rw[List.length_take];omega
   obtain⟨s,v,e1,e2⟩:=hf _ (List.getElem_mem hlt)
   have e5:Dt.agg [.str (Dt.S l[i] 0),v]=l[i]:=by rw[e1];rfl
   have e4:Dt.fld l[i] 1=v:=by rw[e1];rfl
   simp only[hlt,decide_true,cond_true,reshape_copyValue_j7,reshape_copyValue_j8,idx_lt hlt,Option.bind_some,e4,e2,e5,app_one hx,take_snoc hlt,wrapS (show i<9223372036854775807 by omega)]
   exact rcopy_l6 m self l hl hf x3 x4 x5 x6 x7 M (i+1) (by omega) (by omega)
  ·have e:i=l.length:=by omega
   subst e
   simp[reshape_copyValue_j9]
theorem rcopy_eq:∀(N:Nat) (d:Dt),d.bulk≤N→N≤137438953472→WV d→∀m,N≤m→reshape_copyValue (m+1) d=some d
 |0,d,h,_,_,_,_=>by have:=bulk_pos d;omega
 |N +   1,d,h,hN,hw,m,hm=>by
  cases hw with
  | @mk   k i t l ds hl hd=>
    rw[bulk_val] at h
    obtain⟨m,rfl⟩:∃q,m=q+1:=⟨m-1,by omega⟩
    have hself:∀e∈l,reshape_copyValue (m+1) e=some e:=fun e he=>rcopy_eq N e (by have:=bulk_mem he;omega) (by omega) (hl e he) m (by omega)
    have hfld:∀f∈ds,∃s v,f= .agg [.str s,v]∧reshape_copyValue (m+1) v=some v:=fun f hf=>by
        have hb:=bulk_mem hf
        cases hd f hf with
        | @mk s v hv=>
          rw[bulk_fld] at hb
          exact⟨s,v,rfl,rcopy_eq N v (by omega) (by omega) hv m (by omega)⟩
    have hl1:=len_bulk l
    have hd1:=len_bulk ds
    have key:=fun(x3 x4:Dt)=>rcopy_l1 (m+1) (reshape_copyValue (m+1)) l (by omega) hself x3 x4 k i t [] (m+2) 0 (by omega) (by omega)
    have key6:=fun(x3:Dt) (x7:List Dt)=>rcopy_l6 (m+1) (reshape_copyValue (m+1)) ds (by omega) hfld x3 k i t x7 (m+2) 0 (by omega) (by omega)
    simp only[List.take_zero] at key key6
    show reshape_copyValue_l1 (m+1) (reshape_copyValue (m+1)) (m+2) l ((l.length:Nat):Int) ((0:Nat):Int) _ _ k i t [] []=_
    rw[key]
    exact key6 _ _
end Go.Proofs.YtameompfdamfpaaGreatDoor
namespace Go.Proofs.YtameompfdamfpaaGreatDoor
open Go.Am
theorem vfind_l (m:Nat) (s:ByteArray) (v:Dt) (hl:(Dt.L v 4).length<9223372036854775807):∀(M i:Nat),i≤(Dt.L v 4).length→(Dt.L v 4).length-i<M→value_find_l2 m M s ((Dt.L v 4).length:Int) (i:Int) v=some (oI i (fi s ((Dt.L v 4).drop i)))
 |0,i,_,h=>by omega
 |M+    1,i,hi,h=>by
  simp only[value_find_l2,dlt]
  by_cases hlt:i<(Dt.L v 4).length
  ·rw[List.drop_eq_getElem_cons hlt]
   simp only[hlt,decide_true,cond_true,value_find_j3,value_find_j4,idx_lt hlt,Option.bind_some,fi,wrapS (show i<9223372036854775807 by omega)]
   cases (ByteArray.toList (Dt.S (Dt.L v 4)[i] 0)==ByteArray.toList s)
   ·    simp only[cond_false]
        rw[vfind_l m s v hl M (i+1) (by omega) (by omega),oI_map]
   ·simp[oI]
  ·have e:i=(Dt.L v 4).length:=by omega
   rw[e,List.drop_length]
   simp[value_find_j5,fi,oI]
theorem vfind_eq (m:Nat) (s:ByteArray) (v:Dt) (h5:Dt.I v 0=5) (hm:(Dt.L v 4).length≤m) (hm2:m<9223372036854775807):value_find (m+1) v s=some (oI 0 (fi s (Dt.L v 4))):=by
 have h:=vfind_l m s v (by omega) (m+1) 0 (Nat.zero_le _) (by omega)
 rw[List.drop_zero] at h
 rw[value_find,(b5 h5).2,cond_false]
 exact h
def setV (v:Dt) (s:ByteArray) (r:Dt):Dt:=match fi s (Dt.L v 4) with
 |some k=>setF v k r
 |none=>addF v s r
theorem setV_wv {v r:Dt} {s:ByteArray} (hw:WV v) (hr:WV r):WV (setV v s r):=by
 unfold setV
 split
 ·exact setF_wv hw hr _
 ·refine mkV_wv v (wv_L hw).1 fun f hf=>?_
  rcases List.mem_append.1 hf with h|h
  ·exact(wv_L hw).2.1 f h
  ·rw[List.mem_singleton.1 h];exact .mk hr
theorem rset_eq (m:Nat) (s:ByteArray) (v r:Dt) (h5:Dt.I v 0=5) (hm:v.bulk≤m) (hb:v.bulk≤137438953472) (hm2:m<9223372036854775807):ref01_Set (m+2) v s r=some (setV v s r):=by
 unfold setV
 cases h:fi s (Dt.L v 4) with
 |some k=>exact set_some m s v r k h5 hm hb hm2 h
 |none=>exact set_none m s v r h5 hm hb hm2 h
theorem vset_eq (m:Nat) (s:ByteArray) (v r:Dt) (hw:WV v) (hr:WV r) (h5:Dt.I v 0=5) (hm:v.bulk≤m) (hb:v.bulk≤137438953472) (hm':r.bulk≤m) (hb':r.bulk≤137438953472) (hm2:m<9223372036854775807):value_Set (m+2) v s r=some (setV v s r):=by
 have hn:=L_len v 4
 have ev:=value_clone_cp _ v (Nat.le_refl _) hb hw m hm
 have er:=value_clone_cp _ r (Nat.le_refl _) hb' hr m hm'
 have hv:=prt5_back hw.isVal
 have hr5:=prt5_back hr.isVal
 have hf:=vfind_eq m s v h5 (by omega) hm2
 rw[value_Set,ev,Option.bind_some,show (prt5 v).1=Dt.I v 0 from rfl,(b5 h5).2,cond_false]
 rw[show Dt.I v 0=(prt5 v).1 from rfl]
 unfold value_Set_j0
 rw[hv,hf,Option.bind_some]
 unfold setV
 cases h:fi s (Dt.L v 4) with
 |some k=>
  have hk:=fi_lt h
  have hk':k<(prt5 v).2.2.2.2.length:=hk
  simp only[oI0,dp1,cond_true,er,Option.bind_some,hr5,inL_lt hk',Int.toNat_natCast,List.getElem?_eq_getElem hk']
  rw[setF,getD_lt hk]
  rfl
 |none=>
  have ha:(prt5 v).2.2.2.2.length<137438953472:=by show (Dt.L v 4).length<_;omega
  simp only[oIn,dn1,cond_false,value_Set_j1,er,Option.bind_some,hr5,cond_true,app_one ha]
  rfl
def nmd (v:Dt) (s:ByteArray) (r:Dt):Dt:=bif (ByteArray.toList s==[]) then v else setV v s r
theorem named_eq (m:Nat) (s:ByteArray) (v r:Dt) (hw:WV v) (hr:WV r) (h5:Dt.I v 0=5) (hm:v.bulk≤m) (hb:v.bulk≤137438953472) (hm':r.bulk≤m) (hb':r.bulk≤137438953472) (hm2:m<9223372036854775807):reshape_named (m+3) v s r=some (nmd v s r):=by
 rw[reshape_named,nmd]
 cases (ByteArray.toList s==[]) with
 |true=>rfl
 |false=>
  simp only[cond_false,reshape_named_j0]
  rw[vset_eq m s v r hw hr h5 hm hb hm' hb' hm2]
  rfl
theorem with_eq (m:Nat) (s:ByteArray) (v r:Dt) (h5:Dt.I v 0=5) (hm:v.bulk≤m) (hb:v.bulk≤137438953472) (hm2:m<9223372036854775807):ref36_with (m+3) v s r=some (nmd v s r):=by
 rw[ref36_with,nmd]
 cases (ByteArray.toList s==[]) with
 |true=>rfl
 |false=>
  simp only[cond_false,ref36_with_j0]
  rw[rset_eq m s v r h5 hm hb hm2]
  rfl
end Go.Proofs.YtameompfdamfpaaGreatDoor
namespace Go.Proofs.YtameompfdamfpaaGreatDoor
open Go.Am
theorem r03_l (m:Nat) (self5:List Dt→List Dt→Option Bool) (self:Dt→Dt→Option Bool) (d:Dt) (hl:(Dt.L d 4).length<1000000000000) (hs:∀f∈Dt.L d 4,self (Dt.fld f 1) (Dt.fld f 1)=some true) (hL:self5 (Dt.L d 3) (Dt.L d 3)=some true):∀(M i:Nat),i≤(Dt.L d 4).length→(Dt.L d 4).length-i<M→law03_Same_l3 m self5 self M ((Dt.L d 4).length:Int) (i:Int) d d=some true
 |0,i,_,h=>by omega
 |M+1,i,hi,h=>by
  simp only[law03_Same_l3,dlt]
  by_cases hlt:i<(Dt.L d 4).length
  ·simp only[hlt,decide_true,cond_true,law03_Same_j4,law03_Same_j5,law03_Same_j6,idx_lt hlt,Option.bind_some,beq_self_eq_true,Bool.not_true,cond_false,hs _ (List.getElem_mem hlt),wrapS (show i<9223372036854775807 by omega)]
   exact r03_l m self5 self d hl hs hL M (i+1) (by omega) (by omega)
  ·simp only[hlt,decide_false,cond_false,law03_Same_j7,hL,Option.bind_some]
theorem r03L_l (m:Nat) (self:Dt→Dt→Option Bool) (l:List Dt) (hl:l.length<1000000000000) (hs:∀e∈l,self e e=some true):∀(M i:Nat),i≤l.length→l.length-i<M→law03_SameList_l2 m self M l l (l.length:Int) (i:Int)=some true
 |0,i,_,h=>by omega
 |M+1,i,hi,h=>by
  simp only[law03_SameList_l2,dlt]
  by_cases hlt:i<l.length
  ·simp only[hlt,decide_true,cond_true,law03_SameList_j3,law03_SameList_j4,idx_lt hlt,Option.bind_some,Bool.not_true,cond_false,hs _ (List.getElem_mem hlt),wrapS (show i<9223372036854775807 by omega)]
   exact r03L_l m self l hl hs M (i+1) (by omega) (by omega)
  ·simp only[hlt,decide_false,cond_false,law03_SameList_j5]
theorem r03_list (m:Nat) (l:List Dt) (hl:l.length≤m) (hl2:l.length<1000000000000) (hs:∀e∈l,law03_Same m e e=some true):law03_SameList (m+1) l l=some true:=by
 show (bif ((((l.length:Nat):Int) !=((l.length:Nat):Int)):Bool) then some false else law03_SameList_j0 m (law03_Same m) l l)=_
 rw[bne_self_eq_false]
 exact r03L_l m (law03_Same m) l hl2 hs (m+1) 0 (Nat.zero_le _) (by omega)
theorem r03_refl:∀(N:Nat) (d:Dt),d.bulk≤N→N<1000000000000→∀m,2*N≤m→law03_Same (m+1) d d=some true
 |0,d,h,_,_,_=>by have:=bulk_posA d;omega
 |N+1,d,h,hN,m,hm=>by
  obtain⟨m,rfl⟩:∃k,m=k+2:=⟨m-2,by omega⟩
  have h3:=L_len d 3
  have h4:=L_len d 4
  have hL:=r03_list (m+1) (Dt.L d 3) (by omega) (by omega) fun e he=>r03_refl N e (by have:=L_mem he;omega) (by omega) m (by omega)
  have key:=r03_l (m+2) (law03_SameList (m+2)) (law03_Same (m+2)) d (by omega) (fun f hf=>r03_refl N (Dt.fld f 1) (by have:=L_mem hf;have:=fld_bulk f 1;omega) (by omega) (m+1) (by omega)) hL (m+3) 0 (Nat.zero_le _) (by omega)
  rw[law03_Same]
  simp only[bne_self_eq_false,beq_self_eq_true,Bool.not_true,cond_false,law03_Same_j0]
  exact key
end Go.Proofs.YtameompfdamfpaaGreatDoor
