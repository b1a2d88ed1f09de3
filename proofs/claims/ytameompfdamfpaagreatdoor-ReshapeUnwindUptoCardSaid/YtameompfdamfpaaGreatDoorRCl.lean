/- Copies of values: the functions hand the parts back. -/
import Derived.Test.YtameompfdamfpaaGreatDoorMA
set_option linter.unusedVariables false
set_option linter.unusedSimpArgs false
namespace Go.Proofs.YtameompfdamfpaaGreatDoor
open Go.Am
def prt5 (d:Dt):Int×Int×ByteArray×List Dt×List Dt:=(Dt.I d 0,Dt.I d 1,Dt.S d 2,Dt.L d 3,Dt.L d 4)
def IsVal (d:Dt):Prop:=∃k i t l ds,d= .agg [.int k,.int i,.str t,.lst l,.lst ds]
theorem prt5_back {d:Dt} (h:IsVal d):Dt.agg [.int (prt5 d).1,.int (prt5 d).2.1,.str (prt5 d).2.2.1,.lst (prt5 d).2.2.2.1,.lst (prt5 d).2.2.2.2]=d:=by
 obtain⟨k,i,t,l,ds,rfl⟩:=h
 rfl
theorem WV.isVal {d:Dt} (h:WV d):IsVal d:=by
 cases h with
 |mk hl hd=>exact⟨_,_,_,_,_,rfl⟩
theorem path_clone_l1' (m:Nat) (self:Dt→Option (Int×Int×ByteArray×List Dt×List Dt)) (l:List Dt) (hl:l.length<9223372036854775807) (hs:∀e∈l,IsVal e∧self e=some (prt5 e)) (z x3 x4:Dt) (x5 x6:Int) (x7:ByteArray) (x9:List Dt):∀(M i:Nat),i≤l.length→l.length-i<M→
  path_clone_l1 m self M l (l.length:Int) (i:Int) x3 x4 x5 x6 x7 (l.take i++List.replicate (l.length-i) z) x9=path_clone_j4 m self x3 x4 x5 x6 x7 l x9
 |0,i,_,h=>by omega
 |M+1,i,hi,h=>by
  simp only[path_clone_l1,dlt]
  by_cases hlt:i<l.length
  ·have hx:i<(l.take i++List.replicate (l.length-i) z).length:=by rw[row_len l z i hi];exact hlt
   obtain⟨e1,e2⟩:=hs _ (List.getElem_mem hlt)
   simp only[hlt,decide_true,cond_true,path_clone_j2,path_clone_j3,idx_lt hlt,Option.bind_some,e2,prt5_back e1,inL_lt hx,Int.toNat_natCast,List.getElem?_eq_getElem hx,set_step l z i hlt,wrapS (show i<9223372036854775807 by omega)]
   exact path_clone_l1' m self l hl hs z x3 x4 x5 x6 x7 x9 M (i+1) (by omega) (by omega)
  ·have e:i=l.length:=by omega
   subst e
   simp
theorem path_clone_l6' (m:Nat) (self:Dt→Option (Int×Int×ByteArray×List Dt×List Dt)) (l:List Dt) (hl:l.length<9223372036854775807) (hf:∀f∈l,∃s v,f= .agg [.str s,v]∧IsVal v∧self v=some (prt5 v)) (z x3:Dt) (x4 x5:Int) (x6:ByteArray) (x7:List Dt):∀(M i:Nat),i≤l.length→l.length-i<M→
  path_clone_l6 m self M l (l.length:Int) (i:Int) x3 x4 x5 x6 x7 (l.take i++List.replicate (l.length-i) z)=some (x4,x5,x6,x7,l)
 |0,i,_,h=>by omega
 |M+1,i,hi,h=>by
  simp only[path_clone_l6,dlt]
  by_cases hlt:i<l.length
  ·have hx:i<(l.take i++List.replicate (l.length-i) z).length:=by rw[row_len l z i hi];exact hlt
   obtain⟨s,v,e1,e2,e3⟩:=hf _ (List.getElem_mem hlt)
   have e5:Dt.agg [.str (Dt.S l[i] 0),v]=l[i]:=by rw[e1];rfl
   have e4:Dt.fld l[i] 1=v:=by rw[e1];rfl
   simp only[hlt,decide_true,cond_true,path_clone_j7,path_clone_j8,idx_lt hlt,Option.bind_some,e4,e3,prt5_back e2,e5,inL_lt hx,Int.toNat_natCast,List.getElem?_eq_getElem hx,set_step l z i hlt,wrapS (show i<9223372036854775807 by omega)]
   exact path_clone_l6' m self l hl hf z x3 x4 x5 x6 x7 M (i+1) (by omega) (by omega)
  ·have e:i=l.length:=by omega
   subst e
   simp[path_clone_j9]
theorem path_clone_j4' (m:Nat) (self:Dt→Option (Int×Int×ByteArray×List Dt×List Dt)) (d x4:Dt) (x5 x6:Int) (x7:ByteArray) (x8:List Dt) (hm:(Dt.L d 4).length≤m) (hl:(Dt.L d 4).length≤137438953472) (hf:∀f∈Dt.L d 4,∃s v,f= .agg [.str s,v]∧IsVal v∧self v=some (prt5 v)):
  path_clone_j4 m self d x4 x5 x6 x7 x8 []=some (x5,x6,x7,x8,Dt.L d 4):=by
 unfold path_clone_j4
 by_cases h0:0<(Dt.L d 4).length
 ·have e0:decide ((0:Int)<(((Dt.L d 4).length:Nat):Int))=true:=by simp;omega
  rw[e0]
  simp only[cond_true]
  rw[mkL_nat hl,Option.bind_some]
  have key:=fun z=>path_clone_l6' m self (Dt.L d 4) (by omega) hf z x4 x5 x6 x7 x8 (Nat.succ m) 0 (by omega) (by omega)
  simp only[List.take_zero,List.nil_append,Nat.sub_zero] at key
  exact key _
 ·have e0:decide ((0:Int)<(((Dt.L d 4).length:Nat):Int))=false:=by rw[decide_eq_false_iff_not];omega
  have e1:Dt.L d 4=[]:=List.length_eq_zero_iff.1 (by omega)
  rw[e0,e1]
  rfl
theorem path_clone_cp:∀(N:Nat) (d:Dt),d.bulk≤N→N≤137438953472→WV d→∀m,N≤m→path_clone (m+1) d=some (prt5 d)
 |0,d,h,_,_,_,_=>by have:=bulk_pos d;omega
 |N +   1,d,h,hN,hw,m,hm=>by
  cases hw with
  | @mk   k i t l ds hl hd=>
    rw[bulk_val] at h
    obtain⟨m,rfl⟩:∃q,m=q+1:=⟨m-1,by omega⟩
    have hself:∀e∈l,IsVal e∧path_clone (m+1) e=some (prt5 e):=fun e he=>⟨(hl e he).isVal,path_clone_cp N e (by have:=bulk_mem he;omega) (by omega) (hl e he) m (by omega)⟩
    have hfld:∀f∈ds,∃s v,f= .agg [.str s,v]∧IsVal v∧path_clone (m+1) v=some (prt5 v):=fun f hf=>by
        have hb:=bulk_mem hf
        cases hd f hf with
        | @mk s v hv=>
          rw[bulk_fld] at hb
          exact⟨s,v,rfl,hv.isVal,path_clone_cp N v (by omega) (by omega) hv m (by omega)⟩
    have hl1:=len_bulk l
    have hd1:=len_bulk ds
    have key4:=fun(x4:Dt) (x8:List Dt)=>path_clone_j4' (m+1) (path_clone (m+1)) (.agg [.int k,.int i,.str t,.lst l,.lst ds]) x4 k i t x8 (show ds.length≤m+1 by omega) (show ds.length≤137438953472 by omega) hfld
    show (bif (decide ((0:Int)<((l.length:Nat):Int))) then _ else _)=_
    by_cases h0:0<l.length
    ·   have e0:decide ((0:Int)<((l.length:Nat):Int))=true:=by simp;omega
        have key:=fun(x3 x4:Dt) (z:Dt)=>path_clone_l1' (m+1) (path_clone (m+1)) l (by omega) hself z x3 x4 k i t [] (m+2) 0 (by omega) (by omega)
        simp only[List.take_zero,List.nil_append,Nat.sub_zero] at key
        rw[e0]
        simp only[cond_true]
        show Option.bind (mkL ((l.length:Nat):Int) ((l.length:Nat):Int) _) _=_
        rw[mkL_nat (by omega),Option.bind_some]
        show path_clone_l1 (m+1) (path_clone (m+1)) (m+2) l ((l.length:Nat):Int) ((0:Nat):Int) _ _ k i t _ _=_
        rw[key,key4]
        rfl
    ·   have e0:decide ((0:Int)<((l.length:Nat):Int))=false:=by rw[decide_eq_false_iff_not];omega
        have e3:l=[]:=List.length_eq_zero_iff.1 (by omega)
        rw[e0]
        simp only[cond_false]
        show path_clone_j4 (m+1) (path_clone (m+1)) _ _ k i t [] []=_
        rw[key4,e3]
        rfl
theorem value_clone_l1' (m:Nat) (self:Dt→Option (Int×Int×ByteArray×List Dt×List Dt)) (l:List Dt) (hl:l.length<9223372036854775807) (hs:∀e∈l,IsVal e∧self e=some (prt5 e)) (z x3 x4:Dt) (x5 x6:Int) (x7:ByteArray) (x9:List Dt):∀(M i:Nat),i≤l.length→l.length-i<M→
  value_clone_l1 m self M l (l.length:Int) (i:Int) x3 x4 x5 x6 x7 (l.take i++List.replicate (l.length-i) z) x9=value_clone_j4 m self x3 x4 x5 x6 x7 l x9
 |0,i,_,h=>by omega
 |M+1,i,hi,h=>by
  simp only[value_clone_l1,dlt]
  by_cases hlt:i<l.length
  ·have hx:i<(l.take i++List.replicate (l.length-i) z).length:=by rw[row_len l z i hi];exact hlt
   obtain⟨e1,e2⟩:=hs _ (List.getElem_mem hlt)
   simp only[hlt,decide_true,cond_true,value_clone_j2,value_clone_j3,idx_lt hlt,Option.bind_some,e2,prt5_back e1,inL_lt hx,Int.toNat_natCast,List.getElem?_eq_getElem hx,set_step l z i hlt,wrapS (show i<9223372036854775807 by omega)]
   exact value_clone_l1' m self l hl hs z x3 x4 x5 x6 x7 x9 M (i+1) (by omega) (by omega)
  ·have e:i=l.length:=by omega
   subst e
   simp
theorem value_clone_l6' (m:Nat) (self:Dt→Option (Int×Int×ByteArray×List Dt×List Dt)) (l:List Dt) (hl:l.length<9223372036854775807) (hf:∀f∈l,∃s v,f= .agg [.str s,v]∧IsVal v∧self v=some (prt5 v)) (z x3:Dt) (x4 x5:Int) (x6:ByteArray) (x7:List Dt):∀(M i:Nat),i≤l.length→l.length-i<M→
  value_clone_l6 m self M l (l.length:Int) (i:Int) x3 x4 x5 x6 x7 (l.take i++List.replicate (l.length-i) z)=some (x4,x5,x6,x7,l)
 |0,i,_,h=>by omega
 |M+1,i,hi,h=>by
  simp only[value_clone_l6,dlt]
  by_cases hlt:i<l.length
  ·have hx:i<(l.take i++List.replicate (l.length-i) z).length:=by rw[row_len l z i hi];exact hlt
   obtain⟨s,v,e1,e2,e3⟩:=hf _ (List.getElem_mem hlt)
   have e5:Dt.agg [.str (Dt.S l[i] 0),v]=l[i]:=by rw[e1];rfl
   have e4:Dt.fld l[i] 1=v:=by rw[e1];rfl
   simp only[hlt,decide_true,cond_true,value_clone_j7,value_clone_j8,idx_lt hlt,Option.bind_some,e4,e3,prt5_back e2,e5,inL_lt hx,Int.toNat_natCast,List.getElem?_eq_getElem hx,set_step l z i hlt,wrapS (show i<9223372036854775807 by omega)]
   exact value_clone_l6' m self l hl hf z x3 x4 x5 x6 x7 M (i+1) (by omega) (by omega)
  ·have e:i=l.length:=by omega
   subst e
   simp[value_clone_j9]
theorem value_clone_j4' (m:Nat) (self:Dt→Option (Int×Int×ByteArray×List Dt×List Dt)) (d x4:Dt) (x5 x6:Int) (x7:ByteArray) (x8:List Dt) (hm:(Dt.L d 4).length≤m) (hl:(Dt.L d 4).length≤137438953472) (hf:∀f∈Dt.L d 4,∃s v,f= .agg [.str s,v]∧IsVal v∧self v=some (prt5 v)):
  value_clone_j4 m self d x4 x5 x6 x7 x8 []=some (x5,x6,x7,x8,Dt.L d 4):=by
 unfold value_clone_j4
 by_cases h0:0<(Dt.L d 4).length
 ·have e0:decide ((0:Int)<(((Dt.L d 4).length:Nat):Int))=true:=by simp;omega
  rw[e0]
  simp only[cond_true]
  rw[mkL_nat hl,Option.bind_some]
  have key:=fun z=>value_clone_l6' m self (Dt.L d 4) (by omega) hf z x4 x5 x6 x7 x8 (Nat.succ m) 0 (by omega) (by omega)
  simp only[List.take_zero,List.nil_append,Nat.sub_zero] at key
  exact key _
 ·have e0:decide ((0:Int)<(((Dt.L d 4).length:Nat):Int))=false:=by rw[decide_eq_false_iff_not];omega
  have e1:Dt.L d 4=[]:=List.length_eq_zero_iff.1 (by omega)
  rw[e0,e1]
  rfl
theorem value_clone_cp:∀(N:Nat) (d:Dt),d.bulk≤N→N≤137438953472→WV d→∀m,N≤m→value_clone (m+1) d=some (prt5 d)
 |0,d,h,_,_,_,_=>by have:=bulk_pos d;omega
 |N +   1,d,h,hN,hw,m,hm=>by
  cases hw with
  | @mk   k i t l ds hl hd=>
    rw[bulk_val] at h
    obtain⟨m,rfl⟩:∃q,m=q+1:=⟨m-1,by omega⟩
    have hself:∀e∈l,IsVal e∧value_clone (m+1) e=some (prt5 e):=fun e he=>⟨(hl e he).isVal,value_clone_cp N e (by have:=bulk_mem he;omega) (by omega) (hl e he) m (by omega)⟩
    have hfld:∀f∈ds,∃s v,f= .agg [.str s,v]∧IsVal v∧value_clone (m+1) v=some (prt5 v):=fun f hf=>by
        have hb:=bulk_mem hf
        cases hd f hf with
        | @mk s v hv=>
          rw[bulk_fld] at hb
          exact⟨s,v,rfl,hv.isVal,value_clone_cp N v (by omega) (by omega) hv m (by omega)⟩
    have hl1:=len_bulk l
    have hd1:=len_bulk ds
    have key4:=fun(x4:Dt) (x8:List Dt)=>value_clone_j4' (m+1) (value_clone (m+1)) (.agg [.int k,.int i,.str t,.lst l,.lst ds]) x4 k i t x8 (show ds.length≤m+1 by omega) (show ds.length≤137438953472 by omega) hfld
    show (bif (decide ((0:Int)<((l.length:Nat):Int))) then _ else _)=_
    by_cases h0:0<l.length
    ·   have e0:decide ((0:Int)<((l.length:Nat):Int))=true:=by simp;omega
        have key:=fun(x3 x4:Dt) (z:Dt)=>value_clone_l1' (m+1) (value_clone (m+1)) l (by omega) hself z x3 x4 k i t [] (m+2) 0 (by omega) (by omega)
        simp only[List.take_zero,List.nil_append,Nat.sub_zero] at key
        rw[e0]
        simp only[cond_true]
        show Option.bind (mkL ((l.length:Nat):Int) ((l.length:Nat):Int) _) _=_
        rw[mkL_nat (by omega),Option.bind_some]
        show value_clone_l1 (m+1) (value_clone (m+1)) (m+2) l ((l.length:Nat):Int) ((0:Nat):Int) _ _ k i t _ _=_
        rw[key,key4]
        rfl
    ·   have e0:decide ((0:Int)<((l.length:Nat):Int))=false:=by rw[decide_eq_false_iff_not];omega
        have e3:l=[]:=List.length_eq_zero_iff.1 (by omega)
        rw[e0]
        simp only[cond_false]
        show value_clone_j4 (m+1) (value_clone (m+1)) _ _ k i t [] []=_
        rw[key4,e3]
        rfl
end Go.Proofs.YtameompfdamfpaaGreatDoor
