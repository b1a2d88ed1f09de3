/- Copies of values: the functions hand the parts back.
Copies of documents by reshape's own function.
Fields by name,numbers,the reference's Set (out of layer 4's texts).
A field of a document is set:the program's function and the reference's. -/
import Derived.Test.YtameompfdamfpaaGreatDoorMA
import Derived.Test.YtameompfdamfpaaGreatDoorMC
import Derived.Test.YtameompfdamfpaaGreatDoorMB
set_option linter.unusedVariables false
set_option linter.unusedSimpArgs false
namespace Go.Proofs.YtameompfdamfpaaGreatDoor
open Go.Am
def prt5 (d:Dt):Int×Int×ByteArray×List Dt×List Dt:=(Dt.I d 0,Dt.I d 1,Dt.S d 2,Dt.L d 3,Dt.L d 4)
def IsVal (d:Dt):Prop:=∃k i t l ds,d= .agg [.int k,.int i,.str t,.lst l,.lst ds]
theorem prt5_back {d:Dt} (h:IsVal d):Dt.agg [.int (prt5 d).1,.int (prt5 d).2.1,.str (prt5 d).2.2.1,.lst (prt5 d).2.2.2.1,.lst (prt5 d).2.2.2.2]=d:=by
 obtain⟨k,i,t,l,ds,rfl⟩:=h
 rfl
theorem WV.isVal {d:Dt} (h:WV d):IsVal d:=by
 cases h with
 |mk hl hd=>exact⟨_,_,_,_,_,rfl⟩
theorem path_clone_l1' (m:Nat) (self:Dt→Option (Int×Int×ByteArray×List Dt×List Dt)) (l:List Dt) (hl:l.length<9223372036854775807) (hs:∀e∈l,IsVal e∧self e=some (prt5 e)) (z x3 x4:Dt) (x5 x6:Int) (x7:ByteArray) (x9:List Dt):∀(M i:Nat),i≤l.length→l.length-i<M→
  path_clone_l1 m self M l (l.length:Int) (i:Int) x3 x4 x5 x6 x7 (l.take i++List.replicate (l.length-i) z) x9=path_clone_j4 m self x3 x4 x5 x6 x7 l x9
 |0,i,_,h=>by omega
 |M+1,i,hi,h=>by
  simp only[path_clone_l1,dlt]
  by_cases hlt:i<l.length
  ·have hx:i<(l.take i++List.replicate (l.length-i) z).length:=by rw[row_len l z i hi];exact hlt
   obtain⟨e1,e2⟩:=hs _ (List.getElem_mem hlt)
   simp only[hlt,decide_true,cond_true,path_clone_j2,path_clone_j3,idx_lt hlt,Option.bind_some,e2,prt5_back e1,inL_lt hx,Int.toNat_natCast,List.getElem?_eq_getElem hx,set_step l z i hlt,wrapS (show i<9223372036854775807 by omega)]
   exact path_clone_l1' m self l hl hs z x3 x4 x5 x6 x7 x9 M (i+1) (by omega) (by omega)
  ·have e:i=l.length:=by omega
   subst e
   simp
theorem path_clone_l6' (m:Nat) (self:Dt→Option (Int×Int×ByteArray×List Dt×List Dt)) (l:List Dt) (hl:l.length<9223372036854775807) (hf:∀f∈l,∃s v,f= .agg [.str s,v]∧IsVal v∧self v=some (prt5 v)) (z x3:Dt) (x4 x5:Int) (x6:ByteArray) (x7:List Dt):∀(M i:Nat),i≤l.length→l.length-i<M→
  path_clone_l6 m self M l (l.length:Int) (i:Int) x3 x4 x5 x6 x7 (l.take i++List.replicate (l.length-i) z)=some (x4,x5,x6,x7,l)
 |0,i,_,h=>by omega
 |M+1,i,hi,h=>by
  simp only[path_clone_l6,dlt]
  by_cases hlt:i<l.length
  ·have hx:i<(l.take i++List.replicate (l.length-i) z).length:=by rw[row_len l z i hi];exact hlt
   obtain⟨s,v,e1,e2,e3⟩:=hf _ (List.getElem_mem hlt)
   have e5:Dt.agg [.str (Dt.S l[i] 0),v]=l[i]:=by rw[e1];rfl
   have e4:Dt.fld l[i] 1=v:=by rw[e1];rfl
   simp only[hlt,decide_true,cond_true,path_clone_j7,path_clone_j8,idx_lt hlt,Option.bind_some,e4,e3,prt5_back e2,e5,inL_lt hx,Int.toNat_natCast,List.getElem?_eq_getElem hx,set_step l z i hlt,wrapS (show i<9223372036854775807 by omega)]
   exact path_clone_l6' m self l hl hf z x3 x4 x5 x6 x7 M (i+1) (by omega) (by omega)
  ·have e:i=l.length:=by omega
   subst e
   simp[path_clone_j9]
theorem path_clone_j4' (m:Nat) (self:Dt→Option (Int×Int×ByteArray×List Dt×List Dt)) (d x4:Dt) (x5 x6:Int) (x7:ByteArray) (x8:List Dt) (hm:(Dt.L d 4).length≤m) (hl:(Dt.L d 4).length≤137438953472) (hf:∀f∈Dt.L d 4,∃s v,f= .agg [.str s,v]∧IsVal v∧self v=some (prt5 v)):
  path_clone_j4 m self d x4 x5 x6 x7 x8 []=some (x5,x6,x7,x8,Dt.L d 4):=by
 unfold path_clone_j4
 by_cases h0:0<(Dt.L d 4).length
 ·have e0:decide ((0:Int)<(((Dt.L d 4).length:Nat):Int))=true:=by simp;omega
  rw[e0]
  simp only[cond_true]
  rw[mkL_nat hl,Option.bind_some]
  have key:=fun z=>path_clone_l6' m self (Dt.L d 4) (by omega) hf z x4 x5 x6 x7 x8 (Nat.succ m) 0 (by omega) (by omega)
  simp only[List.take_zero,List.nil_append,Nat.sub_zero] at key
  exact key _
 ·have e0:decide ((0:Int)<(((Dt.L d 4).length:Nat):Int))=false:=by rw[decide_eq_false_iff_not];omega
  have e1:Dt.L d 4=[]:=List.length_eq_zero_iff.1 (by omega)
  rw[e0,e1]
  rfl
theorem path_clone_cp:∀(N:Nat) (d:Dt),d.bulk≤N→N≤137438953472→WV d→∀m,N≤m→path_clone (m+1) d=some (prt5 d)
 |0,d,h,_,_,_,_=>by have:=bulk_pos d;omega
 |N +   1,d,h,hN,hw,m,hm=>by
  cases hw with
  | @mk   k i t l ds hl hd=>
    rw[bulk_val] at h
    obtain⟨m,rfl⟩:∃q,m=q+1:=⟨m-1,by omega⟩
    have hself:∀e∈l,IsVal e∧path_clone (m+1) e=some (prt5 e):=fun e he=>⟨(hl e he).isVal,path_clone_cp N e (by have:=bulk_mem he;omega) (by omega) (hl e he) m (by omega)⟩
    have hfld:∀f∈ds,∃s v,f= .agg [.str s,v]∧IsVal v∧path_clone (m+1) v=some (prt5 v):=fun f hf=>by
        have hb:=bulk_mem hf
        cases hd f hf with
        | @mk s v hv=>
          rw[bulk_fld] at hb
          exact⟨s,v,rfl,hv.isVal,path_clone_cp N v (by omega) (by omega) hv m (by omega)⟩
    have hl1:=len_bulk l
    have hd1:=len_bulk ds
    have key4:=fun(x4:Dt) (x8:List Dt)=>path_clone_j4' (m+1) (path_clone (m+1)) (.agg [.int k,.int i,.str t,.lst l,.lst ds]) x4 k i t x8 (show ds.length≤m+1 by omega) (show ds.length≤137438953472 by omega) hfld
    show (bif (decide ((0:Int)<((l.length:Nat):Int))) then _ else _)=_
    by_cases h0:0<l.length
    ·   have e0:decide ((0:Int)<((l.length:Nat):Int))=true:=by simp;omega
        have key:=fun(x3 x4:Dt) (z:Dt)=>path_clone_l1' (m+1) (path_clone (m+1)) l (by omega) hself z x3 x4 k i t [] (m+2) 0 (by omega) (by omega)
        simp only[List.take_zero,List.nil_append,Nat.sub_zero] at key
        rw[e0]
        simp only[cond_true]
        show Option.bind (mkL ((l.length:Nat):Int) ((l.length:Nat):Int) _) _=_
        rw[mkL_nat (by omega),Option.bind_some]
        show path_clone_l1 (m+1) (path_clone (m+1)) (m+2) l ((l.length:Nat):Int) ((0:Nat):Int) _ _ k i t _ _=_
        rw[key,key4]
        rfl
    ·   have e0:decide ((0:Int)<((l.length:Nat):Int))=false:=by rw[decide_eq_false_iff_not];omega
        have e3:l=[]:=List.length_eq_zero_iff.1 (by omega)
        rw[e0]
        simp only[cond_false]
        show path_clone_j4 (m+1) (path_clone (m+1)) _ _ k i t [] []=_
        rw[key4,e3]
        rfl
theorem value_clone_l1' (m:Nat) (self:Dt→Option (Int×Int×ByteArray×List Dt×List Dt)) (l:List Dt) (hl:l.length<9223372036854775807) (hs:∀e∈l,IsVal e∧self e=some (prt5 e)) (z x3 x4:Dt) (x5 x6:Int) (x7:ByteArray) (x9:List Dt):∀(M i:Nat),i≤l.length→l.length-i<M→
  value_clone_l1 m self M l (l.length:Int) (i:Int) x3 x4 x5 x6 x7 (l.take i++List.replicate (l.length-i) z) x9=value_clone_j4 m self x3 x4 x5 x6 x7 l x9
 |0,i,_,h=>by omega
 |M+1,i,hi,h=>by
  simp only[value_clone_l1,dlt]
  by_cases hlt:i<l.length
  ·have hx:i<(l.take i++List.replicate (l.length-i) z).length:=by rw[row_len l z i hi];exact hlt
   obtain⟨e1,e2⟩:=hs _ (List.getElem_mem hlt)
   simp only[hlt,decide_true,cond_true,value_clone_j2,value_clone_j3,idx_lt hlt,Option.bind_some,e2,prt5_back e1,inL_lt hx,Int.toNat_natCast,List.getElem?_eq_getElem hx,set_step l z i hlt,wrapS (show i<9223372036854775807 by omega)]
   exact value_clone_l1' m self l hl hs z x3 x4 x5 x6 x7 x9 M (i+1) (by omega) (by omega)
  ·have e:i=l.length:=by omega
   subst e
   simp
theorem value_clone_l6' (m:Nat) (self:Dt→Option (Int×Int×ByteArray×List Dt×List Dt)) (l:List Dt) (hl:l.length<9223372036854775807) (hf:∀f∈l,∃s v,f= .agg [.str s,v]∧IsVal v∧self v=some (prt5 v)) (z x3:Dt) (x4 x5:Int) (x6:ByteArray) (x7:List Dt):∀(M i:Nat),i≤l.length→l.length-i<M→
  value_clone_l6 m self M l (l.length:Int) (i:Int) x3 x4 x5 x6 x7 (l.take i++List.replicate (l.length-i) z)=some (x4,x5,x6,x7,l)
 |0,i,_,h=>by omega
 |M+1,i,hi,h=>by
  simp only[value_clone_l6,dlt]
  by_cases hlt:i<l.length
  ·have hx:i<(l.take i++List.replicate (l.length-i) z).length:=by rw[row_len l z i hi];exact hlt
   obtain⟨s,v,e1,e2,e3⟩:=hf _ (List.getElem_mem hlt)
   have e5:Dt.agg [.str (Dt.S l[i] 0),v]=l[i]:=by rw[e1];rfl
   have e4:Dt.fld l[i] 1=v:=by rw[e1];rfl
   simp only[hlt,decide_true,cond_true,value_clone_j7,value_clone_j8,idx_lt hlt,Option.bind_some,e4,e3,prt5_back e2,e5,inL_lt hx,Int.toNat_natCast,List.getElem?_eq_getElem hx,set_step l z i hlt,wrapS (show i<9223372036854775807 by omega)]
   exact value_clone_l6' m self l hl hf z x3 x4 x5 x6 x7 M (i+1) (by omega) (by omega)
  ·have e:i=l.length:=by omega
   subst e
   simp[value_clone_j9]
theorem value_clone_j4' (m:Nat) (self:Dt→Option (Int×Int×ByteArray×List Dt×List Dt)) (d x4:Dt) (x5 x6:Int) (x7:ByteArray) (x8:List Dt) (hm:(Dt.L d 4).length≤m) (hl:(Dt.L d 4).length≤137438953472) (hf:∀f∈Dt.L d 4,∃s v,f= .agg [.str s,v]∧IsVal v∧self v=some (prt5 v)):
  value_clone_j4 m self d x4 x5 x6 x7 x8 []=some (x5,x6,x7,x8,Dt.L d 4):=by
 unfold value_clone_j4
 by_cases h0:0<(Dt.L d 4).length
 ·have e0:decide ((0:Int)<(((Dt.L d 4).length:Nat):Int))=true:=by simp;omega
  rw[e0]
  simp only[cond_true]
  rw[mkL_nat hl,Option.bind_some]
  have key:=fun z=>value_clone_l6' m self (Dt.L d 4) (by omega) hf z x4 x5 x6 x7 x8 (Nat.succ m) 0 (by omega) (by omega)
  simp only[List.take_zero,List.nil_append,Nat.sub_zero] at key
  exact key _
 ·have e0:decide ((0:Int)<(((Dt.L d 4).length:Nat):Int))=false:=by rw[decide_eq_false_iff_not];omega
  have e1:Dt.L d 4=[]:=List.length_eq_zero_iff.1 (by omega)
  rw[e0,e1]
  rfl
theorem value_clone_cp:∀(N:Nat) (d:Dt),d.bulk≤N→N≤137438953472→WV d→∀m,N≤m→value_clone (m+1) d=some (prt5 d)
 |0,d,h,_,_,_,_=>by have:=bulk_pos d;omega
 |N +   1,d,h,hN,hw,m,hm=>by
  cases hw with
  | @mk   k i t l ds hl hd=>
    rw[bulk_val] at h
    obtain⟨m,rfl⟩:∃q,m=q+1:=⟨m-1,by omega⟩
    have hself:∀e∈l,IsVal e∧value_clone (m+1) e=some (prt5 e):=fun e he=>⟨(hl e he).isVal,value_clone_cp N e (by have:=bulk_mem he;omega) (by omega) (hl e he) m (by omega)⟩
    have hfld:∀f∈ds,∃s v,f= .agg [.str s,v]∧IsVal v∧value_clone (m+1) v=some (prt5 v):=fun f hf=>by
        have hb:=bulk_mem hf
        cases hd f hf with
        | @mk s v hv=>
          rw[bulk_fld] at hb
          exact⟨s,v,rfl,hv.isVal,value_clone_cp N v (by omega) (by omega) hv m (by omega)⟩
    have hl1:=len_bulk l
    have hd1:=len_bulk ds
    have key4:=fun(x4:Dt) (x8:List Dt)=>value_clone_j4' (m+1) (value_clone (m+1)) (.agg [.int k,.int i,.str t,.lst l,.lst ds]) x4 k i t x8 (show ds.length≤m+1 by omega) (show ds.length≤137438953472 by omega) hfld
    show (bif (decide ((0:Int)<((l.length:Nat):Int))) then _ else _)=_
    by_cases h0:0<l.length
    ·   have e0:decide ((0:Int)<((l.length:Nat):Int))=true:=by simp;omega
        have key:=fun(x3 x4:Dt) (z:Dt)=>value_clone_l1' (m+1) (value_clone (m+1)) l (by omega) hself z x3 x4 k i t [] (m+2) 0 (by omega) (by omega)
        simp only[List.take_zero,List.nil_append,Nat.sub_zero] at key
        rw[e0]
        simp only[cond_true]
        show Option.bind (mkL ((l.length:Nat):Int) ((l.length:Nat):Int) _) _=_
        rw[mkL_nat (by omega),Option.bind_some]
        show value_clone_l1 (m+1) (value_clone (m+1)) (m+2) l ((l.length:Nat):Int) ((0:Nat):Int) _ _ k i t _ _=_
        rw[key,key4]
        rfl
    ·   have e0:decide ((0:Int)<((l.length:Nat):Int))=false:=by rw[decide_eq_false_iff_not];omega
        have e3:l=[]:=List.length_eq_zero_iff.1 (by omega)
        rw[e0]
        simp only[cond_false]
        show value_clone_j4 (m+1) (value_clone (m+1)) _ _ k i t [] []=_
        rw[key4,e3]
        rfl
end Go.Proofs.YtameompfdamfpaaGreatDoor
namespace Go.Proofs.YtameompfdamfpaaGreatDoor
open Go.Am
theorem app_one {l:List Dt} {x:Dt} (h:l.length<137438953472):app l [x]=some (l++[x]):=by
 unfold app
 rw[if_pos (by simp;omega)]
theorem take_snoc {l:List Dt} {i:Nat} (h:i<l.length):l.take i++[l[i]]=l.take (i+1):=by rw[List.take_add_one,List.getElem?_eq_getElem h];rfl
theorem rcopy_l1 (m:Nat) (self:Dt→Option Dt) (l:List Dt) (hl:l.length≤137438953472) (hs:∀e∈l,self e=some e) (x3 x4:Dt) (x5 x6:Int) (x7:ByteArray) (x9:List Dt):∀(M i:Nat),i≤l.length→l.length-i<M→
  reshape_copyValue_l1 m self M l (l.length:Int) (i:Int) x3 x4 x5 x6 x7 (l.take i) x9=reshape_copyValue_j4 m self x3 x4 x5 x6 x7 l x9
 |0,i,_,h=>by omega
 |M+1,i,hi,h=>by
  simp only[reshape_copyValue_l1,dlt]
  by_cases hlt:i<l.length
  ·have hx:(l.take i).length<137438953472:=by rw[List.length_take];omega
   simp only[hlt,decide_true,cond_true,reshape_copyValue_j2,reshape_copyValue_j3,idx_lt hlt,Option.bind_some,hs _ (List.getElem_mem hlt),app_one hx,take_snoc hlt,wrapS (show i<9223372036854775807 by omega)]
   exact rcopy_l1 m self l hl hs x3 x4 x5 x6 x7 x9 M (i+1) (by omega) (by omega)
  ·have e:i=l.length:=by omega
   subst e
   simp
theorem rcopy_l6 (m:Nat) (self:Dt→Option Dt) (l:List Dt) (hl:l.length≤137438953472) (hf:∀f∈l,∃s v,f= .agg [.str s,v]∧self v=some v) (x3:Dt) (x4 x5:Int) (x6:ByteArray) (x7:List Dt):∀(M i:Nat),i≤l.length→l.length-i<M→
  reshape_copyValue_l6 m self M l (l.length:Int) (i:Int) x3 x4 x5 x6 x7 (l.take i)=some (.agg [.int x4,.int x5,.str x6,.lst x7,.lst l])
 |0,i,_,h=>by omega
 |M+1,i,hi,h=>by
  simp only[reshape_copyValue_l6,dlt]
  by_cases hlt:i<l.length
  ·have hx:(l.take i).length<137438953472:=by rw[List.length_take];omega
   obtain⟨s,v,e1,e2⟩:=hf _ (List.getElem_mem hlt)
   have e5:Dt.agg [.str (Dt.S l[i] 0),v]=l[i]:=by rw[e1];rfl
   have e4:Dt.fld l[i] 1=v:=by rw[e1];rfl
   simp only[hlt,decide_true,cond_true,reshape_copyValue_j7,reshape_copyValue_j8,idx_lt hlt,Option.bind_some,e4,e2,e5,app_one hx,take_snoc hlt,wrapS (show i<9223372036854775807 by omega)]
   exact rcopy_l6 m self l hl hf x3 x4 x5 x6 x7 M (i+1) (by omega) (by omega)
  ·have e:i=l.length:=by omega
   subst e
   simp[reshape_copyValue_j9]
theorem rcopy_eq:∀(N:Nat) (d:Dt),d.bulk≤N→N≤137438953472→WV d→∀m,N≤m→reshape_copyValue (m+1) d=some d
 |0,d,h,_,_,_,_=>by have:=bulk_pos d;omega
 |N +   1,d,h,hN,hw,m,hm=>by
  cases hw with
  | @mk   k i t l ds hl hd=>
    rw[bulk_val] at h
    obtain⟨m,rfl⟩:∃q,m=q+1:=⟨m-1,by omega⟩
    have hself:∀e∈l,reshape_copyValue (m+1) e=some e:=fun e he=>rcopy_eq N e (by have:=bulk_mem he;omega) (by omega) (hl e he) m (by omega)
    have hfld:∀f∈ds,∃s v,f= .agg [.str s,v]∧reshape_copyValue (m+1) v=some v:=fun f hf=>by
        have hb:=bulk_mem hf
        cases hd f hf with
        | @mk s v hv=>
          rw[bulk_fld] at hb
          exact⟨s,v,rfl,rcopy_eq N v (by omega) (by omega) hv m (by omega)⟩
    have hl1:=len_bulk l
    have hd1:=len_bulk ds
    have key:=fun(x3 x4:Dt)=>rcopy_l1 (m+1) (reshape_copyValue (m+1)) l (by omega) hself x3 x4 k i t [] (m+2) 0 (by omega) (by omega)
    have key6:=fun(x3:Dt) (x7:List Dt)=>rcopy_l6 (m+1) (reshape_copyValue (m+1)) ds (by omega) hfld x3 k i t x7 (m+2) 0 (by omega) (by omega)
    simp only[List.take_zero] at key key6
    show reshape_copyValue_l1 (m+1) (reshape_copyValue (m+1)) (m+2) l ((l.length:Nat):Int) ((0:Nat):Int) _ _ k i t [] []=_
    rw[key]
    exact key6 _ _
end Go.Proofs.YtameompfdamfpaaGreatDoor
namespace Go.Proofs.YtameompfdamfpaaGreatDoor
open Go.Am
def fi (s:ByteArray):List Dt→Option Nat
 | []=>none
 |f::r=>bif ByteArray.toList (Dt.S f 0)==ByteArray.toList s then some 0 else(fi s r).map (· +1)
def oI (i:Nat):Option Nat→Int
 |some k=>((i+k:Nat):Int)
 |none=> -1
theorem oI_map (i:Nat) (o:Option Nat):oI i (o.map (· +1))=oI (i+1) o:=by cases o<;>simp[oI];omega
theorem fi_lt {s:ByteArray}:∀{L:List Dt} {k:Nat},fi s L=some k→k<L.length
 | [],k,h=>by cases h
 |f::r,k,h=>by
  rw[fi] at h
  cases hc:(ByteArray.toList (Dt.S f 0)==ByteArray.toList s) with
  |true=>rw[hc] at h;cases h;simp
  |false=>
   rw[hc,cond_false] at h
   cases hr:fi s r with
   |none=>rw[hr] at h;cases h
   |some j=>rw[hr] at h;cases h;have:=fi_lt hr;simp;omega
theorem path_field_fil (m:Nat) (s:ByteArray) (L:List Dt) (hl:L.length<9223372036854775807):∀(M i:Nat),i≤L.length→L.length-i<M→path_field_l1 m M L s (L.length:Int) (i:Int)=some (oI i (fi s (L.drop i)))
 |0,i,_,h=>by omega
 |M+    1,i,hi,h=>by
  simp only[path_field_l1,dlt]
  by_cases hlt:i<L.length
  ·rw[List.drop_eq_getElem_cons hlt]
   simp only[hlt,decide_true,cond_true,path_field_j2,path_field_j3,idx_lt hlt,Option.bind_some,fi,wrapS (show i<9223372036854775807 by omega)]
   cases (ByteArray.toList (Dt.S L[i] 0)==ByteArray.toList s)
   ·    simp only[cond_false]
        rw[path_field_fil m s L hl M (i+1) (by omega) (by omega),oI_map]
   ·simp[oI]
  ·have e:i=L.length:=by omega
   subst e
   simp[path_field_j4,fi,oI]
theorem path_field_fi (m:Nat) (s:ByteArray) (L:List Dt) (hm:L.length≤m) (hm2:m<9223372036854775807):path_field (m+1) L s=some (oI 0 (fi s L)):=by
 have h:=path_field_fil m s L (by omega) (m+1) 0 (Nat.zero_le _) (by omega)
 rw[List.drop_zero] at h
 exact h
def dgs (a:Nat):List UInt8→Option Nat
 | []=>some a
 |c::r=>if 48≤c.toNat∧c.toNat≤57 then dgs (10*a+(c.toNat-48)) r else none
def nu (s:ByteArray):Option Nat:=
 if s.size<1∨4<s.size then none else if(s.data.toList.head?.map (·.toNat))=some 48∧1<s.size then none else dgs 0 s.data.toList
def oP:Option Nat→Int×Bool
 |some k=>((k:Int),true)
 |none=>(0,false)
theorem wrap8 {x:Int} (h0:0≤x) (h1:x<256):IntKind.wrap IntKind.u8 x=x:=by
 unfold IntKind.wrap
 simp only[IntKind.bits,IntKind.signed,Bool.false_and,Bool.false_eq_true,if_false]
 omega
theorem num_wrap {n c:Nat} (hn:n<10000) (h1:48≤c) (h2:c≤57):IntKind.wrap IntKind.i64 ((IntKind.wrap IntKind.i64 ((10:Int)*(n:Int)))+(IntKind.wrap IntKind.i64 (IntKind.wrap IntKind.u8 ((c:Int)-(48:Int)))))=((10*n+(c-48):Nat):Int):=by
 rw[wrap8 (by omega) (by omega),wrap64 (n:=(10:Int)*(n:Int)) (by omega) (by omega),wrap64 (n:=(c:Int)-48) (by omega) (by omega),wrap64 (by omega) (by omega)]
 omega
theorem path_num_l (m:Nat) (s:ByteArray) (hs:s.size≤4):∀(M i n:Nat),i≤s.size→s.size-i<M→n<10^i→path_Number_l3 m M s (n:Int) (s.size:Int) (i:Int)=some (oP (dgs n (s.data.toList.drop i)))
 |0,i,_,_,h,_=>by omega
 |M+    1,i,n,hi,h,hn=>by
  have hp:10^i≤10^4:=Nat.pow_le_pow_right (by omega) (by omega)
  rw[path_Number_l3,dlt]
  by_cases hlt:i<s.size
  ·rw[   getB s i hlt,dgs,decide_eq_true hlt,cond_true,path_Number_j4,idxS_lt hlt,Option.bind_some]
   by_cases h48:s[i].toNat<48
   ·    rw[decide_eq_true (show ((s[i].toNat:Nat):Int)<48 by omega),if_neg (by omega)]
        rfl
   ·    rw[decide_eq_false (show ¬((s[i].toNat:Nat):Int)<48 by omega),cond_false,Option.bind_some]
        by_cases h57:57<s[i].toNat
        ·rw[decide_eq_true (show (57:Int)<((s[i].toNat:Nat):Int) by omega),if_neg (by omega)]
         rfl
        ·have e1:(10:Nat)^(i+1)=10*10^i:=by rw[Nat.pow_succ];omega
         rw[if_pos (by omega),decide_eq_false (show ¬(57:Int)<((s[i].toNat:Nat):Int) by omega),path_Number_j5,cond_false,path_Number_j6,idxS_lt hlt,Option.bind_some,num_wrap (by omega) (by omega) (by omega),path_Number_j7,wrapS (by omega)]
         exact path_num_l m s hs M (i+1) _ (by omega) (by omega) (by omega)
  ·have e:i=s.size:=by omega
   subst e
   rw[decide_eq_false hlt,List.drop_eq_nil_of_le (by rw[lenB];omega)]
   rfl
theorem ref_num_l (m:Nat) (s:ByteArray) (hs:s.size≤4):∀(M i n:Nat),i≤s.size→s.size-i<M→n<10^i→ref04_Number_l3 m M s (n:Int) (i:Int)=some (oP (dgs n (s.data.toList.drop i)))
 |0,i,_,_,h,_=>by omega
 |M+    1,i,n,hi,h,hn=>by
  have hp:10^i≤10^4:=Nat.pow_le_pow_right (by omega) (by omega)
  rw[ref04_Number_l3,dlt]
  by_cases hlt:i<s.size
  ·rw[   getB s i hlt,dgs,decide_eq_true hlt,cond_true,ref04_Number_j4,idxS_lt hlt,Option.bind_some]
   by_cases h48:s[i].toNat<48
   ·    rw[decide_eq_true (show ((s[i].toNat:Nat):Int)<48 by omega),if_neg (by omega)]
        rfl
   ·    rw[decide_eq_false (show ¬((s[i].toNat:Nat):Int)<48 by omega),cond_false,Option.bind_some]
        by_cases h57:57<s[i].toNat
        ·rw[decide_eq_true (show (57:Int)<((s[i].toNat:Nat):Int) by omega),if_neg (by omega)]
         rfl
        ·have e1:(10:Nat)^(i+1)=10*10^i:=by rw[Nat.pow_succ];omega
         rw[if_pos (by omega),decide_eq_false (show ¬(57:Int)<((s[i].toNat:Nat):Int) by omega),ref04_Number_j5,cond_false,ref04_Number_j6,idxS_lt hlt,Option.bind_some,Int.mul_comm ((n:Nat):Int) (10:Int),num_wrap (by omega) (by omega) (by omega),ref04_Number_j7,wrapS (by omega)]
         exact ref_num_l m s hs M (i+1) _ (by omega) (by omega) (by omega)
  ·have e:i=s.size:=by omega
   subst e
   rw[decide_eq_false hlt,List.drop_eq_nil_of_le (by rw[lenB];omega)]
   rfl
theorem head_nu (s:ByteArray) (h:0<s.size):s.data.toList.head?.map (·.toNat)=some s[0].toNat:=by
 have:=getB s 0 h
 rw[List.drop_zero] at this
 rw[this]
 rfl
theorem path_num (m:Nat) (hm:4≤m) (s:ByteArray):path_Number (m+1) s=some (oP (nu s)):=by
 rw[path_Number,nu]
 by_cases h1:s.size<1
 ·rw[decide_eq_true (show ((s.size:Nat):Int)<1 by omega),cond_true,if_pos (.inl h1)]
  rfl
 rw[decide_eq_false (show ¬((s.size:Nat):Int)<1 by omega),cond_false]
 by_cases h4:4<s.size
 ·rw[decide_eq_true (show (4:Int)<((s.size:Nat):Int) by omega),cond_true,if_pos (.inr h4)]
  rfl
 have hi:idxS s (0:Int)=some ((s[0]).toNat:Int):=idxS_lt (i:=0) (by omega)
 have good:path_Number_j0 m s false=some (oP (dgs 0 s.data.toList)):=path_num_l m s (by omega) (m+1) 0 0 (Nat.zero_le _) (by omega) (by decide)
 rw[decide_eq_false (show ¬(4:Int)<((s.size:Nat):Int) by omega),cond_false,hi,Option.bind_some,if_neg (by omega),head_nu s (by omega)]
 by_cases h48:(s[0]).toNat=48
 ·have e:(((s[0]).toNat:Int)==48)=true:=by rw[h48];rfl
  rw[e,cond_true]
  by_cases h2:1<s.size
  ·rw[decide_eq_true (show (1:Int)<((s.size:Nat):Int) by omega),if_pos ⟨by rw[h48],h2⟩]
   rfl
  ·rw[decide_eq_false (show ¬(1:Int)<((s.size:Nat):Int) by omega),if_neg (by omega)]
   exact good
 ·have e:(((s[0]).toNat:Int)==48)=false:=by rw[beq_eq_false_iff_ne];omega
  rw[e,cond_false,if_neg (by rintro⟨h,_⟩;exact h48 (Option.some.inj h))]
  exact good
theorem ref_num (m:Nat) (hm:4≤m) (s:ByteArray):ref04_Number (m+1) s=some (oP (nu s)):=by
 rw[ref04_Number,nu]
 by_cases h1:s.size<1
 ·rw[decide_eq_true (show ((s.size:Nat):Int)<1 by omega),cond_true,if_pos (.inl h1)]
  rfl
 rw[decide_eq_false (show ¬((s.size:Nat):Int)<1 by omega),cond_false]
 by_cases h4:4<s.size
 ·rw[decide_eq_true (show (4:Int)<((s.size:Nat):Int) by omega),cond_true,if_pos (.inr h4)]
  rfl
 have hi:idxS s (0:Int)=some ((s[0]).toNat:Int):=idxS_lt (i:=0) (by omega)
 have good:ref04_Number_j0 m s false=some (oP (dgs 0 s.data.toList)):=ref_num_l m s (by omega) (m+1) 0 0 (Nat.zero_le _) (by omega) (by decide)
 rw[decide_eq_false (show ¬(4:Int)<((s.size:Nat):Int) by omega),cond_false,hi,Option.bind_some,if_neg (by omega),head_nu s (by omega)]
 by_cases h48:(s[0]).toNat=48
 ·have e:(((s[0]).toNat:Int)==48)=true:=by rw[h48];rfl
  rw[e,cond_true]
  by_cases h2:1<s.size
  ·rw[decide_eq_true (show (1:Int)<((s.size:Nat):Int) by omega),if_pos ⟨by rw[h48],h2⟩]
   rfl
  ·rw[decide_eq_false (show ¬(1:Int)<((s.size:Nat):Int) by omega),if_neg (by omega)]
   exact good
 ·have e:(((s[0]).toNat:Int)==48)=false:=by rw[beq_eq_false_iff_ne];omega
  rw[e,cond_false,if_neg (by rintro⟨h,_⟩;exact h48 (Option.some.inj h))]
  exact good
theorem dgs_lt:∀{l:List UInt8} {a n k:Nat},dgs a l=some n→a<10^k→n<10^(k+l.length)
 | [],a,n,k,h,ha=>by cases h;simpa using ha
 |c::r,a,n,k,h,ha=>by
  rw[dgs] at h
  split at h
  ·have:=dgs_lt (k:=k+1) h (by rw[Nat.pow_succ];omega)
   rw[List.length_cons,show k+(r.length+1)=k+1+r.length by omega]
   exact this
  ·cases h
theorem nu_lt {s:ByteArray} {n:Nat} (h:nu s=some n):n<10000:=by
 unfold nu at h
 split at h
 ·cases h
 ·rename_i hs
  split at h
  ·cases h
  ·have:=dgs_lt (k:=0) h (by decide)
   rw[Nat.zero_add,lenB] at this
   have:10^s.size≤10^4:=Nat.pow_le_pow_right (by omega) (by omega)
   omega
def mkV (v:Dt) (l fs:List Dt):Dt:= .agg [.int (Dt.I v 0),.int (Dt.I v 1),.str (Dt.S v 2),.lst l,.lst fs]
def chF (v:Dt) (k:Nat):Dt:=Dt.fld ((Dt.L v 4).getD k (.int 0)) 1
def setF (v:Dt) (k:Nat) (c:Dt):Dt:=mkV v (Dt.L v 3) ((Dt.L v 4).set k (.agg [.str (Dt.S ((Dt.L v 4).getD k (.int 0)) 0),c]))
def addF (v:Dt) (s:ByteArray) (c:Dt):Dt:=mkV v (Dt.L v 3) (Dt.L v 4++[.agg [.str s,c]])
theorem oI0 (k:Nat):oI 0 (some k)=(k:Int):=by simp[oI]
theorem getD_lt {l:List Dt} {k:Nat} {z:Dt} (h:k<l.length):l.getD k z=l[k]:=by rw[List.getD,List.getElem?_eq_getElem h];rfl
theorem wv6 {d:Dt} (hw:WV d):6≤d.bulk:=by cases hw with|mk hl hd=>rw[bulk_val];omega
theorem wv_mkV {d:Dt} (hw:WV d):mkV d (Dt.L d 3) (Dt.L d 4)=d:=by cases hw with|mk hl hd=>rfl
theorem ch_F {v:Dt} (hw:WV v) {k:Nat} (hk:k<(Dt.L v 4).length):chF v k=Dt.fld (Dt.L v 4)[k] 1∧WV (chF v k)∧(chF v k).bulk<v.bulk:=by
 have e:chF v k=Dt.fld (Dt.L v 4)[k] 1:=by unfold chF;rw[getD_lt hk]
 rw[e]
 exact⟨rfl,(wv_parts hw).2.2.2 _ (List.getElem_mem hk)⟩
theorem b5 {k:Int} (h:k=5):(k==5)=true∧(k !=5)=false:=by subst h;exact⟨rfl,rfl⟩
theorem b5n {k:Int} (h:k≠5):(k==5)=false∧(k !=5)=true:=by simp[h]
theorem b6 {k:Int} (h:k=6):(k==5)=false∧(k !=5)=true∧(k==6)=true∧(k !=6)=false:=by subst h;exact⟨rfl,rfl,rfl,rfl⟩
theorem b6n {k:Int} (h:k≠6):(k==6)=false∧(k !=6)=true:=by simp[h]
theorem dn1:decide ((0:Int)≤ -1)=false:=rfl
theorem dn2:decide ((-1:Int)<0)=true:=rfl
theorem dp1 (k:Nat):decide ((0:Int)≤(k:Int))=true:=decide_eq_true (by omega)
theorem dp2 (k:Nat):decide ((k:Int)<0)=false:=decide_eq_false (by omega)
theorem oIn:oI 0 none= -1:=rfl
theorem oP1 (n:Nat):oP (some n)=((n:Int),true):=rfl
theorem oPn:oP none=(0,false):=rfl
theorem at_l (m:Nat) (s:ByteArray) (v:Dt) (hl:(Dt.L v 4).length<9223372036854775807):∀(M i:Nat),i≤(Dt.L v 4).length→(Dt.L v 4).length-i<M→ref01_at_l2 m M s (i:Int) v=some (oI i (fi s ((Dt.L v 4).drop i)))
 |0,i,_,h=>by omega
 |M+    1,i,hi,h=>by
  simp only[ref01_at_l2,dlt]
  by_cases hlt:i<(Dt.L v 4).length
  ·rw[List.drop_eq_getElem_cons hlt]
   simp only[hlt,decide_true,cond_true,ref01_at_j3,ref01_at_j4,idx_lt hlt,Option.bind_some,fi,wrapS (show i<9223372036854775807 by omega)]
   cases (ByteArray.toList (Dt.S (Dt.L v 4)[i] 0)==ByteArray.toList s)
   ·    simp only[cond_false]
        rw[at_l m s v hl M (i+1) (by omega) (by omega),oI_map]
   ·simp[oI]
  ·have e:i=(Dt.L v 4).length:=by omega
   rw[e,List.drop_length]
   simp[ref01_at_j5,fi,oI]
theorem at_eq (m:Nat) (s:ByteArray) (v:Dt) (h5:Dt.I v 0=5) (hm:(Dt.L v 4).length≤m) (hm2:m<9223372036854775807):ref01_at (m+1) v s=some (oI 0 (fi s (Dt.L v 4))):=by
 have h:=at_l m s v (by omega) (m+1) 0 (Nat.zero_le _) (by omega)
 rw[List.drop_zero] at h
 rw[ref01_at,(b5 h5).2,cond_false]
 exact h
theorem wv_L {v:Dt} (hw:WV v):(∀e∈Dt.L v 3,WV e)∧(∀f∈Dt.L v 4,WF f)∧v.bulk=Dt.bulkL (Dt.L v 3)+Dt.bulkL (Dt.L v 4)+((Dt.S v 2).size+6):=by
 cases hw with
 |mk hl hd=>exact⟨hl,hd,bulk_val⟩
theorem wf_at {v:Dt} (hw:WV v) {k:Nat} (hk:k<(Dt.L v 4).length):(Dt.L v 4)[k]= .agg [.str (Dt.S (Dt.L v 4)[k] 0),chF v k]∧(Dt.L v 4)[k].bulk=(chF v k).bulk+(Dt.S (Dt.L v 4)[k] 0).size+2:=by
 have h:=(wv_L hw).2.1 _ (List.getElem_mem hk)
 have hc:=(ch_F hw hk).1
 rw[hc]
 generalize (Dt.L v 4)[k]=f at h
 cases h with
 |mk h=>exact⟨rfl,bulk_fld⟩
theorem mkV_wv (v:Dt) {l fs:List Dt} (hl:∀e∈l,WV e) (hd:∀f∈fs,WF f):WV (mkV v l fs):= .mk hl hd
theorem mkV_bulk (v:Dt) (l fs:List Dt):(mkV v l fs).bulk=Dt.bulkL l+Dt.bulkL fs+((Dt.S v 2).size+6):=bulk_val
theorem bulkL_set:∀{l:List Dt} {k:Nat} (x:Dt) (h:k<l.length),Dt.bulkL (l.set k x)+l[k].bulk=Dt.bulkL l+x.bulk
 |a::r,0,x,h=>by simp only[List.set_cons_zero,Dt.bulkL,List.getElem_cons_zero];omega
 |a::r,k+1,x,h=>by
  have:=bulkL_set x (show k<r.length by simpa using h)
  simp only[List.set_cons_succ,Dt.bulkL,List.getElem_cons_succ];omega
theorem mem_set' {l:List Dt} {k:Nat} {x e:Dt} {Q:Dt→Prop} (h:∀e∈l,Q e) (hx:Q x) (he:e∈l.set k x):Q e:=by
 rcases List.mem_or_eq_of_mem_set he with h'|rfl
 ·exact h _ h'
 ·exact hx
theorem setF_wv {v c:Dt} (hw:WV v) (hc:WV c) (k:Nat):WV (setF v k c):=mkV_wv v (wv_L hw).1 fun _ he=>mem_set' (wv_L hw).2.1 (.mk hc) he
theorem setF_bulk {v c:Dt} (hw:WV v) {k:Nat} (hk:k<(Dt.L v 4).length):(setF v k c).bulk+(chF v k).bulk=v.bulk+c.bulk:=by
 have h1:=bulkL_set (Dt.agg [.str (Dt.S (Dt.L v 4)[k] 0),c]) hk
 have h2:=(wf_at hw hk).2
 rw[bulk_fld] at h1
 rw[setF,mkV_bulk,getD_lt hk,(wv_L hw).2.2]
 omega
theorem set_l (m:Nat) (s:ByteArray) (k:Nat) (v r z:Dt) (hl:(Dt.L v 4).length≤137438953472) (hk:k<(Dt.L v 4).length):∀(M i:Nat) (out:List Dt),i≤(Dt.L v 4).length→(Dt.L v 4).length-i<M→out.length≤i→
  ref01_Set_l2 m M s (k:Int) (i:Int) v r z out=some (mkV v (Dt.L v 3) (out++(if i≤k then((Dt.L v 4).drop i).set (k-i) (.agg [.str (Dt.S (Dt.L v 4)[k] 0),r]) else(Dt.L v 4).drop i)))
 |0,i,_,_,h,_=>by omega
 |M+    1,i,out,hi,h,ho=>by
  simp only[ref01_Set_l2,dlt]
  by_cases hlt:i<(Dt.L v 4).length
  ·rw[   List.drop_eq_getElem_cons hlt]
   have ha:∀e:Dt,app out [e]=some (out++[e]):=fun e=>app_le (by simp;omega)
   simp only[hlt,decide_true,cond_true,ref01_Set_j3,ref01_Set_j4,ref01_Set_j5,idx_lt hlt,Option.bind_some,wrapS (show i<9223372036854775807 by omega),ha]
   by_cases hik:i=k
   ·    subst hik
        rw[show ((i:Int)==(i:Int))=true by simp,cond_true,set_l m s i v r z hl hk M (i+1) _ (by omega) (by omega) (by simp;omega),if_neg (by omega),if_pos (Nat.le_refl _),Nat.sub_self,List.set_cons_zero]
        simp
   ·    rw[show ((i:Int)==(k:Int))=false by simp;omega,cond_false,set_l m s k v r z hl hk M (i+1) _ (by omega) (by omega) (by simp;omega)]
        by_cases hik':i≤k
        ·rw[if_pos hik',if_pos (by omega),show k-i=(k-(i+1))+1 by omega,List.set_cons_succ]
         simp
        ·rw[if_neg hik',if_neg (by omega)]
         simp
  ·have e:i=(Dt.L v 4).length:=by omega
   rw[e,List.drop_length]
   simp only[Nat.lt_irrefl,decide_false,cond_false,ref01_Set_j6,dp2,ref01_Set_j7]
   split<;>simp[mkV]
theorem set_ln (m:Nat) (s:ByteArray) (v r z:Dt) (hl:(Dt.L v 4).length<137438953472):∀(M i:Nat) (out:List Dt),i≤(Dt.L v 4).length→(Dt.L v 4).length-i<M→out.length≤i→
  ref01_Set_l2 m M s (-1) (i:Int) v r z out=some (mkV v (Dt.L v 3) (out++(Dt.L v 4).drop i++[.agg [.str s,r]]))
 |0,i,_,_,h,_=>by omega
 |M+1,i,out,hi,h,ho=>by
  simp only[ref01_Set_l2,dlt]
  by_cases hlt:i<(Dt.L v 4).length
  ·rw[List.drop_eq_getElem_cons hlt]
   have ha:∀e:Dt,app out [e]=some (out++[e]):=fun e=>app_le (by simp;omega)
   simp only[hlt,decide_true,cond_true,ref01_Set_j3,ref01_Set_j4,ref01_Set_j5,idx_lt hlt,Option.bind_some,wrapS (show i<9223372036854775807 by omega),ha]
   rw[show ((i:Int)==(-1:Int))=false by rw[beq_eq_false_iff_ne];omega,cond_false,set_ln m s v r z hl M (i+1) _ (by omega) (by omega) (by simp;omega)]
   simp
  ·have e:i=(Dt.L v 4).length:=by omega
   rw[e,List.drop_length]
   simp only[Nat.lt_irrefl,decide_false,cond_false,ref01_Set_j6,dn2,cond_true,app_le (show out.length+[Dt.agg [.str s,r]].length≤137438953472 by simp;omega),Option.bind_some,ref01_Set_j7]
   simp[mkV]
theorem set_some (m:Nat) (s:ByteArray) (v r:Dt) (k:Nat) (h5:Dt.I v 0=5) (hm:v.bulk≤m) (hb:v.bulk≤137438953472) (hm2:m<9223372036854775807) (h:fi s (Dt.L v 4)=some k):ref01_Set (m+2) v s r=some (setF v k r):=by
 have hn:=L_len v 4
 have hk:=fi_lt h
 rw[ref01_Set,(b5 h5).2,cond_false,ref01_Set_j0,at_eq m s v h5 (by omega) hm2,h,oI0,Option.bind_some]
 have:=set_l (m+1) s k v r kza2373 (by omega) hk (m+2) 0 [] (Nat.zero_le _) (by omega) (Nat.zero_le _)
 rw[List.drop_zero,if_pos (Nat.zero_le _),Nat.sub_zero,List.nil_append] at this
 rw[setF,getD_lt hk]
 exact this
theorem set_none (m:Nat) (s:ByteArray) (v r:Dt) (h5:Dt.I v 0=5) (hm:v.bulk≤m) (hb:v.bulk≤137438953472) (hm2:m<9223372036854775807) (h:fi s (Dt.L v 4)=none):ref01_Set (m+2) v s r=some (addF v s r):=by
 have hn:=L_len v 4
 rw[ref01_Set,(b5 h5).2,cond_false,ref01_Set_j0,at_eq m s v h5 (by omega) hm2,h,oIn,Option.bind_some]
 have:=set_ln (m+1) s v r kza2373 (by omega) (m+2) 0 [] (Nat.zero_le _) (by omega) (Nat.zero_le _)
 rw[List.drop_zero,List.nil_append] at this
 exact this
theorem get?_lt {l:List Dt} {n:Nat} (h:n<l.length):l[((n:Nat):Int).toNat]? =some l[n]:=by rw[Int.toNat_natCast];exact List.getElem?_eq_getElem h
end Go.Proofs.YtameompfdamfpaaGreatDoor
namespace Go.Proofs.YtameompfdamfpaaGreatDoor
open Go.Am
theorem vfind_l (m:Nat) (s:ByteArray) (v:Dt) (hl:(Dt.L v 4).length<9223372036854775807):∀(M i:Nat),i≤(Dt.L v 4).length→(Dt.L v 4).length-i<M→value_find_l2 m M s ((Dt.L v 4).length:Int) (i:Int) v=some (oI i (fi s ((Dt.L v 4).drop i)))
 |0,i,_,h=>by omega
 |M+    1,i,hi,h=>by
  simp only[value_find_l2,dlt]
  by_cases hlt:i<(Dt.L v 4).length
  ·rw[List.drop_eq_getElem_cons hlt]
   simp only[hlt,decide_true,cond_true,value_find_j3,value_find_j4,idx_lt hlt,Option.bind_some,fi,wrapS (show i<9223372036854775807 by omega)]
   cases (ByteArray.toList (Dt.S (Dt.L v 4)[i] 0)==ByteArray.toList s)
   ·    simp only[cond_false]
        rw[vfind_l m s v hl M (i+1) (by omega) (by omega),oI_map]
   ·simp[oI]
  ·have e:i=(Dt.L v 4).length:=by omega
   rw[e,List.drop_length]
   simp[value_find_j5,fi,oI]
theorem vfind_eq (m:Nat) (s:ByteArray) (v:Dt) (h5:Dt.I v 0=5) (hm:(Dt.L v 4).length≤m) (hm2:m<9223372036854775807):value_find (m+1) v s=some (oI 0 (fi s (Dt.L v 4))):=by
 have h:=vfind_l m s v (by omega) (m+1) 0 (Nat.zero_le _) (by omega)
 rw[List.drop_zero] at h
 rw[value_find,(b5 h5).2,cond_false]
 exact h
def setV (v:Dt) (s:ByteArray) (r:Dt):Dt:=match fi s (Dt.L v 4) with
 |some k=>setF v k r
 |none=>addF v s r
theorem setV_wv {v r:Dt} {s:ByteArray} (hw:WV v) (hr:WV r):WV (setV v s r):=by
 unfold setV
 split
 ·exact setF_wv hw hr _
 ·refine mkV_wv v (wv_L hw).1 fun f hf=>?_
  rcases List.mem_append.1 hf with h|h
  ·exact(wv_L hw).2.1 f h
  ·rw[List.mem_singleton.1 h];exact .mk hr
theorem rset_eq (m:Nat) (s:ByteArray) (v r:Dt) (h5:Dt.I v 0=5) (hm:v.bulk≤m) (hb:v.bulk≤137438953472) (hm2:m<9223372036854775807):ref01_Set (m+2) v s r=some (setV v s r):=by
 unfold setV
 cases h:fi s (Dt.L v 4) with
 |some k=>exact set_some m s v r k h5 hm hb hm2 h
 |none=>exact set_none m s v r h5 hm hb hm2 h
theorem vset_eq (m:Nat) (s:ByteArray) (v r:Dt) (hw:WV v) (hr:WV r) (h5:Dt.I v 0=5) (hm:v.bulk≤m) (hb:v.bulk≤137438953472) (hm':r.bulk≤m) (hb':r.bulk≤137438953472) (hm2:m<9223372036854775807):value_Set (m+2) v s r=some (setV v s r):=by
 have hn:=L_len v 4
 have ev:=value_clone_cp _ v (Nat.le_refl _) hb hw m hm
 have er:=value_clone_cp _ r (Nat.le_refl _) hb' hr m hm'
 have hv:=prt5_back hw.isVal
 have hr5:=prt5_back hr.isVal
 have hf:=vfind_eq m s v h5 (by omega) hm2
 rw[value_Set,ev,Option.bind_some,show (prt5 v).1=Dt.I v 0 from rfl,(b5 h5).2,cond_false]
 rw[show Dt.I v 0=(prt5 v).1 from rfl]
 unfold value_Set_j0
 rw[hv,hf,Option.bind_some]
 unfold setV
 cases h:fi s (Dt.L v 4) with
 |some k=>
  have hk:=fi_lt h
  have hk':k<(prt5 v).2.2.2.2.length:=hk
  simp only[oI0,dp1,cond_true,er,Option.bind_some,hr5,inL_lt hk',Int.toNat_natCast,List.getElem?_eq_getElem hk']
  rw[setF,getD_lt hk]
  rfl
 |none=>
  have ha:(prt5 v).2.2.2.2.length<137438953472:=by show (Dt.L v 4).length<_;omega
  simp only[oIn,dn1,cond_false,value_Set_j1,er,Option.bind_some,hr5,cond_true,app_one ha]
  rfl
def nmd (v:Dt) (s:ByteArray) (r:Dt):Dt:=bif (ByteArray.toList s==[]) then v else setV v s r
theorem named_eq (m:Nat) (s:ByteArray) (v r:Dt) (hw:WV v) (hr:WV r) (h5:Dt.I v 0=5) (hm:v.bulk≤m) (hb:v.bulk≤137438953472) (hm':r.bulk≤m) (hb':r.bulk≤137438953472) (hm2:m<9223372036854775807):reshape_named (m+3) v s r=some (nmd v s r):=by
 rw[reshape_named,nmd]
 cases (ByteArray.toList s==[]) with
 |true=>rfl
 |false=>
  simp only[cond_false,reshape_named_j0]
  rw[vset_eq m s v r hw hr h5 hm hb hm' hb' hm2]
  rfl
theorem with_eq (m:Nat) (s:ByteArray) (v r:Dt) (h5:Dt.I v 0=5) (hm:v.bulk≤m) (hb:v.bulk≤137438953472) (hm2:m<9223372036854775807):ref36_with (m+3) v s r=some (nmd v s r):=by
 rw[ref36_with,nmd]
 cases (ByteArray.toList s==[]) with
 |true=>rfl
 |false=>
  simp only[cond_false,ref36_with_j0]
  rw[rset_eq m s v r h5 hm hb hm2]
  rfl
end Go.Proofs.YtameompfdamfpaaGreatDoor
