/- Sort orders: the first error, in plain Lean. -/
import Derived.Test.YtpifchdngodgjaaGreatDoorWVa
set_option linter.unusedVariables false
set_option linter.unusedSimpArgs false
namespace Go.Proofs.YtpifchdngodgjaaGreatDoor
open Go.Am
def okO:List Dt→List Dt→Int
 |_,[]=>0
 |seen,o::r=>bif vld (Dt.L o 0) then(bif seen.any (fun e=>eqP (Dt.L e 0) (Dt.L o 0)) then 12 else okO (seen++[o]) r) else 10
def errO (l:List Dt):Int:=bif decide (8<l.length) then 2 else okO [] l
theorem vld_len {l:List Dt} (h:vld l=true):l.length≤16:=by
 simp only[vld,Bool.and_eq_true,decide_eq_true_eq] at h
 exact h.1.2
theorem take_next {l:List Dt} {i:Nat} (h:i<l.length):l.take i++[l[i]]=l.take (i+1):=by
 rw[List.take_succ_eq_append_getElem h]
theorem same_loop (m:Nat) (a b:List Dt) (hab:a.length=b.length) (hb:a.length<9223372036854775807):∀(M i:Nat),i≤a.length→a.length-i<M→zO_l2 m M a b (i:Int)=some (pfx (a.drop i) (b.drop i))
 |0,i,_,h=>by omega
 |M+1,i,hi,h=>by
  simp only[zO_l2,dlt]
  by_cases hlt:i<a.length
  ·rw[List.drop_eq_getElem_cons hlt,List.drop_eq_getElem_cons (show i<b.length by omega)]
   simp only[hlt,decide_true,cond_true,zO_j3,zO_j4,idx_lt hlt,idx_lt (show i<b.length by omega),Option.bind_some,wrapS (show i<9223372036854775807 by omega),same_loop m a b hab hb M (i+1) (by omega) (by omega),pfx,eqS]
   cases (a[i].toStr.toList==b[i].toStr.toList)<;>rfl
  ·have:i=a.length:=by omega
   subst this
   simp[zO_j5,pfx]
theorem rSame_eq (m:Nat) (a b:List Dt) (h:a.length≤m∨b.length≤m) (hm:m<9223372036854775807):zO (m+1) a b=some (eqP a b):=by
 unfold eqP
 by_cases hab:a.length=b.length
 ·simp only[zO,hab,bne_self_eq_false,cond_false,zO_j0,zO_j1]
  have:=same_loop m a b hab (by omega) (m+1) 0 (by omega) (by omega)
  rw[show ((0:Nat):Int)=0 from rfl] at this
  rw[this]
  simp
 ·have h1:(a.length==b.length)=false:=by simpa using hab
  have h2:((((a.length:Nat):Int) !=((b.length:Nat):Int)):Bool)=true:=by
   simp only[bne,ieq,h1,Bool.not_false]
  simp only[zO,h2,cond_true,h1,Bool.false_and]
theorem rval_in (m:Nat) (hm:20≤m) (hm2:m<9223372036854775807) (rec2:List Dt→Int→Option Int) (l:List Dt) (i:Nat) (hi:i<l.length) (hl:l.length≤8) (ho:(Dt.L l[i] 0).length≤16):∀(M k:Nat),k≤i→i-k<M→
  qS_l6 (m+1) rec2 M l (i:Int) (k:Int)=bif ((l.take i).drop k).any (fun e=>eqP (Dt.L e 0) (Dt.L l[i] 0)) then some 12 else rec2 l (((i+1:Nat):Int))
 |0,k,_,h=>by omega
 |M+1,k,hk,h=>by
  simp only[qS_l6,dlt]
  by_cases hlt:k<i
  ·have hk2:k<(l.take i).length:=by simp;omega
   rw[List.drop_eq_getElem_cons hk2,List.getElem_take]
   simp only[hlt,decide_true,cond_true,qS_j7,qS_j8,idx_lt hi,idx_lt (show k<l.length by omega),Option.bind_some,rSame_eq m (Dt.L l[i] 0) (Dt.L l[k] 0) (.inl (by omega)) hm2,wrapS (show k<9223372036854775807 by omega),rval_in m hm hm2 rec2 l i hi hl ho M (k+1) (by omega) (by omega),List.any_cons,eqP_comm (Dt.L l[i] 0)]
   cases eqP (Dt.L l[k] 0) (Dt.L l[i] 0)<;>rfl
  ·have:k=i:=by omega
   subst this
   rw[List.drop_eq_nil_of_le (by simp;omega)]
   simp[qS_j9,wrapS (show k<9223372036854775807 by omega)]
theorem rval_loop (m:Nat) (hm:50≤m) (hm2:m<9223372036854775800) (l:List Dt) (hl:l.length≤8):∀(M i:Nat),i≤l.length→l.length-i<M→qS_l2 (m+1) M l (i:Int)=some (okO (l.take i) (l.drop i))
 |0,i,_,h=>by omega
 |M+    1,i,hi,h=>by
  simp only[qS_l2,dlt]
  by_cases hlt:i<l.length
  ·rw[   List.drop_eq_getElem_cons hlt]
   simp only[hlt,decide_true,cond_true,qS_j3,idx_lt hlt,Option.bind_some,refvalid_eq m (by omega),okO]
   cases hv:vld (Dt.L l[i] 0)
   ·rfl
   ·    have hin:=rval_in m (by omega) (by omega) (qS_l2 (m+1) M) l i hlt hl (vld_len hv) (m+2) 0 (by omega) (by omega)
        rw[show ((0:Nat):Int)=0 from rfl,List.drop_zero] at hin
        simp only[Bool.not_true,cond_false,cond_true,qS_j4,qS_j5]
        rw[show Nat.succ (m+1)=m+2 from rfl,hin]
        cases hs:(l.take i).any (fun e=>eqP (Dt.L e 0) (Dt.L l[i] 0))
        ·simp only[cond_false]
         rw[rval_loop m hm hm2 l hl M (i+1) (by omega) (by omega),take_next hlt]
        ·rfl
  ·have:i=l.length:=by omega
   subst this
   simp[qS_j10,okO]
theorem rval_eq (m:Nat) (hm:50≤m) (hm2:m<9223372036854775800) (l:List Dt):qS (m+2) l=some (errO l):=by
 simp only[qS,errO]
 by_cases h:8<l.length
 ·have e:decide ((8:Int)<((l.length:Nat):Int))=true:=by simp;omega
  simp only[e,h,decide_true,cond_true]
 ·have e:decide ((8:Int)<((l.length:Nat):Int))=false:=by simp;omega
  simp only[e,h,decide_false,cond_false,qS_j0,qS_j1]
  have:=rval_loop m hm hm2 l (by omega) (m+2) 0 (by omega) (by omega)
  simpa using this
end Go.Proofs.YtpifchdngodgjaaGreatDoor
