/- Paths: fields by name, numbers, steps; Get, Drop and Put at a path that exists: the program's and the reference's.
Valid paths:the program's test and the reference's. -/
import Derived.Test.YtameompfdamfpaaGreatDoorMA
import Derived.Test.YtameompfdamfpaaGreatDoorMC
import Derived.Test.YtameompfdamfpaaGreatDoorMB
import Derived.Test.YtameompfdamfpaaGreatDoorRCl
set_option linter.unusedVariables false
set_option linter.unusedSimpArgs false
namespace Go.Proofs.YtameompfdamfpaaGreatDoor
open Go.Am
def fi (s:ByteArray):List Dt→Option Nat
 | []=>none
 |f::r=>bif ByteArray.toList (Dt.S f 0)==ByteArray.toList s then some 0 else(fi s r).map (· +1)
def oI (i:Nat):Option Nat→Int
 |some k=>((i+k:Nat):Int)
 |none=> -1
theorem oI_map (i:Nat) (o:Option Nat):oI i (o.map (· +1))=oI (i+1) o:=by cases o<;>simp[oI];omega
theorem path_field_fil (m:Nat) (s:ByteArray) (L:List Dt) (hl:L.length<9223372036854775807):∀(M i:Nat),i≤L.length→L.length-i<M→path_field_l1 m M L s (L.length:Int) (i:Int)=some (oI i (fi s (L.drop i)))
 |0,i,_,h=>by omega
 |M+    1,i,hi,h=>by
  simp only[path_field_l1,dlt]
  by_cases hlt:i<L.length
  ·rw[List.drop_eq_getElem_cons hlt]
   simp only[hlt,decide_true,cond_true,path_field_j2,path_field_j3,idx_lt hlt,Option.bind_some,fi,wrapS (show i<9223372036854775807 by omega)]
   cases (ByteArray.toList (Dt.S L[i] 0)==ByteArray.toList s)
   ·    simp only[cond_false]
        rw[path_field_fil m s L hl M (i+1) (by omega) (by omega),oI_map]
   ·simp[oI]
  ·have e:i=L.length:=by omega
   subst e
   simp[path_field_j4,fi,oI]
theorem path_field_fi (m:Nat) (s:ByteArray) (L:List Dt) (hm:L.length≤m) (hm2:m<9223372036854775807):path_field (m+1) L s=some (oI 0 (fi s L)):=by
 have h:=path_field_fil m s L (by omega) (m+1) 0 (Nat.zero_le _) (by omega)
 rw[List.drop_zero] at h
 exact h
theorem P1.path_field_fil (m:Nat) (s:ByteArray) (L:List Dt) (hl:L.length<9223372036854775807):∀(M i:Nat),i≤L.length→L.length-i<M→P1.path_field_l1 m M L s (L.length:Int) (i:Int)=some (oI i (fi s (L.drop i)))
 |0,i,_,h=>by omega
 |M+    1,i,hi,h=>by
  simp only[P1.path_field_l1,dlt]
  by_cases hlt:i<L.length
  ·rw[List.drop_eq_getElem_cons hlt]
   simp only[hlt,decide_true,cond_true,P1.path_field_j2,P1.path_field_j3,idx_lt hlt,Option.bind_some,fi,wrapS (show i<9223372036854775807 by omega)]
   cases (ByteArray.toList (Dt.S L[i] 0)==ByteArray.toList s)
   ·    simp only[cond_false]
        rw[P1.path_field_fil m s L hl M (i+1) (by omega) (by omega),oI_map]
   ·simp[oI]
  ·have e:i=L.length:=by omega
   subst e
   simp[P1.path_field_j4,fi,oI]
theorem P1.path_field_fi (m:Nat) (s:ByteArray) (L:List Dt) (hm:L.length≤m) (hm2:m<9223372036854775807):P1.path_field (m+1) L s=some (oI 0 (fi s L)):=by
 have h:=P1.path_field_fil m s L (by omega) (m+1) 0 (Nat.zero_le _) (by omega)
 rw[List.drop_zero] at h
 exact h
theorem fldI_eq (s:ByteArray) (L:List Dt) (hl:L.length<9223372036854775807):fldI L s=oI 0 (fi s L):=by
 unfold fldI
 rw[P1.path_field_fi L.length s L (Nat.le_refl _) hl]
 rfl
theorem fi_lt {s:ByteArray}:∀{L:List Dt} {k:Nat},fi s L=some k→k<L.length
 | [],k,h=>by cases h
 |f::r,k,h=>by
  rw[fi] at h
  cases hc:(ByteArray.toList (Dt.S f 0)==ByteArray.toList s) with
  |true=>rw[hc] at h;cases h;simp
  |false=>
   rw[hc,cond_false] at h
   cases hr:fi s r with
   |none=>rw[hr] at h;cases h
   |some j=>rw[hr] at h;cases h;have:=fi_lt hr;simp;omega
def dgs (a:Nat):List UInt8→Option Nat
 | []=>some a
 |c::r=>if 48≤c.toNat∧c.toNat≤57 then dgs (10*a+(c.toNat-48)) r else none
def nu (s:ByteArray):Option Nat:=
 if s.size<1∨4<s.size then none else if(s.data.toList.head?.map (·.toNat))=some 48∧1<s.size then none else dgs 0 s.data.toList
def oP:Option Nat→Int×Bool
 |some k=>((k:Int),true)
 |none=>(0,false)
theorem wrap8 {x:Int} (h0:0≤x) (h1:x<256):IntKind.wrap IntKind.u8 x=x:=by
 unfold IntKind.wrap
 simp only[IntKind.bits,IntKind.signed,Bool.false_and,Bool.false_eq_true,if_false]
 omega
theorem num_wrap {n c:Nat} (hn:n<10000) (h1:48≤c) (h2:c≤57):IntKind.wrap IntKind.i64 ((IntKind.wrap IntKind.i64 ((10:Int)*(n:Int)))+(IntKind.wrap IntKind.i64 (IntKind.wrap IntKind.u8 ((c:Int)-(48:Int)))))=((10*n+(c-48):Nat):Int):=by
 rw[wrap8 (by omega) (by omega),wrap64 (n:=(10:Int)*(n:Int)) (by omega) (by omega),wrap64 (n:=(c:Int)-48) (by omega) (by omega),wrap64 (by omega) (by omega)]
 omega
theorem path_num_l (m:Nat) (s:ByteArray) (hs:s.size≤4):∀(M i n:Nat),i≤s.size→s.size-i<M→n<10^i→path_Number_l3 m M s (n:Int) (s.size:Int) (i:Int)=some (oP (dgs n (s.data.toList.drop i)))
 |0,i,_,_,h,_=>by omega
 |M+    1,i,n,hi,h,hn=>by
  have hp:10^i≤10^4:=Nat.pow_le_pow_right (by omega) (by omega)
  rw[path_Number_l3,dlt]
  by_cases hlt:i<s.size
  ·rw[   getB s i hlt,dgs,decide_eq_true hlt,cond_true,path_Number_j4,idxS_lt hlt,Option.bind_some]
   by_cases h48:s[i].toNat<48
   ·    rw[decide_eq_true (show ((s[i].toNat:Nat):Int)<48 by omega),if_neg (by omega)]
        rfl
   ·    rw[decide_eq_false (show ¬((s[i].toNat:Nat):Int)<48 by omega),cond_false,Option.bind_some]
        by_cases h57:57<s[i].toNat
        ·rw[decide_eq_true (show (57:Int)<((s[i].toNat:Nat):Int) by omega),if_neg (by omega)]
         rfl
        ·have e1:(10:Nat)^(i+1)=10*10^i:=by rw[Nat.pow_succ];omega
         rw[if_pos (by omega),decide_eq_false (show ¬(57:Int)<((s[i].toNat:Nat):Int) by omega),path_Number_j5,cond_false,path_Number_j6,idxS_lt hlt,Option.bind_some,num_wrap (by omega) (by omega) (by omega),path_Number_j7,wrapS (by omega)]
         exact path_num_l m s hs M (i+1) _ (by omega) (by omega) (by omega)
  ·have e:i=s.size:=by omega
   subst e
   rw[decide_eq_false hlt,List.drop_eq_nil_of_le (by rw[lenB];omega)]
   rfl
theorem P1.path_num_l (m:Nat) (s:ByteArray) (hs:s.size≤4):∀(M i n:Nat),i≤s.size→s.size-i<M→n<10^i→P1.path_Number_l3 m M s (n:Int) (s.size:Int) (i:Int)=some (oP (dgs n (s.data.toList.drop i)))
 |0,i,_,_,h,_=>by omega
 |M+    1,i,n,hi,h,hn=>by
  have hp:10^i≤10^4:=Nat.pow_le_pow_right (by omega) (by omega)
  rw[P1.path_Number_l3,dlt]
  by_cases hlt:i<s.size
  ·rw[   getB s i hlt,dgs,decide_eq_true hlt,cond_true,P1.path_Number_j4,idxS_lt hlt,Option.bind_some]
   by_cases h48:s[i].toNat<48
   ·    rw[decide_eq_true (show ((s[i].toNat:Nat):Int)<48 by omega),if_neg (by omega)]
        rfl
   ·    rw[decide_eq_false (show ¬((s[i].toNat:Nat):Int)<48 by omega),cond_false,Option.bind_some]
        by_cases h57:57<s[i].toNat
        ·rw[decide_eq_true (show (57:Int)<((s[i].toNat:Nat):Int) by omega),if_neg (by omega)]
         rfl
        ·have e1:(10:Nat)^(i+1)=10*10^i:=by rw[Nat.pow_succ];omega
         rw[if_pos (by omega),decide_eq_false (show ¬(57:Int)<((s[i].toNat:Nat):Int) by omega),P1.path_Number_j5,cond_false,P1.path_Number_j6,idxS_lt hlt,Option.bind_some,num_wrap (by omega) (by omega) (by omega),P1.path_Number_j7,wrapS (by omega)]
         exact P1.path_num_l m s hs M (i+1) _ (by omega) (by omega) (by omega)
  ·have e:i=s.size:=by omega
   subst e
   rw[decide_eq_false hlt,List.drop_eq_nil_of_le (by rw[lenB];omega)]
   rfl
theorem ref_num_l (m:Nat) (s:ByteArray) (hs:s.size≤4):∀(M i n:Nat),i≤s.size→s.size-i<M→n<10^i→ref04_Number_l3 m M s (n:Int) (i:Int)=some (oP (dgs n (s.data.toList.drop i)))
 |0,i,_,_,h,_=>by omega
 |M+    1,i,n,hi,h,hn=>by
  have hp:10^i≤10^4:=Nat.pow_le_pow_right (by omega) (by omega)
  rw[ref04_Number_l3,dlt]
  by_cases hlt:i<s.size
  ·rw[   getB s i hlt,dgs,decide_eq_true hlt,cond_true,ref04_Number_j4,idxS_lt hlt,Option.bind_some]
   by_cases h48:s[i].toNat<48
   ·    rw[decide_eq_true (show ((s[i].toNat:Nat):Int)<48 by omega),if_neg (by omega)]
        rfl
   ·    rw[decide_eq_false (show ¬((s[i].toNat:Nat):Int)<48 by omega),cond_false,Option.bind_some]
        by_cases h57:57<s[i].toNat
        ·rw[decide_eq_true (show (57:Int)<((s[i].toNat:Nat):Int) by omega),if_neg (by omega)]
         rfl
        ·have e1:(10:Nat)^(i+1)=10*10^i:=by rw[Nat.pow_succ];omega
         rw[if_pos (by omega),decide_eq_false (show ¬(57:Int)<((s[i].toNat:Nat):Int) by omega),ref04_Number_j5,cond_false,ref04_Number_j6,idxS_lt hlt,Option.bind_some,Int.mul_comm ((n:Nat):Int) (10:Int),num_wrap (by omega) (by omega) (by omega),ref04_Number_j7,wrapS (by omega)]
         exact ref_num_l m s hs M (i+1) _ (by omega) (by omega) (by omega)
  ·have e:i=s.size:=by omega
   subst e
   rw[decide_eq_false hlt,List.drop_eq_nil_of_le (by rw[lenB];omega)]
   rfl
theorem head_nu (s:ByteArray) (h:0<s.size):s.data.toList.head?.map (·.toNat)=some s[0].toNat:=by
 have:=getB s 0 h
 rw[List.drop_zero] at this
 rw[this]
 rfl
theorem path_num (m:Nat) (hm:4≤m) (s:ByteArray):path_Number (m+1) s=some (oP (nu s)):=by
 rw[path_Number,nu]
 by_cases h1:s.size<1
 ·rw[decide_eq_true (show ((s.size:Nat):Int)<1 by omega),cond_true,if_pos (.inl h1)]
  rfl
 rw[decide_eq_false (show ¬((s.size:Nat):Int)<1 by omega),cond_false]
 by_cases h4:4<s.size
 ·rw[decide_eq_true (show (4:Int)<((s.size:Nat):Int) by omega),cond_true,if_pos (.inr h4)]
  rfl
 have hi:idxS s (0:Int)=some ((s[0]).toNat:Int):=idxS_lt (i:=0) (by omega)
 have good:path_Number_j0 m s false=some (oP (dgs 0 s.data.toList)):=path_num_l m s (by omega) (m+1) 0 0 (Nat.zero_le _) (by omega) (by decide)
 rw[decide_eq_false (show ¬(4:Int)<((s.size:Nat):Int) by omega),cond_false,hi,Option.bind_some,if_neg (by omega),head_nu s (by omega)]
 by_cases h48:(s[0]).toNat=48
 ·have e:(((s[0]).toNat:Int)==48)=true:=by rw[h48];rfl
  rw[e,cond_true]
  by_cases h2:1<s.size
  ·rw[decide_eq_true (show (1:Int)<((s.size:Nat):Int) by omega),if_pos ⟨by rw[h48],h2⟩]
   rfl
  ·rw[decide_eq_false (show ¬(1:Int)<((s.size:Nat):Int) by omega),if_neg (by omega)]
   exact good
 ·have e:(((s[0]).toNat:Int)==48)=false:=by rw[beq_eq_false_iff_ne];omega
  rw[e,cond_false,if_neg (by rintro⟨h,_⟩;exact h48 (Option.some.inj h))]
  exact good
theorem P1.path_num (m:Nat) (hm:4≤m) (s:ByteArray):P1.path_Number (m+1) s=some (oP (nu s)):=by
 rw[P1.path_Number,nu]
 by_cases h1:s.size<1
 ·rw[decide_eq_true (show ((s.size:Nat):Int)<1 by omega),cond_true,if_pos (.inl h1)]
  rfl
 rw[decide_eq_false (show ¬((s.size:Nat):Int)<1 by omega),cond_false]
 by_cases h4:4<s.size
 ·rw[decide_eq_true (show (4:Int)<((s.size:Nat):Int) by omega),cond_true,if_pos (.inr h4)]
  rfl
 have hi:idxS s (0:Int)=some ((s[0]).toNat:Int):=idxS_lt (i:=0) (by omega)
 have good:P1.path_Number_j0 m s false=some (oP (dgs 0 s.data.toList)):=P1.path_num_l m s (by omega) (m+1) 0 0 (Nat.zero_le _) (by omega) (by decide)
 rw[decide_eq_false (show ¬(4:Int)<((s.size:Nat):Int) by omega),cond_false,hi,Option.bind_some,if_neg (by omega),head_nu s (by omega)]
 by_cases h48:(s[0]).toNat=48
 ·have e:(((s[0]).toNat:Int)==48)=true:=by rw[h48];rfl
  rw[e,cond_true]
  by_cases h2:1<s.size
  ·rw[decide_eq_true (show (1:Int)<((s.size:Nat):Int) by omega),if_pos ⟨by rw[h48],h2⟩]
   rfl
  ·rw[decide_eq_false (show ¬(1:Int)<((s.size:Nat):Int) by omega),if_neg (by omega)]
   exact good
 ·have e:(((s[0]).toNat:Int)==48)=false:=by rw[beq_eq_false_iff_ne];omega
  rw[e,cond_false,if_neg (by rintro⟨h,_⟩;exact h48 (Option.some.inj h))]
  exact good
theorem ref_num (m:Nat) (hm:4≤m) (s:ByteArray):ref04_Number (m+1) s=some (oP (nu s)):=by
 rw[ref04_Number,nu]
 by_cases h1:s.size<1
 ·rw[decide_eq_true (show ((s.size:Nat):Int)<1 by omega),cond_true,if_pos (.inl h1)]
  rfl
 rw[decide_eq_false (show ¬((s.size:Nat):Int)<1 by omega),cond_false]
 by_cases h4:4<s.size
 ·rw[decide_eq_true (show (4:Int)<((s.size:Nat):Int) by omega),cond_true,if_pos (.inr h4)]
  rfl
 have hi:idxS s (0:Int)=some ((s[0]).toNat:Int):=idxS_lt (i:=0) (by omega)
 have good:ref04_Number_j0 m s false=some (oP (dgs 0 s.data.toList)):=ref_num_l m s (by omega) (m+1) 0 0 (Nat.zero_le _) (by omega) (by decide)
 rw[decide_eq_false (show ¬(4:Int)<((s.size:Nat):Int) by omega),cond_false,hi,Option.bind_some,if_neg (by omega),head_nu s (by omega)]
 by_cases h48:(s[0]).toNat=48
 ·have e:(((s[0]).toNat:Int)==48)=true:=by rw[h48];rfl
  rw[e,cond_true]
  by_cases h2:1<s.size
  ·rw[decide_eq_true (show (1:Int)<((s.size:Nat):Int) by omega),if_pos ⟨by rw[h48],h2⟩]
   rfl
  ·rw[decide_eq_false (show ¬(1:Int)<((s.size:Nat):Int) by omega),if_neg (by omega)]
   exact good
 ·have e:(((s[0]).toNat:Int)==48)=false:=by rw[beq_eq_false_iff_ne];omega
  rw[e,cond_false,if_neg (by rintro⟨h,_⟩;exact h48 (Option.some.inj h))]
  exact good
theorem numV_eq (s:ByteArray):numV s=oP (nu s):=by
 unfold numV
 rw[P1.path_num 6 (by omega) s]
 rfl
theorem dgs_lt:∀{l:List UInt8} {a n k:Nat},dgs a l=some n→a<10^k→n<10^(k+l.length)
 | [],a,n,k,h,ha=>by cases h;simpa using ha
 |c::r,a,n,k,h,ha=>by
  rw[dgs] at h
  split at h
  ·have:=dgs_lt (k:=k+1) h (by rw[Nat.pow_succ];omega)
   rw[List.length_cons,show k+(r.length+1)=k+1+r.length by omega]
   exact this
  ·cases h
theorem nu_lt {s:ByteArray} {n:Nat} (h:nu s=some n):n<10000:=by
 unfold nu at h
 split at h
 ·cases h
 ·rename_i hs
  split at h
  ·cases h
  ·have:=dgs_lt (k:=0) h (by decide)
   rw[Nat.zero_add,lenB] at this
   have:10^s.size≤10^4:=Nat.pow_le_pow_right (by omega) (by omega)
   omega
inductive Stp where
 |fld (k:Nat)
 |newf
 |el (n:Nat)
 |newe (n:Nat)
 |no
def stp (s:ByteArray) (v:Dt):Stp:=
 if Dt.I v 0=5 then(match fi s (Dt.L v 4) with|some k=> .fld k|none=> .newf)
 else if Dt.I v 0=6 then(match nu s with|some n=>if n<(Dt.L v 3).length then .el n else .newe n|none=> .no)
 else .no
inductive StpS (s:ByteArray) (v:Dt):Stp→Prop where
 |fld {k:Nat} (h5:Dt.I v 0=5) (h:fi s (Dt.L v 4)=some k) (hk:k<(Dt.L v 4).length):StpS s v (.fld k)
 |newf (h5:Dt.I v 0=5) (h:fi s (Dt.L v 4)=none):StpS s v .newf
 |el {n:Nat} (h6:Dt.I v 0=6) (h:nu s=some n) (hn:n<(Dt.L v 3).length):StpS s v (.el n)
 |newe {n:Nat} (h6:Dt.I v 0=6) (h:nu s=some n) (hn:(Dt.L v 3).length≤n):StpS s v (.newe n)
 |no6 (h6:Dt.I v 0=6) (h:nu s=none):StpS s v .no
 |no (h5:Dt.I v 0≠5) (h6:Dt.I v 0≠6):StpS s v .no
theorem stp_is (s:ByteArray) (v:Dt):StpS s v (stp s v):=by
 unfold stp
 split
 ·rename_i h5
  cases h:fi s (Dt.L v 4) with
  |some k=>exact .fld h5 h (fi_lt h)
  |none=>exact .newf h5 h
 ·rename_i h5
  split
  ·rename_i h6
   cases h:nu s with
   |none=>exact .no6 h6 h
   |    some n=>
        simp only
        split
        ·rename_i hn;exact .el h6 h hn
        ·rename_i hn;exact .newe h6 h (by omega)
  ·rename_i h6
   exact .no h5 h6
def chF (v:Dt) (k:Nat):Dt:=Dt.fld ((Dt.L v 4).getD k (.int 0)) 1
def setF (v:Dt) (k:Nat) (c:Dt):Dt:=mkV v (Dt.L v 3) ((Dt.L v 4).set k (.agg [.str (Dt.S ((Dt.L v 4).getD k (.int 0)) 0),c]))
def chE (v:Dt) (n:Nat):Dt:=(Dt.L v 3).getD n (.int 0)
def setE (v:Dt) (n:Nat) (c:Dt):Dt:=mkV v ((Dt.L v 3).set n c) (Dt.L v 4)
def addF (v:Dt) (s:ByteArray) (c:Dt):Dt:=mkV v (Dt.L v 3) (Dt.L v 4++[.agg [.str s,c]])
noncomputable def getD:List Dt→Dt→Dt
 | [],v=>v
 |s::p,v=>match stp s.toStr v with
  | .fld k=>getD p (chF v k)
  | .el n=>getD p (chE v n)
  |_=>zeroD
noncomputable def putP:List Dt→Dt→Dt→Dt×Bool
 | [],_,x=>(x,true)
 |s::p,v,x=>match stp s.toStr v with
  | .fld k=>(setF v k (putP p (chF v k) x).1,(putP p (chF v k) x).2)
  | .el n=>(setE v n (putP p (chE v n) x).1,(putP p (chE v n) x).2)
  |_=>(v,false)
noncomputable def folP:List Dt→Dt→Bool
 | [],_=>true
 |s::p,v=>match stp s.toStr v with
  | .fld k=>folP p (chF v k)
  | .el n=>folP p (chE v n)
  |_=>false
noncomputable def dropP:List Dt→Dt→Dt
 | [],v=>v
 |s::p,v=>match stp s.toStr v with
  | .fld k=>if p.isEmpty then mkV v (Dt.L v 3) ((Dt.L v 4).eraseIdx k) else setF v k (dropP p (chF v k))
  | .el n=>if p.isEmpty then setE v n nullD else setE v n (dropP p (chE v n))
  |_=>v
theorem oI0 (k:Nat):oI 0 (some k)=(k:Int):=by simp[oI]
theorem small_ch {v:Dt} (hv:v.bulk<9223372036854775807):(Dt.L v 4).length<9223372036854775807∧(∀k,(chF v k).bulk<9223372036854775807)∧∀n,(chE v n).bulk<9223372036854775807:=by
 have h0:Dt.bulk (.int 0)=1:=rfl
 refine⟨by have:=L_len v 4;omega,fun k=>?_,fun n=>?_⟩
 ·have h1:=fld_bulk ((Dt.L v 4).getD k (.int 0)) 1
  unfold chF
  rw[List.getD] at h1 ⊢
  cases h:(Dt.L v 4)[k]? with
  |none=>rw[h] at h1;simp only[Option.getD_none] at h1 ⊢;omega
  |some e=>rw[h] at h1;have:=L_mem (List.mem_of_getElem? h);simp only[Option.getD_some] at h1 ⊢;omega
 ·unfold chE
  rw[List.getD]
  cases h:(Dt.L v 3)[n]? with
  |none=>simp only[Option.getD_none];omega
  |some e=>have:=L_mem (List.mem_of_getElem? h);simp only[Option.getD_some];omega
theorem putD_eq:∀(p:List Dt) (v x:Dt),v.bulk<9223372036854775807→putD p v x=putP p v x
 | [],_,_,_=>rfl
 |s ::p,v,x,hv=>by
  obtain⟨q1,q2,q3⟩:=small_ch hv
  rw[putD,putP,fldI_eq _ _ q1,numV_eq]
  have hs:=stp_is s.toStr v
  generalize stp s.toStr v=S at hs
  cases hs with
  | @fld k h5 h hk=>
    rw[if_pos h5,h,oI0,if_pos (by omega),Int.toNat_natCast]
    simp only[show ((Dt.L v 4).getD k (.int 0)).fld 1=chF v k from rfl,putD_eq p (chF v k) x (q2 k)]
    rfl
  |newf h5 h=>rw[if_pos h5,h,if_neg (by simp[oI])]
  | @el n h6 h hn=>
    rw[if_neg (by omega),if_pos h6,h]
    simp only[oP,if_true,Int.toNat_natCast,if_pos hn,show (Dt.L v 3).getD n (.int 0)=chE v n from rfl,putD_eq p (chE v n) x (q3 n)]
    rfl
  | @newe n h6 h hn=>
    rw[if_neg (by omega),if_pos h6,h]
    rw[show oP (some n)=((n:Int),true) from rfl,if_pos rfl,if_neg (show ¬((n:Int),true).1.toNat<(Dt.L v 3).length by simp only[Int.toNat_natCast];omega)]
  |no6 h6 h=>rw[if_neg (by omega),if_pos h6,h];rfl
  |no h5 h6=>rw[if_neg h5,if_neg h6]
theorem dropD_eq:∀(p:List Dt) (v:Dt),v.bulk<9223372036854775807→dropD p v=dropP p v
 | [],_,_=>rfl
 |s ::p,v,hv=>by
  obtain⟨q1,q2,q3⟩:=small_ch hv
  rw[dropD,dropP,fldI_eq _ _ q1,numV_eq]
  have hs:=stp_is s.toStr v
  generalize stp s.toStr v=S at hs
  cases hs with
  | @fld k h5 h hk=>
    rw[if_pos h5,h,oI0,if_pos (by omega),Int.toNat_natCast]
    simp only[show ((Dt.L v 4).getD k (.int 0)).fld 1=chF v k from rfl,dropD_eq p (chF v k) (q2 k)]
    rfl
  |newf h5 h=>rw[if_pos h5,h,if_neg (by simp[oI])]
  | @el n h6 h hn=>
    rw[if_neg (by omega),if_pos h6,h]
    simp only[oP,if_true,Int.toNat_natCast,if_pos hn,show (Dt.L v 3).getD n (.int 0)=chE v n from rfl,dropD_eq p (chE v n) (q3 n)]
    rfl
  | @newe n h6 h hn=>
    rw[if_neg (by omega),if_pos h6,h]
    rw[show oP (some n)=((n:Int),true) from rfl,if_pos rfl,if_neg (show ¬((n:Int),true).1.toNat<(Dt.L v 3).length by simp only[Int.toNat_natCast];omega)]
  |no6 h6 h=>rw[if_neg (by omega),if_pos h6,h];rfl
  |no h5 h6=>rw[if_neg h5,if_neg h6]
theorem fol_eq:∀(p:List Dt) (v:Dt),v.bulk<9223372036854775807→fol p v=folP p v
 | [],_,_=>rfl
 |s ::p,v,hv=>by
  obtain⟨q1,q2,q3⟩:=small_ch hv
  rw[fol,folP,fldI_eq _ _ q1,numV_eq]
  have hs:=stp_is s.toStr v
  generalize stp s.toStr v=S at hs
  cases hs with
  | @fld k h5 h hk=>
    rw[if_pos h5,h,oI0,decide_eq_true (show (0:Int)≤(k:Int) by omega),Int.toNat_natCast,Bool.true_and]
    exact fol_eq p (chF v k) (q2 k)
  |newf h5 h=>rw[if_pos h5,h,decide_eq_false (by simp[oI]),Bool.false_and]
  | @el n h6 h hn=>
    rw[if_neg (by omega),if_pos h6,h,show oP (some n)=((n:Int),true) from rfl,Int.toNat_natCast,decide_eq_true hn,Bool.true_and,Bool.true_and]
    exact fol_eq p (chE v n) (q3 n)
  | @newe n h6 h hn=>
    rw[if_neg (by omega),if_pos h6,h,show oP (some n)=((n:Int),true) from rfl,Int.toNat_natCast,decide_eq_false (by omega),Bool.and_false,Bool.false_and]
  |no6 h6 h=>rw[if_neg (by omega),if_pos h6,h];rfl
  |no h5 h6=>rw[if_neg h5,if_neg h6]
theorem getD_lt {l:List Dt} {k:Nat} {z:Dt} (h:k<l.length):l.getD k z=l[k]:=by rw[List.getD,List.getElem?_eq_getElem h];rfl
theorem zeroD_wv:WV zeroD:= .mk (by simp) (by simp)
theorem nullD_wv:WV nullD:= .mk (by simp) (by simp)
theorem wv6 {d:Dt} (hw:WV d):6≤d.bulk:=by cases hw with|mk hl hd=>rw[bulk_val];omega
theorem wv_mkV {d:Dt} (hw:WV d):mkV d (Dt.L d 3) (Dt.L d 4)=d:=by cases hw with|mk hl hd=>rfl
theorem ch_F {v:Dt} (hw:WV v) {k:Nat} (hk:k<(Dt.L v 4).length):chF v k=Dt.fld (Dt.L v 4)[k] 1∧WV (chF v k)∧(chF v k).bulk<v.bulk:=by
 have e:chF v k=Dt.fld (Dt.L v 4)[k] 1:=by unfold chF;rw[getD_lt hk]
 rw[e]
 exact⟨rfl,(wv_parts hw).2.2.2 _ (List.getElem_mem hk)⟩
theorem ch_E {v:Dt} (hw:WV v) {n:Nat} (hn:n<(Dt.L v 3).length):chE v n=(Dt.L v 3)[n]∧WV (chE v n)∧(chE v n).bulk<v.bulk:=by
 have e:chE v n=(Dt.L v 3)[n]:=getD_lt hn
 rw[e]
 exact⟨rfl,(wv_parts hw).2.2.1 _ (List.getElem_mem hn)⟩
theorem getD_wv:∀(p:List Dt) {v:Dt},WV v→WV (getD p v)∧(getD p v).bulk≤v.bulk
 | [],v,hw=>⟨hw,Nat.le_refl _⟩
 |s::p,v,hw=>by
  have h6:=wv6 hw
  have hz:WV zeroD∧zeroD.bulk≤v.bulk:=⟨zeroD_wv,h6⟩
  rw[getD]
  have hs:=stp_is s.toStr v
  generalize stp s.toStr v=S at hs
  cases hs with
  | @fld k h5 h hk=>have:=ch_F hw hk;have h2:=getD_wv p this.2.1;exact⟨h2.1,Nat.le_trans h2.2 (by omega)⟩
  | @el n h6 h hn=>have:=ch_E hw hn;have h2:=getD_wv p this.2.1;exact⟨h2.1,Nat.le_trans h2.2 (by omega)⟩
  |_=>exact hz
theorem b5 {k:Int} (h:k=5):(k==5)=true∧(k !=5)=false:=by subst h;exact⟨rfl,rfl⟩
theorem b5n {k:Int} (h:k≠5):(k==5)=false∧(k !=5)=true:=by simp[h]
theorem b6 {k:Int} (h:k=6):(k==5)=false∧(k !=5)=true∧(k==6)=true∧(k !=6)=false:=by subst h;exact⟨rfl,rfl,rfl,rfl⟩
theorem b6n {k:Int} (h:k≠6):(k==6)=false∧(k !=6)=true:=by simp[h]
theorem dn1:decide ((0:Int)≤ -1)=false:=rfl
theorem dn2:decide ((-1:Int)<0)=true:=rfl
theorem dp1 (k:Nat):decide ((0:Int)≤(k:Int))=true:=decide_eq_true (by omega)
theorem dp2 (k:Nat):decide ((k:Int)<0)=false:=decide_eq_false (by omega)
theorem oIn:oI 0 none= -1:=rfl
theorem oP1 (n:Nat):oP (some n)=((n:Int),true):=rfl
theorem oPn:oP none=(0,false):=rfl
theorem pget_loop (m N:Nat) (p:List Dt) (hp:p.length<9223372036854775807) (hm:N+10≤m) (hN:N≤137438953472) (hm2:m<9223372036854775807) (z:Dt):∀(M i:Nat) (v:Dt),WV v→v.bulk≤N→i≤p.length→p.length-i<M→path_Get_l1 m M p (p.length:Int) (i:Int) v z=some (getD (p.drop i) v)
 |0,i,_,_,_,_,h=>by omega
 |M+    1,i,v,hw,hb,hi,h=>by
  obtain⟨m,rfl⟩:∃q,m=q+1:=⟨m-1,by omega⟩
  have hn:=L_len v 4
  simp only[path_Get_l1,dlt]
  by_cases hlt:i<p.length
  ·rw[List.drop_eq_getElem_cons hlt,getD]
   simp only[hlt,decide_true,cond_true,path_Get_j2,idx_lt hlt,Option.bind_some]
   have ih:=fun(c:Dt) (h1:WV c) (h2:c.bulk≤N)=>pget_loop (m+1) N p hp hm hN hm2 z M (i+1) c h1 h2 (by omega) (by omega)
   have hs:=stp_is (Dt.toStr p[i]) v
   generalize stp (Dt.toStr p[i]) v=S at hs
   cases hs with
   |    @fld k h5 h' hk=>
        have hc:=ch_F hw hk
        simp only[(b5 h5).1,cond_true,path_field_fi m (Dt.toStr p[i]) (Dt.L v 4) (by omega) (by omega),h',oI0,Option.bind_some,dp1,idx_lt hk,path_Get_j3,dp2,cond_false,path_Get_j4,wrapS (show i<9223372036854775807 by omega),←hc.1]
        exact ih _ hc.2.1 (by omega)
   |newf h5 h'=>simp only[(b5 h5).1,cond_true,path_field_fi m (Dt.toStr p[i]) (Dt.L v 4) (by omega) (by omega),h',oIn,Option.bind_some,dn1,path_Get_j3,dn2,cond_false];rfl
   |    @el n h6 h' hn'=>
        have hc:=ch_E hw hn'
        simp only[(b6 h6).1,(b6 h6).2.2.1,cond_true,cond_false,path_num m (by omega),h',oP1,Option.bind_some,dlt,hn',decide_true,path_Get_j5,idx_lt hn',path_Get_j3,dp2,path_Get_j4,wrapS (show i<9223372036854775807 by omega),←hc.1]
        exact ih _ hc.2.1 (by omega)
   | @newe n h6 h' hn'=>simp only[(b6 h6).1,(b6 h6).2.2.1,cond_true,cond_false,path_num m (by omega),h',oP1,Option.bind_some,dlt,show decide (n<(Dt.L v 3).length)=false from decide_eq_false (by omega),path_Get_j5,path_Get_j3,dn2];rfl
   |no6 h6 h'=>simp only[(b6 h6).1,(b6 h6).2.2.1,cond_true,cond_false,path_num m (by omega),h',oPn,Option.bind_some,path_Get_j5,path_Get_j3,dn2];rfl
   |no h5 h6=>simp only[(b5n h5).1,(b6n h6).1,cond_false,path_Get_j3,dn2,cond_true];rfl
  ·have e:i=p.length:=by omega
   subst e
   simp only[Nat.lt_irrefl,decide_false,cond_false,path_Get_j6,path_clone_cp N v hb hN hw m (by omega),Option.bind_some,List.drop_length,getD]
   exact congrArg some (prt5_back hw.isVal)
theorem pget_eq (N:Nat) (p:List Dt) (v:Dt) (hw:WV v) (hb:v.bulk≤N) (hN:N≤137438953472) (m:Nat) (hm:N+p.length+10≤m) (hm2:m<9223372036854775807):path_Get (m+1) v p=some (getD p v):=by
 have h:=pget_loop m N p (by omega) (by omega) hN hm2 kza2373 (m+1) 0 v hw hb (Nat.zero_le _) (by omega)
 rw[List.drop_zero] at h
 exact h
theorem at_l (m:Nat) (s:ByteArray) (v:Dt) (hl:(Dt.L v 4).length<9223372036854775807):∀(M i:Nat),i≤(Dt.L v 4).length→(Dt.L v 4).length-i<M→ref01_at_l2 m M s (i:Int) v=some (oI i (fi s ((Dt.L v 4).drop i)))
 |0,i,_,h=>by omega
 |M+    1,i,hi,h=>by
  simp only[ref01_at_l2,dlt]
  by_cases hlt:i<(Dt.L v 4).length
  ·rw[List.drop_eq_getElem_cons hlt]
   simp only[hlt,decide_true,cond_true,ref01_at_j3,ref01_at_j4,idx_lt hlt,Option.bind_some,fi,wrapS (show i<9223372036854775807 by omega)]
   cases (ByteArray.toList (Dt.S (Dt.L v 4)[i] 0)==ByteArray.toList s)
   ·    simp only[cond_false]
        rw[at_l m s v hl M (i+1) (by omega) (by omega),oI_map]
   ·simp[oI]
  ·have e:i=(Dt.L v 4).length:=by omega
   rw[e,List.drop_length]
   simp[ref01_at_j5,fi,oI]
theorem at_eq (m:Nat) (s:ByteArray) (v:Dt) (h5:Dt.I v 0=5) (hm:(Dt.L v 4).length≤m) (hm2:m<9223372036854775807):ref01_at (m+1) v s=some (oI 0 (fi s (Dt.L v 4))):=by
 have h:=at_l m s v (by omega) (m+1) 0 (Nat.zero_le _) (by omega)
 rw[List.drop_zero] at h
 rw[ref01_at,(b5 h5).2,cond_false]
 exact h
theorem rget1 (m:Nat) (s:ByteArray) (v:Dt) (h5:Dt.I v 0=5) (hm:v.bulk≤m) (hm2:m<9223372036854775807):ref01_Get (m+2) v s=some (match fi s (Dt.L v 4) with|some k=>(chF v k,true)|none=>(zeroD,false)):=by
 have hn:=L_len v 4
 rw[ref01_Get,at_eq m s v h5 (by omega) hm2]
 cases h:fi s (Dt.L v 4) with
 |none=>rfl
 |some k=>
  have hk:=fi_lt h
  simp only[oI0,Option.bind_some,dp2,cond_false,ref01_Get_j0,idx_lt hk,chF,getD_lt hk]
theorem c1 (s:Dt) (p:List Dt):(((s::p).length:Int)==0)=false:=by rw[List.length_cons,beq_eq_false_iff_ne];omega
theorem cutL1 (s:Dt) (p:List Dt):cutL (s::p) 1 ((s::p).length:Int)=some p:=by
 have:=cutL_nat (l:=s::p) (i:=1) (j:=(s::p).length) (by simp) (Nat.le_refl _)
 simpa using this
theorem idx0 (s:Dt) (p:List Dt):idx (s::p) 0=some s:=idx_lt (l:=s::p) (i:=0) (by simp)
theorem rget_eq:∀(p:List Dt) (N:Nat) (v:Dt),WV v→v.bulk≤N→∀m,N+p.length+10≤m→m<9223372036854775807→ref04_Get (m+1) v p=some (getD p v)
 | [],N,v,hw,hb,m,hm,hm2=>rfl
 |s ::p,N,v,hw,hb,m,hm,hm2=>by
  rw[List.length_cons] at hm
  obtain⟨m,rfl⟩:∃q,m=q+2:=⟨m-2,by omega⟩
  have hn:=L_len v 4
  have ih:=fun(c:Dt) (h1:WV c) (h2:c.bulk≤N)=>rget_eq p N c h1 h2 (m+1) (by omega) (by omega)
  rw[ref04_Get,c1,cond_false,ref04_Get_j0,getD]
  have hs:=stp_is s.toStr v
  generalize stp s.toStr v=S at hs
  cases hs with
  | @fld k h5 h' hk=>
    have hc:=ch_F hw hk
    simp only[(b5 h5).1,cond_true,idx0,Option.bind_some,rget1 m s.toStr v h5 (by omega) (by omega),h',cutL1,ih _ hc.2.1 (by omega)]
  |newf h5 h'=>simp only[(b5 h5).1,cond_true,idx0,Option.bind_some,rget1 m s.toStr v h5 (by omega) (by omega),h',cond_false,ref04_Get_j1,show (Dt.I v 0==6)=false by rw[h5];rfl,ref04_Get_j3];rfl
  | @el n h6 h' hn'=>
    have hc:=ch_E hw hn'
    simp only[(b6 h6).1,(b6 h6).2.2.1,cond_true,cond_false,ref04_Get_j1,idx0,Option.bind_some,ref_num (m+1) (by omega),h',oP1,dlt,hn',decide_true,ref04_Get_j2,idx_lt hn',cutL1,←hc.1,ih _ hc.2.1 (by omega)]
  | @newe n h6 h' hn'=>simp only[(b6 h6).1,(b6 h6).2.2.1,cond_true,cond_false,ref04_Get_j1,idx0,Option.bind_some,ref_num (m+1) (by omega),h',oP1,dlt,show decide (n<(Dt.L v 3).length)=false from decide_eq_false (by omega),ref04_Get_j2,ref04_Get_j3];rfl
  |no6 h6 h'=>simp only[(b6 h6).1,(b6 h6).2.2.1,cond_true,cond_false,ref04_Get_j1,idx0,Option.bind_some,ref_num (m+1) (by omega),h',oPn,ref04_Get_j2,ref04_Get_j3];rfl
  |no h5 h6=>simp only[(b5n h5).1,(b6n h6).1,cond_false,ref04_Get_j1,ref04_Get_j3];rfl
theorem wv_L {v:Dt} (hw:WV v):(∀e∈Dt.L v 3,WV e)∧(∀f∈Dt.L v 4,WF f)∧v.bulk=Dt.bulkL (Dt.L v 3)+Dt.bulkL (Dt.L v 4)+((Dt.S v 2).size+6):=by
 cases hw with
 |mk hl hd=>exact⟨hl,hd,bulk_val⟩
theorem mkV_wv (v:Dt) {l fs:List Dt} (hl:∀e∈l,WV e) (hd:∀f∈fs,WF f):WV (mkV v l fs):= .mk hl hd
theorem mkV_bulk (v:Dt) (l fs:List Dt):(mkV v l fs).bulk=Dt.bulkL l+Dt.bulkL fs+((Dt.S v 2).size+6):=bulk_val
theorem bulkL_set:∀{l:List Dt} {k:Nat} (x:Dt) (h:k<l.length),Dt.bulkL (l.set k x)+l[k].bulk=Dt.bulkL l+x.bulk
 |a::r,0,x,h=>by simp only[List.set_cons_zero,Dt.bulkL,List.getElem_cons_zero];omega
 |a::r,k+1,x,h=>by
  have:=bulkL_set x (show k<r.length by simpa using h)
  simp only[List.set_cons_succ,Dt.bulkL,List.getElem_cons_succ];omega
theorem bulkL_erase:∀(l:List Dt) (k:Nat),Dt.bulkL (l.eraseIdx k)≤Dt.bulkL l
 | [],k=>Nat.le_refl _
 |a::r,0=>by simp only[List.eraseIdx_cons_zero,Dt.bulkL];omega
 |a::r,k+1=>by have:=bulkL_erase r k;simp only[List.eraseIdx_cons_succ,Dt.bulkL];omega
theorem bulkL_app:∀a b:List Dt,Dt.bulkL (a++b)=Dt.bulkL a+Dt.bulkL b
 | [],b=>by simp[Dt.bulkL]
 |x::a,b=>by simp only[List.cons_append,Dt.bulkL,bulkL_app a b];omega
theorem mem_set' {l:List Dt} {k:Nat} {x e:Dt} {Q:Dt→Prop} (h:∀e∈l,Q e) (hx:Q x) (he:e∈l.set k x):Q e:=by
 rcases List.mem_or_eq_of_mem_set he with h'|rfl
 ·exact h _ h'
 ·exact hx
theorem wf_at {v:Dt} (hw:WV v) {k:Nat} (hk:k<(Dt.L v 4).length):(Dt.L v 4)[k]= .agg [.str (Dt.S (Dt.L v 4)[k] 0),chF v k]∧(Dt.L v 4)[k].bulk=(chF v k).bulk+(Dt.S (Dt.L v 4)[k] 0).size+2:=by
 have h:=(wv_L hw).2.1 _ (List.getElem_mem hk)
 have hc:=(ch_F hw hk).1
 rw[hc]
 generalize (Dt.L v 4)[k]=f at h
 cases h with
 |mk h=>exact⟨rfl,bulk_fld⟩
theorem setF_wv {v c:Dt} (hw:WV v) (hc:WV c) (k:Nat):WV (setF v k c):=mkV_wv v (wv_L hw).1 fun _ he=>mem_set' (wv_L hw).2.1 (.mk hc) he
theorem setE_wv {v c:Dt} (hw:WV v) (hc:WV c) (n:Nat):WV (setE v n c):=mkV_wv v (fun _ he=>mem_set' (wv_L hw).1 hc he) (wv_L hw).2.1
theorem setF_bulk {v c:Dt} (hw:WV v) {k:Nat} (hk:k<(Dt.L v 4).length):(setF v k c).bulk+(chF v k).bulk=v.bulk+c.bulk:=by
 have h1:=bulkL_set (Dt.agg [.str (Dt.S (Dt.L v 4)[k] 0),c]) hk
 have h2:=(wf_at hw hk).2
 rw[bulk_fld] at h1
 rw[setF,mkV_bulk,getD_lt hk,(wv_L hw).2.2]
 omega
theorem setE_bulk {v c:Dt} (hw:WV v) {n:Nat} (hn:n<(Dt.L v 3).length):(setE v n c).bulk+(chE v n).bulk=v.bulk+c.bulk:=by
 have h1:=bulkL_set c hn
 have h2:=(ch_E hw hn).1
 rw[setE,mkV_bulk,(wv_L hw).2.2,h2]
 omega
theorem dropP_wv:∀(p:List Dt) {v:Dt},WV v→WV (dropP p v)∧(dropP p v).bulk≤v.bulk
 | [],v,hw=>⟨hw,Nat.le_refl _⟩
 |s ::p,v,hw=>by
  rw[dropP]
  have hs:=stp_is s.toStr v
  generalize stp s.toStr v=S at hs
  cases hs with
  | @fld k h5 h hk=>
    simp only
    split
    ·   refine⟨mkV_wv v (wv_L hw).1 fun f hf=>(wv_L hw).2.1 f (List.mem_of_mem_eraseIdx hf),?_⟩
        have:=bulkL_erase (Dt.L v 4) k
        rw[mkV_bulk,(wv_L hw).2.2]
        omega
    ·   have hc:=ch_F hw hk
        have h2:=dropP_wv p hc.2.1
        have:=setF_bulk (c:=dropP p (chF v k)) hw hk
        exact⟨setF_wv hw h2.1 k,by omega⟩
  | @el n h6 h hn=>
    have hc:=ch_E hw hn
    simp only
    split
    ·   have:=setE_bulk (c:=nullD) hw hn
        have h6:=wv6 hc.2.1
        have h7:nullD.bulk=6:=rfl
        exact⟨setE_wv hw nullD_wv n,by omega⟩
    ·   have h2:=dropP_wv p hc.2.1
        have:=setE_bulk (c:=dropP p (chE v n)) hw hn
        exact⟨setE_wv hw h2.1 n,by omega⟩
  |_=>exact⟨hw,Nat.le_refl _⟩
theorem rem_l (m:Nat) (k:Nat) (v z:Dt) (hl:(Dt.L v 4).length≤137438953472):∀(M i:Nat) (out:List Dt),i≤(Dt.L v 4).length→(Dt.L v 4).length-i<M→out.length≤i→
  ref01_Remove_l2 m M (k:Int) (i:Int) v z out=some (mkV v (Dt.L v 3) (out++(if i≤k then((Dt.L v 4).drop i).eraseIdx (k-i) else(Dt.L v 4).drop i)))
 |0,i,_,_,h,_=>by omega
 |M+    1,i,out,hi,h,ho=>by
  simp only[ref01_Remove_l2,dlt]
  by_cases hlt:i<(Dt.L v 4).length
  ·rw[   List.drop_eq_getElem_cons hlt]
   simp only[hlt,decide_true,cond_true,ref01_Remove_j3,ref01_Remove_j4,idx_lt hlt,Option.bind_some,wrapS (show i<9223372036854775807 by omega),app_le (show out.length+[(Dt.L v 4)[i]].length≤137438953472 by simp;omega)]
   by_cases hk:i=k
   ·    subst hk
        rw[show ((i:Int) !=(i:Int))=false by simp,cond_false,rem_l m i v z hl M (i+1) out (by omega) (by omega) (by omega),if_neg (by omega),if_pos (Nat.le_refl _),Nat.sub_self]
        rfl
   ·    rw[show ((i:Int) !=(k:Int))=true by simp;omega,cond_true,rem_l m k v z hl M (i+1) (out++[(Dt.L v 4)[i]]) (by omega) (by omega) (by simp;omega)]
        by_cases hik:i≤k
        ·rw[if_pos hik,if_pos (by omega),show k-i=(k-(i+1))+1 by omega,List.eraseIdx_cons_succ]
         simp
        ·rw[if_neg hik,if_neg (by omega)]
         simp
  ·have e:i=(Dt.L v 4).length:=by omega
   rw[e,List.drop_length]
   simp only[Nat.lt_irrefl,decide_false,cond_false,ref01_Remove_j5]
   split<;>simp[mkV]
theorem rem_eq (m:Nat) (s:ByteArray) (v:Dt) (k:Nat) (h5:Dt.I v 0=5) (hm:v.bulk≤m) (hb:v.bulk≤137438953472) (hm2:m<9223372036854775807) (h:fi s (Dt.L v 4)=some k):ref01_Remove (m+2) v s=some (mkV v (Dt.L v 3) ((Dt.L v 4).eraseIdx k)):=by
 have hn:=L_len v 4
 rw[ref01_Remove,at_eq m s v h5 (by omega) hm2,h,oI0,Option.bind_some,dp2,cond_false]
 have:=rem_l (m+1) k v kza2373 (by omega) (m+2) 0 [] (Nat.zero_le _) (by omega) (Nat.zero_le _)
 rw[List.drop_zero,if_pos (Nat.zero_le _),Nat.sub_zero,List.nil_append] at this
 exact this
theorem set_l (m:Nat) (s:ByteArray) (k:Nat) (v r z:Dt) (hl:(Dt.L v 4).length≤137438953472) (hk:k<(Dt.L v 4).length):∀(M i:Nat) (out:List Dt),i≤(Dt.L v 4).length→(Dt.L v 4).length-i<M→out.length≤i→
  ref01_Set_l2 m M s (k:Int) (i:Int) v r z out=some (mkV v (Dt.L v 3) (out++(if i≤k then((Dt.L v 4).drop i).set (k-i) (.agg [.str (Dt.S (Dt.L v 4)[k] 0),r]) else(Dt.L v 4).drop i)))
 |0,i,_,_,h,_=>by omega
 |M+    1,i,out,hi,h,ho=>by
  simp only[ref01_Set_l2,dlt]
  by_cases hlt:i<(Dt.L v 4).length
  ·rw[   List.drop_eq_getElem_cons hlt]
   have ha:∀e:Dt,app out [e]=some (out++[e]):=fun e=>app_le (by simp;omega)
   simp only[hlt,decide_true,cond_true,ref01_Set_j3,ref01_Set_j4,ref01_Set_j5,idx_lt hlt,Option.bind_some,wrapS (show i<9223372036854775807 by omega),ha]
   by_cases hik:i=k
   ·    subst hik
        rw[show ((i:Int)==(i:Int))=true by simp,cond_true,set_l m s i v r z hl hk M (i+1) _ (by omega) (by omega) (by simp;omega),if_neg (by omega),if_pos (Nat.le_refl _),Nat.sub_self,List.set_cons_zero]
        simp
   ·    rw[show ((i:Int)==(k:Int))=false by simp;omega,cond_false,set_l m s k v r z hl hk M (i+1) _ (by omega) (by omega) (by simp;omega)]
        by_cases hik':i≤k
        ·rw[if_pos hik',if_pos (by omega),show k-i=(k-(i+1))+1 by omega,List.set_cons_succ]
         simp
        ·rw[if_neg hik',if_neg (by omega)]
         simp
  ·have e:i=(Dt.L v 4).length:=by omega
   rw[e,List.drop_length]
   simp only[Nat.lt_irrefl,decide_false,cond_false,ref01_Set_j6,dp2,ref01_Set_j7]
   split<;>simp[mkV]
theorem set_ln (m:Nat) (s:ByteArray) (v r z:Dt) (hl:(Dt.L v 4).length<137438953472):∀(M i:Nat) (out:List Dt),i≤(Dt.L v 4).length→(Dt.L v 4).length-i<M→out.length≤i→
  ref01_Set_l2 m M s (-1) (i:Int) v r z out=some (mkV v (Dt.L v 3) (out++(Dt.L v 4).drop i++[.agg [.str s,r]]))
 |0,i,_,_,h,_=>by omega
 |M+1,i,out,hi,h,ho=>by
  simp only[ref01_Set_l2,dlt]
  by_cases hlt:i<(Dt.L v 4).length
  ·rw[List.drop_eq_getElem_cons hlt]
   have ha:∀e:Dt,app out [e]=some (out++[e]):=fun e=>app_le (by simp;omega)
   simp only[hlt,decide_true,cond_true,ref01_Set_j3,ref01_Set_j4,ref01_Set_j5,idx_lt hlt,Option.bind_some,wrapS (show i<9223372036854775807 by omega),ha]
   rw[show ((i:Int)==(-1:Int))=false by rw[beq_eq_false_iff_ne];omega,cond_false,set_ln m s v r z hl M (i+1) _ (by omega) (by omega) (by simp;omega)]
   simp
  ·have e:i=(Dt.L v 4).length:=by omega
   rw[e,List.drop_length]
   simp only[Nat.lt_irrefl,decide_false,cond_false,ref01_Set_j6,dn2,cond_true,app_le (show out.length+[Dt.agg [.str s,r]].length≤137438953472 by simp;omega),Option.bind_some,ref01_Set_j7]
   simp[mkV]
theorem set_some (m:Nat) (s:ByteArray) (v r:Dt) (k:Nat) (h5:Dt.I v 0=5) (hm:v.bulk≤m) (hb:v.bulk≤137438953472) (hm2:m<9223372036854775807) (h:fi s (Dt.L v 4)=some k):ref01_Set (m+2) v s r=some (setF v k r):=by
 have hn:=L_len v 4
 have hk:=fi_lt h
 rw[ref01_Set,(b5 h5).2,cond_false,ref01_Set_j0,at_eq m s v h5 (by omega) hm2,h,oI0,Option.bind_some]
 have:=set_l (m+1) s k v r kza2373 (by omega) hk (m+2) 0 [] (Nat.zero_le _) (by omega) (Nat.zero_le _)
 rw[List.drop_zero,if_pos (Nat.zero_le _),Nat.sub_zero,List.nil_append] at this
 rw[setF,getD_lt hk]
 exact this
theorem set_none (m:Nat) (s:ByteArray) (v r:Dt) (h5:Dt.I v 0=5) (hm:v.bulk≤m) (hb:v.bulk≤137438953472) (hm2:m<9223372036854775807) (h:fi s (Dt.L v 4)=none):ref01_Set (m+2) v s r=some (addF v s r):=by
 have hn:=L_len v 4
 rw[ref01_Set,(b5 h5).2,cond_false,ref01_Set_j0,at_eq m s v h5 (by omega) hm2,h,oIn,Option.bind_some]
 have:=set_ln (m+1) s v r kza2373 (by omega) (m+2) 0 [] (Nat.zero_le _) (by omega) (Nat.zero_le _)
 rw[List.drop_zero,List.nil_append] at this
 exact this
theorem c1' (s:Dt) (p:List Dt):(((s::p).length:Int)==1)=p.isEmpty:=by
 cases p with
 |nil=>rfl
 |cons a r=>rw[List.length_cons,List.length_cons,List.isEmpty_cons,beq_eq_false_iff_ne];omega
theorem app_nil {l:List Dt} (h:l.length≤137438953472):app [] l=some l:=by rw[app_le (by simpa using h)];rfl
theorem get?_lt {l:List Dt} {n:Nat} (h:n<l.length):l[((n:Nat):Int).toNat]? =some l[n]:=by rw[Int.toNat_natCast];exact List.getElem?_eq_getElem h
theorem rdrop_eq:∀(p:List Dt) (N:Nat) (v:Dt),WV v→v.bulk≤N→N≤137438953472→∀m,N+p.length+10≤m→m<9223372036854775807→ref04_Drop (m+1) v p=some (dropP p v)
 | [],N,v,hw,hb,hN,m,hm,hm2=>rfl
 |s ::p,N,v,hw,hb,hN,m,hm,hm2=>by
  rw[List.length_cons] at hm
  obtain⟨m,rfl⟩:∃q,m=q+2:=⟨m-2,by omega⟩
  have hn:=L_len v 4
  have hn3:=L_len v 3
  have ih:=fun(c:Dt) (h1:WV c) (h2:c.bulk≤N)=>rdrop_eq p N c h1 h2 hN (m+1) (by omega) (by omega)
  rw[ref04_Drop,c1,cond_false,ref04_Drop_j0,dropP]
  have hs:=stp_is s.toStr v
  generalize stp s.toStr v=S at hs
  cases hs with
  | @fld k h5 h' hk=>
    have hc:=ch_F hw hk
    simp only[(b5 h5).1,cond_true,idx0,Option.bind_some,rget1 m s.toStr v h5 (by omega) (by omega),h',Bool.not_true,cond_false,ref04_Drop_j1,c1']
    cases p.isEmpty
    ·   simp only[cond_false,ref04_Drop_j2,idx0,cutL1,Option.bind_some,ih _ hc.2.1 (by omega),set_some m s.toStr v _ k h5 (by omega) (by omega) (by omega) h']
        rfl
    ·   simp only[cond_true,rem_eq m s.toStr v k h5 (by omega) (by omega) (by omega) h',Option.bind_some]
        rfl
  |newf h5 h'=>simp only[(b5 h5).1,cond_true,idx0,Option.bind_some,rget1 m s.toStr v h5 (by omega) (by omega),h',Bool.not_false]
  | @el n h6 h' hn'=>
    have hc:=ch_E hw hn'
    simp only[(b6 h6).1,(b6 h6).2.2.2,cond_false,ref04_Drop_j3,idx0,Option.bind_some,ref_num (m+1) (by omega),h',oP1,Bool.not_true,dle,show decide ((Dt.L v 3).length≤n)=false from decide_eq_false (by omega),ref04_Drop_j4,ref04_Drop_j5,app_nil (show (Dt.L v 3).length≤137438953472 by omega),c1',inL_lt hn',Int.toNat_natCast,List.getElem?_eq_getElem hn',cutL1,←hc.1,ih _ hc.2.1 (by omega),ref01_Null,ref04_Drop_j6]
    cases p.isEmpty<;>rfl
  | @newe n h6 h' hn'=>simp only[(b6 h6).1,(b6 h6).2.2.2,cond_false,ref04_Drop_j3,idx0,Option.bind_some,ref_num (m+1) (by omega),h',oP1,Bool.not_true,dle,show decide ((Dt.L v 3).length≤n)=true from decide_eq_true hn',ref04_Drop_j4,cond_true]
  |no6 h6 h'=>simp only[(b6 h6).1,(b6 h6).2.2.2,cond_false,ref04_Drop_j3,idx0,Option.bind_some,ref_num (m+1) (by omega),h',oPn,Bool.not_false,ref04_Drop_j4,cond_true]
  |no h5 h6=>simp only[(b5n h5).1,(b6n h6).2,cond_false,ref04_Drop_j3,idx0,Option.bind_some,ref_num (m+1) (by omega),ref04_Drop_j4,cond_true]
theorem put_l (m:Nat) (self:Dt→List Dt→Dt→Option (Dt×Bool)) (p:List Dt) (n:Nat) (hn:n<10000) (v x z:Dt):∀(M:Nat) (l:List Dt),n-l.length<M→l.length≤137438953472-20000→
  ref04_put_l6 (m+1) self M p (n:Int) v x z l=ref04_put_j8 (m+1) self p (n:Int) v x z (l++List.replicate (n-l.length) nullD)
 |0,l,h,_=>by omega
 |M+1,l,h,hl=>by
  rw[ref04_put_l6,dlt]
  by_cases hlt:l.length<n
  ·rw[decide_eq_true hlt,cond_true,ref04_put_j7]
   have ha:app l [nullD]=some (l++[nullD]):=app_le (by simp;omega)
   have e:ref01_Null (m+1)=some nullD:=rfl
   rw[e,Option.bind_some,ha,Option.bind_some,put_l m self p n hn v x z M (l++[nullD]) (by simp;omega) (by simp;omega),List.length_append,List.length_singleton,List.append_assoc,show [nullD]++List.replicate (n-(l.length+1)) nullD=List.replicate (n-l.length) nullD by rw[show n-l.length=(n-(l.length+1))+1 by omega,List.replicate_succ];rfl]
  ·rw[decide_eq_false hlt,cond_false,show n-l.length=0 by omega,List.replicate_zero,List.append_nil]
theorem rput_eq:∀(p:List Dt) (N:Nat) (v x:Dt),folP p v=true→WV v→v.bulk≤N→N+20000≤137438953472→∀m,N+p.length+20000≤m→m<9223372036854775807→(putP p v x).2=true∧ref04_put (m+1) v p x=some ((putP p v x).1,true)
 | [],N,v,x,_,hw,hb,hN,m,hm,hm2=>⟨rfl,rfl⟩
 |s ::p,N,v,x,hfo,hw,hb,hN,m,hm,hm2=>by
  rw[List.length_cons] at hm
  obtain⟨m,rfl⟩:∃q,m=q+2:=⟨m-2,by omega⟩
  have hn:=L_len v 4
  have hn3:=L_len v 3
  have ih:=fun(c:Dt) (h0:folP p c=true) (h1:WV c) (h2:c.bulk≤N)=>rput_eq p N c x h0 h1 h2 hN (m+1) (by omega) (by omega)
  rw[ref04_put,c1,cond_false,ref04_put_j0,putP]
  rw[folP] at hfo
  have hs:=stp_is s.toStr v
  generalize stp s.toStr v=S at hs hfo
  cases hs with
  | @fld k h5 h' hk=>
    have hc:=ch_F hw hk
    obtain⟨e2,e1⟩:=ih _ hfo hc.2.1 (by omega)
    have e1:ref04_put (m+2) (chF v k) p x=some ((putP p (chF v k) x).1,true):=e1
    refine⟨e2,?_⟩
    simp only[(b5 h5).1,cond_true,idx0,Option.bind_some,rget1 m s.toStr v h5 (by omega) (by omega),h',Bool.not_true,cond_false,ref04_put_j1,cutL1,e1,set_some m s.toStr v _ k h5 (by omega) (by omega) (by omega) h']
  |newf h5 h'=>cases hfo
  | @el n h6 h' hn'=>
    have hc:=ch_E hw hn'
    obtain⟨e2,e1⟩:=ih _ hfo hc.2.1 (by omega)
    have e1:ref04_put (m+2) (Dt.L v 3)[n] p x=some ((putP p (chE v n) x).1,true):=by rw[←hc.1];exact e1
    have hl:=put_l (m+1) (ref04_put (m+2)) (s::p) n (nu_lt h') v x zeroD (m+3) (Dt.L v 3) (by omega) (by omega)
    rw[show n-(Dt.L v 3).length=0 by omega,List.replicate_zero,List.append_nil] at hl
    refine⟨e2,?_⟩
    simp only[(b6 h6).1,(b6 h6).2.2.2,cond_false,ref04_put_j2,idx0,Option.bind_some,ref_num (m+1) (by omega),h',oP1,Bool.not_true,ref04_put_j3,ref04_put_j4,app_nil (show (Dt.L v 3).length≤137438953472 by omega),ref04_put_j5]
    refine hl.trans ?_
    rw[ref04_put_j8,dlt,decide_eq_true hn',cond_true,inL_lt hn',Option.bind_some,get?_lt hn',Option.bind_some,cutL1,Option.bind_some,e1,Option.bind_some,Option.bind_some,Option.bind_some,ref04_put_j9,Int.toNat_natCast]
    rfl
  | @newe n h6 h' hn'=>cases hfo
  |no6 h6 h'=>cases hfo
  |no h5 h6=>cases hfo
theorem folP_of:∀(p:List Dt) (v:Dt),Dt.I (getD p v) 0≠0→folP p v=true
 | [],_,_=>rfl
 |s::p,v,h=>by
  rw[getD] at h
  rw[folP]
  generalize stp s.toStr v=S at h ⊢
  cases S with
  |fld k=>exact folP_of p _ h
  |el n=>exact folP_of p _ h
  |newf=>exact absurd rfl h
  |newe n=>exact absurd rfl h
  |no=>exact absurd rfl h
theorem putP_wv:∀(p:List Dt) {v x:Dt},WV v→WV x→WV (putP p v x).1∧(putP p v x).1.bulk≤v.bulk+x.bulk
 | [],v,x,hw,hx=>⟨hx,show x.bulk≤_ by omega⟩
 |s ::p,v,x,hw,hx=>by
  rw[putP]
  have hs:=stp_is s.toStr v
  generalize stp s.toStr v=S at hs
  cases hs with
  | @fld k h5 h hk=>
    have hc:=ch_F hw hk
    have h2:=putP_wv p hc.2.1 hx
    have:=setF_bulk (c:=(putP p (chF v k) x).1) hw hk
    exact⟨setF_wv hw h2.1 k,by simp only;omega⟩
  |newf h5 h=>exact⟨hw,show v.bulk≤_ by omega⟩
  | @el n h6 h hn=>
    have hc:=ch_E hw hn
    have h2:=putP_wv p hc.2.1 hx
    have:=setE_bulk (c:=(putP p (chE v n) x).1) hw hn
    exact⟨setE_wv hw h2.1 n,by simp only;omega⟩
  | @newe n h6 h hn=>exact⟨hw,show v.bulk≤_ by omega⟩
  |no6 h6 h=>exact⟨hw,show v.bulk≤_ by omega⟩
  |no h5 h6=>exact⟨hw,show v.bulk≤_ by omega⟩
theorem putP_kind:∀(p:List Dt) (v x:Dt),p≠[]→Dt.I (putP p v x).1 0=Dt.I v 0
 | [],v,x,h=>absurd rfl h
 |s::p,v,x,_=>by
  rw[putP]
  have hs:=stp_is s.toStr v
  generalize stp s.toStr v=S at hs
  cases hs<;>rfl
theorem dropP_kind:∀(p:List Dt) (v:Dt),Dt.I (dropP p v) 0=Dt.I v 0
 | [],v=>rfl
 |s::p,v=>by
  rw[dropP]
  have hs:=stp_is s.toStr v
  generalize stp s.toStr v=S at hs
  cases hs with
  | @fld k=>show Dt.I (if p.isEmpty=true then mkV v (Dt.L v 3) ((Dt.L v 4).eraseIdx k) else setF v k (dropP p (chF v k))) 0=_;split<;>rfl
  | @el n=>show Dt.I (if p.isEmpty=true then setE v n nullD else setE v n (dropP p (chE v n))) 0=_;split<;>rfl
  |newf=>rfl
  |newe=>rfl
  |no6=>rfl
  |no=>rfl
end Go.Proofs.YtameompfdamfpaaGreatDoor
namespace Go.Proofs.YtameompfdamfpaaGreatDoor
open Go.Am
def vld (l:List Dt):Bool:=decide (1≤l.length)&&decide (l.length≤16)&&l.all fun e=>nm e.toStr
theorem notName_l (m:Nat) (s:ByteArray) (hs:s.size<9223372036854775807):∀(M i:Nat),i≤s.size→s.size-i<M→P1.path_notName_l3 m M s (s.size:Int) (i:Int)=some (!((s.data.toList.drop i).all okB))
 |0,i,_,h=>by omega
 |M+1,i,hi,h=>by
  simp only[P1.path_notName_l3,dlt]
  by_cases hlt:i<s.size
  ·rw[getB s i hlt]
   simp only[hlt,decide_true,cond_true,P1.path_notName_j4,P1.path_notName_j5,P1.path_notName_j6,idxS_lt hlt,Option.bind_some,wrapS (show i<9223372036854775807 by omega),notName_l m s hs M (i+1) (by omega) (by omega),List.all_cons,okB]
   cases decide (((s[i]).toNat:Int)<33)<;>cases decide ((126:Int)<((s[i]).toNat:Int))<;>cases (((s[i]).toNat:Int)==46)<;>rfl
  ·have:i=s.size:=by omega
   subst this
   rw[List.drop_eq_nil_of_le (by rw[lenB];omega)]
   simp[P1.path_notName_j7]
theorem notName_eq (m:Nat) (hm:33≤m) (s:ByteArray):P1.path_notName (m+1) s=some (!nm s):=by
 rw[P1.path_notName]
 by_cases h1:s.size<1
 ·rw[decide_eq_true (show ((s.size:Nat):Int)<1 by omega),cond_true,nm_short s h1]
  rfl
 rw[decide_eq_false (show ¬((s.size:Nat):Int)<1 by omega),cond_false]
 by_cases h2:32<s.size
 ·rw[decide_eq_true (show (32:Int)<((s.size:Nat):Int) by omega),cond_true,nm_long s h2]
  rfl
 rw[decide_eq_false (show ¬(32:Int)<((s.size:Nat):Int) by omega),cond_false]
 have hx:idxS s 0=some (s[0].toNat:Int):=idxS_lt (s:=s) (i:=0) (by omega)
 have hl:=notName_l m s (by omega) (m+1) 0 (by omega) (by omega)
 rw[List.drop_zero] at hl
 have hl':P1.path_notName_l3 m (Nat.succ m) s (s.size:Int) 0=some (!s.data.toList.all okB):=hl
 simp only[hx,Option.bind_some,P1.path_notName_j0,P1.path_notName_j1,P1.path_notName_j2,hl',nm_parts s (by omega) (by omega)]
 cases (((s[0]).toNat:Int)==36)<;>rfl
theorem indexf_l (m:Nat) (hm:34≤m) (l:List Dt) (hl:l.length<9223372036854775807):∀(M i:Nat),i≤l.length→l.length-i<M→∃r,P1.i4_l1 m M l (l.length:Int) (i:Int)=some r∧decide ((0:Int)≤r)=!((l.drop i).all fun e=>nm e.toStr)
 |0,i,_,h=>by omega
 |M+1,i,hi,h=>by
  obtain⟨m,rfl⟩:∃k,m=k+1:=⟨m-1,by omega⟩
  simp only[P1.i4_l1,dlt]
  by_cases hlt:i<l.length
  ·rw[List.drop_eq_getElem_cons hlt]
   obtain⟨r,h1,h2⟩:=indexf_l (m+1) hm l hl M (i+1) (by omega) (by omega)
   simp only[hlt,decide_true,cond_true,P1.i4_j2,P1.i4_j3,idx_lt hlt,Option.bind_some,wrapS (show i<9223372036854775807 by omega),notName_eq m (by omega),h1,List.all_cons]
   cases hn:nm (l[i]).toStr
   ·exact⟨(i:Int),by simp,by simp⟩
   ·exact⟨r,by simp,by simpa using h2⟩
  ·have:i=l.length:=by omega
   subst this
   exact⟨-1,by simp[P1.i4_j4],by simp⟩
theorem valid_eq (m:Nat) (hm:40≤m) (l:List Dt):P1.path_Valid (m+3) l=some (vld l):=by
 rw[P1.path_Valid,vld]
 by_cases h1:1≤l.length
 ·rw[decide_eq_true (show (1:Int)≤((l.length:Nat):Int) by omega),cond_true,decide_eq_true h1,Bool.true_and]
  by_cases h2:l.length≤16
  ·rw[decide_eq_true (show ((l.length:Nat):Int)≤(16:Int) by omega),cond_true,decide_eq_true h2,Bool.true_and]
   obtain⟨r,h3,h4⟩:=indexf_l m (by omega) l (by omega) (m+1) 0 (by omega) (by omega)
   have h3':P1.i4_l1 m (Nat.succ m) l (l.length:Int) 0=some r:=h3
   simp only[P1.i3,P1.i4,P1.i4_j0,h3',Option.bind_some,h4,Bool.not_not,List.drop_zero]
  ·rw[decide_eq_false (show ¬((l.length:Nat):Int)≤(16:Int) by omega),cond_false,decide_eq_false h2,Bool.false_and]
 ·rw[decide_eq_false (show ¬(1:Int)≤((l.length:Nat):Int) by omega),cond_false,decide_eq_false h1,Bool.false_and,Bool.false_and]
theorem refvalid_l (m:Nat) (hm:34≤m) (l:List Dt) (hl:l.length<9223372036854775807):∀(M i:Nat),i≤l.length→l.length-i<M→ref04_Valid_l3 m M l (i:Int)=some ((l.drop i).all fun e=>nm e.toStr)
 |0,i,_,h=>by omega
 |M+1,i,hi,h=>by
  obtain⟨m,rfl⟩:∃k,m=k+1:=⟨m-1,by omega⟩
  simp only[ref04_Valid_l3,dlt]
  by_cases hlt:i<l.length
  ·rw[List.drop_eq_getElem_cons hlt]
   simp only[hlt,decide_true,cond_true,ref04_Valid_j5,ref04_Valid_j4,ref04_Valid_j6,ref04_Valid_j2,ref04_Valid_j1,ref04_Valid_j0,idx_lt hlt,Option.bind_some,wrapS (show i<9223372036854775807 by omega),name_eq m (by omega),refvalid_l (m+1) hm l hl M (i+1) (by omega) (by omega),List.all_cons]
   cases nm (l[i]).toStr<;>rfl
  ·have:i=l.length:=by omega
   subst this
   simp[ref04_Valid_j5,ref04_Valid_j4,ref04_Valid_j6,ref04_Valid_j2,ref04_Valid_j1,ref04_Valid_j0]
theorem refvalid_eq (m:Nat) (hm:40≤m) (l:List Dt):ref04_Valid (m+1) l=some (vld l):=by
 rw[ref04_Valid,vld]
 by_cases h1:l.length<1
 ·rw[decide_eq_true (show ((l.length:Nat):Int)<(1:Int) by omega),cond_true,decide_eq_false (show ¬1≤l.length by omega),Bool.false_and,Bool.false_and]
  rfl
 rw[decide_eq_false (show ¬((l.length:Nat):Int)<(1:Int) by omega),cond_false,decide_eq_true (show 1≤l.length by omega),Bool.true_and]
 by_cases h2:16<l.length
 ·rw[decide_eq_true (show (16:Int)<((l.length:Nat):Int) by omega),decide_eq_false (show ¬l.length≤16 by omega),Bool.false_and]
  rfl
 rw[decide_eq_false (show ¬(16:Int)<((l.length:Nat):Int) by omega),decide_eq_true (show l.length≤16 by omega),Bool.true_and]
 have h3:=refvalid_l m (by omega) l (by omega) (m+1) 0 (by omega) (by omega)
 have h3':ref04_Valid_l3 m (Nat.succ m) l 0=_:=h3
 simp only[cond_false,ref04_Valid_j5,ref04_Valid_j4,ref04_Valid_j6,ref04_Valid_j2,ref04_Valid_j1,ref04_Valid_j0,h3',List.drop_zero]
end Go.Proofs.YtameompfdamfpaaGreatDoor
