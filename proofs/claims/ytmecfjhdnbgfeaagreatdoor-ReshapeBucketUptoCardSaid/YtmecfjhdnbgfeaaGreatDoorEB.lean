/- expr: operators on lists, by the program and by the reference.
expr:each operator on lists.
expr:the reference's operators on one list;joined strings.
expr:lists and documents out of the values of kids.
expr:each operator,by the program's and the reference's branches. Printed by eap.py.
expr:the loops over kids,elements and variables. -/
import Derived.Test.YtmecfjhdnbgfeaaGreatDoorEA
set_option linter.unusedVariables false
set_option linter.unusedSimpArgs false
namespace Go.Proofs.YtmecfjhdnbgfeaaGreatDoor
open Go.Am
def zo (l:List Dt):List Dt:=l.flatMap fun d=>Dt.L d 3
theorem uF (a:Dt) (l:List Dt):zo (a::l)=Dt.L a 3++zo l:=rfl
theorem U0 (m:Nat) (op:Int) (ks l:List Dt) (z:Dt) (hl:l.length<9223372036854775807):∀(M i:Nat) (acc:List Dt),i≤l.length→l.length-i<M→acc.length+(zo (l.drop i)).length≤137438953472→
  mG (m+1) M op ks l (l.length:Int) (i:Int) z acc=bif (l.drop i).all (isK 6) then tO (m+1) op ks z (acc++zo (l.drop i)) else some (kV 2 0)
 |0,i,_,_,h,_=>by omega
 |M+1,i,acc,hi,h,hc=>by
  simp only[mG,dlt]
  by_cases hlt:i<l.length
  ·rw[fT hlt] at hc
   rw[uF,List.length_append] at hc
   rw[fT hlt,List.all_cons,uF]
   simp only[hlt,decide_true,cond_true,aC hlt,Option.bind_some,aM (show i<9223372036854775807 by omega),Gg,isK]
   cases hk:(Dt.I l[i] 0==6)
   ·rw[show (Dt.I l[i] 0 !=6)=true by rw[bne,hk];rfl];rfl
   ·rw[show (Dt.I l[i] 0 !=6)=false by rw[bne,hk];rfl,cond_false,Bool.true_and,jg (by omega),Option.bind_some,U0 m op ks l z hl M (i+1) _ (by omega) (by omega) (by rw[List.length_append];omega),List.append_assoc]
  ·rw[jl hlt]
   simp only[hlt,decide_false,cond_false,List.all_nil,cond_true]
   rw[show zo []=[] from rfl,List.append_nil]
theorem Gt (m:Nat) (op:Int) (ks l:List Dt) (hl:l.length<9223372036854775807) (hm:l.length≤m) (hc:(zo l).length≤137438953472):
  dD (m+1) op ks l kza2373=bif l.all (isK 6) then tO (m+1) op ks kza2373 (zo l) else some (kV 2 0):=by
 have h:=U0 m op ks l kza2373 hl (Nat.succ (m+1)) 0 [] (Nat.zero_le _) (by omega) (by rw[List.drop_zero];simpa using hc)
 rw[List.drop_zero,List.nil_append] at h
 exact h
def aqB (l:List Dt):Int:=l.foldl (fun n d=>bif isK 3 d then w64 (n+Dt.I d 1) else n) 0
theorem K4 (m:Nat) (l:List Dt) (z:Dt) (hl:l.length<9223372036854775807):∀(M i:Nat) (n:Int),i≤l.length→l.length-i<M→iM (m+1) M n l (l.length:Int) (i:Int) z=some (kV 3 ((l.drop i).foldl (fun n d=>bif isK 3 d then w64 (n+Dt.I d 1) else n) n))
 |0,i,_,_,h=>by omega
 |M+    1,i,n,hi,h=>by
  simp only[iM,dlt]
  by_cases hlt:i<l.length
  ·rw[fT hlt,List.foldl_cons]
   simp only[hlt,decide_true,cond_true,aC hlt,Option.bind_some,aM (show i<9223372036854775807 by omega),isK]
   cases hk:(Dt.I l[i] 0==3)
   ·    simp only[cond_false]
        exact K4 m l z hl M (i+1) _ (by omega) (by omega)
   ·    simp only[cond_true]
        exact K4 m l z hl M (i+1) _ (by omega) (by omega)
  ·rw[jl hlt]
   simp only[hlt,decide_false,cond_false,int_eq,Option.bind_some,List.foldl_nil]
def anL (l R:List Dt) (i:Nat):Prop:=R.length=l.length∧∀k (hk:k<l.length),R[k]? =if k<i∨l.length≤k+i then l[l.length-1-k]? else l[k]?
theorem ai6 {l R:List Dt} {i:Nat} (h:anL l R i) (hi:l.length≤2*i+1):R=l.reverse:=by
 apply List.ext_getElem?
 intro k
 by_cases hk:k<l.length
 ·rw[h.2 k hk,List.getElem?_reverse hk]
  by_cases hc:k<i∨l.length≤k+i
  ·rw[if_pos hc]
  ·rw[if_neg hc,show l.length-1-k=k by omega]
 ·rw[List.getElem?_eq_none (by have:=h.1;omega),List.getElem?_eq_none (by rw[List.length_reverse];omega)]
theorem U1 (m:Nat) (l:List Dt) (z:Dt) (hl:l.length<9223372036854775807):∀(M i:Nat) (R:List Dt),2*i≤l.length→l.length-i<M→anL l R i→jy m M (i:Int) ((l.length:Int)-1-i) z R=some (uz l.reverse)
 |0,i,_,_,h,_=>by omega
 |M+    1,i,R,hi,h,hR=>by
  rw[jy]
  by_cases hlt:(i:Int)<(l.length:Int)-1-i
  ·obtain⟨j,hj⟩:∃j:Nat,(l.length:Int)-1-i=j:=⟨l.length-1-i,by omega⟩
   have hjl:j=l.length-1-i:=by omega
   have hil:i<R.length:=by have:=hR.1;omega
   have hjR:j<R.length:=by have:=hR.1;omega
   have gi:R[i]? =l[i]? :=by rw[hR.2 i (by omega),if_neg (by omega)]
   have gj:R[j]? =l[j]? :=by rw[hR.2 j (by omega),if_neg (by omega)]
   have li:l[i]? =some l[i]:=List.getElem?_eq_getElem (by omega)
   have lj:l[j]? =some l[j]:=List.getElem?_eq_getElem (by omega)
   have hjs:j<(R.set i l[j]).length:=by rw[List.length_set];exact hjR
   have gs:(R.set i l[j])[j]? =l[j]? :=by rw[List.getElem?_set_ne (by omega),gj]
   rw[decide_eq_true hlt,cond_true,hj]
   rw[tY hjR,Option.bind_some,Int.toNat_natCast,gj,lj,Option.bind_some,tY hil,Option.bind_some,Int.toNat_natCast,gi,li,Option.bind_some,Option.bind_some,Option.bind_some]
   rw[tY hjs,Option.bind_some,gs,lj,Option.bind_some,aM (by omega),wrap64 (by omega) (by omega)]
   have e2:(j:Int)-1=(l.length:Int)-1-((i+1:Nat):Int):=by omega
   rw[e2]
   refine U1 m l z hl M (i+1) _ (by omega) (by omega) ⟨by rw[List.length_set,List.length_set];exact hR.1,fun k hk=>?_⟩
   by_cases h1:k=j
   ·    subst h1
        rw[List.getElem?_set_self (by rw[List.length_set];omega),if_pos (by omega),show l.length-1-k=i by omega,li]
   ·    rw[List.getElem?_set_ne (by omega)]
        by_cases h2:k=i
        ·subst h2
         rw[List.getElem?_set_self (by omega),if_pos (by omega),←hjl,lj]
        ·rw[List.getElem?_set_ne (by omega),hR.2 k hk]
         by_cases h3:k<i∨l.length≤k+i
         ·rw[if_pos h3,if_pos (by omega)]
         ·rw[if_neg h3,if_neg (by omega)]
  ·rw[decide_eq_false hlt,cond_false,oG,ai6 hR (by omega)]
   rfl
def U2 (l:List Dt) (i:Dt):Dt:=bif isK 3 i then
    (bif decide ((bif decide (Dt.I i 1<0) then w64 (Dt.I i 1+(l.length:Int)) else Dt.I i 1)<0)||decide ((l.length:Int)≤(bif decide (Dt.I i 1<0) then w64 (Dt.I i 1+(l.length:Int)) else Dt.I i 1)) then kza2373
    else l.getD (bif decide (Dt.I i 1<0) then w64 (Dt.I i 1+(l.length:Int)) else Dt.I i 1).toNat kza2373)
 else kV 2 0
theorem U3 {l:List Dt} {n:Int} (h0:¬n<0) (h1:¬(l.length:Int)≤n):idx l n=some (l.getD n.toNat kza2373):=by
 obtain⟨k,rfl⟩:=Oc h0
 rw[aC (show k<l.length by omega),Int.toNat_natCast,List.getD_eq_getElem?_getD,List.getElem?_eq_getElem (by omega)]
 rfl
theorem aes (m:Nat) (l:List Dt) (n:Int) (z:Dt):mF m l n z=some (bif decide (n<0)||decide ((l.length:Int)≤n) then kza2373 else l.getD n.toNat kza2373):=by
 rw[mF]
 by_cases h0:n<0
 ·rw[decide_eq_true h0];rfl
 ·rw[decide_eq_false h0,cond_false,Bool.false_or]
  by_cases h1:(l.length:Int)≤n
  ·rw[decide_eq_true h1];rfl
  ·rw[decide_eq_false h1,cond_false,pJ,cond_false,U3 h0 h1]
   rfl
theorem alp (m:Nat) (l:List Dt) (i:Dt):jF (m+2) l i=some (U2 l i):=by
 rw[jF,U2,isK,Gg]
 cases h3:(Dt.I i 0==3)
 ·rw[show (Dt.I i 0 !=3)=true by rw[bne,h3];rfl];rfl
 ·rw[show (Dt.I i 0 !=3)=false by rw[bne,h3];rfl,cond_false,cond_true]
  cases decide (Dt.I i 1<0)
  ·rw[cond_false,cond_false,aes]
  ·rw[cond_true,cond_true,aes]
   rfl
theorem aav (m:Nat) (d:Dt) (n:Int) (z:Dt):kL m n d z=some (bif decide (n<0)||decide (((Dt.L d 3).length:Int)≤n) then kza2373 else(Dt.L d 3).getD n.toNat kza2373):=by
 rw[kL]
 by_cases h0:n<0
 ·rw[decide_eq_true h0];rfl
 ·rw[decide_eq_false h0,cond_false,Bool.false_or]
  by_cases h1:((Dt.L d 3).length:Int)≤n
  ·rw[decide_eq_true h1];rfl
  ·rw[decide_eq_false h1,cond_false,oD,cond_false,U3 h0 h1]
   rfl
theorem ai7 (m:Nat) (d i z:Dt) (h3:isK 3 i=true):rM m d i z=some (U2 (Dt.L d 3) i):=by
 rw[rM,U2,h3,cond_true]
 cases decide (Dt.I i 1<0)
 ·rw[cond_false,cond_false,aav]
 ·rw[cond_true,cond_true,aav]
  rfl
end Go.Proofs.YtmecfjhdnbgfeaaGreatDoor
namespace Go.Proofs.YtmecfjhdnbgfeaaGreatDoor
open Go.Am
def U4 (a:Dt):Dt:=bif isK 6 a then kV 3 ((Dt.L a 3).length:Int) else kV 2 0
def U5 (a:Dt):Dt:=bif isK 6 a then uz (Dt.L a 3).reverse else kV 2 0
def U6 (a:Dt):Dt:=bif isK 6 a then kV 3 (aqB (Dt.L a 3)) else kV 2 0
def U7 (l:List Dt):Dt:=bif l.all (isK 6) then uz (zo l) else kV 2 0
def U8 (a i:Dt):Dt:=bif isK 6 a then U2 (Dt.L a 3) i else kV 2 0
def Yd (q:Dt→Bool) (l:Dt):Dt:=bif isK 6 l then bV ((Dt.L l 3).any q) else kV 2 0
theorem o8 (a:Dt):zo [a]=Dt.L a 3:=by rw[uF];exact List.append_nil _
theorem EP (k:Int) (a:Dt):[a].all (isK k)=isK k a:=by rw[List.all_cons,List.all_nil,Bool.and_true]
theorem alq (m:Nat) (a:Dt) (h:(Dt.L a 3).length≤137438953472):bF (m+3) 26 [a]=some (U4 a):=by
 show dD (m+2) 26 [a] [a] kza2373=_
 rw[Gt (m+1) 26 [a] [a] (by simp) (by simp) (by rw[o8];exact h),EP,o8,U4]
 cases isK 6 a<;>rfl
theorem rev_eq (m:Nat) (a:Dt) (h:(Dt.L a 3).length≤137438953472) (hm:(Dt.L a 3).length≤m):bF (m+3) 30 [a]=some (U5 a):=by
 show dD (m+2) 30 [a] [a] kza2373=_
 rw[Gt (m+1) 30 [a] [a] (by simp) (by simp) (by rw[o8];exact h),EP,o8,U5]
 cases isK 6 a
 ·rfl
 ·rw[cond_true,cond_true]
  show jy (m+2) (Nat.succ (m+2)) 0 (IntKind.wrap .i64 (((Dt.L a 3).length:Int)-1)) kza2373 (Dt.L a 3)=_
  rw[wrap64 (by omega) (by omega)]
  have:=U1 (m+2) (Dt.L a 3) kza2373 (by omega) (Nat.succ (m+2)) 0 (Dt.L a 3) (by omega) (by omega) ⟨rfl,fun k hk=>by rw[if_neg (by omega)]⟩
  simpa using this
theorem alr (m:Nat) (a:Dt) (h:(Dt.L a 3).length≤137438953472) (hm:(Dt.L a 3).length≤m):bF (m+3) 31 [a]=some (U6 a):=by
 show dD (m+2) 31 [a] [a] kza2373=_
 rw[Gt (m+1) 31 [a] [a] (by simp) (by simp) (by rw[o8];exact h),EP,o8,U6]
 cases isK 6 a
 ·rfl
 ·rw[cond_true,cond_true]
  have:=K4 (m+1) (Dt.L a 3) kza2373 (by omega) (Nat.succ (m+2)) 0 0 (Nat.zero_le _) (by omega)
  rw[List.drop_zero] at this
  exact this
theorem als (m:Nat) (l:List Dt) (hl:l.length≤m) (hl2:l.length<9223372036854775807) (h:(zo l).length≤137438953472):bF (m+3) 29 l=some (U7 l):=by
 show dD (m+2) 29 l l kza2373=_
 rw[Gt (m+1) 29 l l hl2 (by omega) h,U7]
 cases l.all (isK 6)<;>rfl
theorem alu (m:Nat) (a i:Dt) (h:(Dt.L a 3).length≤137438953472):bF (m+4) 27 [a,i]=some (U8 a i):=by
 show dD (m+3) 27 [a,i] [a] kza2373=_
 rw[Gt (m+2) 27 [a,i] [a] (by simp) (by simp) (by rw[o8];exact h),EP,o8,U8]
 cases isK 6 a
 ·rfl
 ·rw[cond_true,cond_true]
  show ((jF (m+3) (Dt.L a 3) i).bind _:Option Dt)=_
  rw[alp,Option.bind_some]
theorem U9 (m:Nat) (v w:Dt) (l:List Dt) (z:Dt) (q:Dt→Bool) (hl:l.length<9223372036854775807) (hq:∀x∈l,iI (m+1) x v=some (q x)):∀(M i:Nat),i≤l.length→l.length-i<M→kS (m+1) M [v,w] l (l.length:Int) (i:Int) z=some (bV ((l.drop i).any q))
 |0,i,_,h=>by omega
 |M+1,i,hi,h=>by
  simp only[kS,dlt]
  by_cases hlt:i<l.length
  ·have ih:=U9 m v w l z q hl hq M (i+1) (by omega) (by omega)
   rw[fT hlt]
   simp only[hlt,decide_true,cond_true,aC hlt,aku,hq _ (List.getElem_mem hlt),Gi,Option.bind_some,aM (show i<9223372036854775807 by omega),ih,List.any_cons]
   cases q l[i]<;>rfl
  ·rw[jl hlt]
   simp only[hlt,decide_false,cond_false,Gi,Option.bind_some,List.any_nil]
theorem alv (m:Nat) (v a:Dt) (q:Dt→Bool) (h:(Dt.L a 3).length≤137438953472) (hm:(Dt.L a 3).length≤m) (hq:∀x∈Dt.L a 3,iI (m+2) x v=some (q x)):bF (m+3) 28 [v,a]=some (Yd q a):=by
 show dD (m+2) 28 [v,a] [a] kza2373=_
 rw[Gt (m+1) 28 [v,a] [a] (by simp) (by simp) (by rw[o8];exact h),EP,o8,Yd]
 cases isK 6 a
 ·rfl
 ·rw[cond_true,cond_true]
  have:=U9 (m+1) v a (Dt.L a 3) kza2373 q (by omega) hq (Nat.succ (m+2)) 0 (Nat.zero_le _) (by omega)
  rw[List.drop_zero] at this
  exact this
theorem Qe (m:Nat) (v:Dt) (l:List Dt) (q:Dt→Bool) (hl:l.length<9223372036854775807) (hq:∀x∈l,iJ m x v=some (q x)):∀(M i:Nat),i≤l.length→l.length-i<M→jK m M l (i:Int) v=some ((l.drop i).any q)
 |0,i,_,h=>by omega
 |M+1,i,hi,h=>by
  simp only[jK,dlt]
  by_cases hlt:i<l.length
  ·have ih:=Qe m v l q hl hq M (i+1) (by omega) (by omega)
   rw[fT hlt]
   simp only[hlt,decide_true,cond_true,aC hlt,hq _ (List.getElem_mem hlt),Option.bind_some,aM (show i<9223372036854775807 by omega),ih,List.any_cons]
   cases q l[i]<;>rfl
  ·rw[jl hlt]
   simp only[hlt,decide_false,cond_false,List.any_nil]
theorem ai8 (m:Nat) (v:Dt) (l:List Dt) (q:Dt→Bool) (hl:l.length<9223372036854775807) (hm:l.length≤m) (hq:∀x∈l,iJ m x v=some (q x)):iX (m+1) l v=some (l.any q):=by
 have:=Qe m v l q hl hq (Nat.succ m) 0 (Nat.zero_le _) (by omega)
 rw[List.drop_zero] at this
 exact this
theorem ai9 (m:Nat) (a i:Dt):iB (m+2) a i=some (U8 a i):=by
 rw[iB,U8,isK]
 cases h6:(Dt.I a 0==6)
 ·rw[show (Dt.I a 0 !=6)=true by rw[bne,h6];rfl];rfl
 ·rw[show (Dt.I a 0 !=6)=false by rw[bne,h6];rfl,cond_false,cond_true]
  cases h3:isK 3 i
  ·rw[show (Dt.I i 0 !=3)=true by rw[isK] at h3;rw[bne,h3];rfl,U2,h3];rfl
  ·rw[show (Dt.I i 0 !=3)=false by rw[isK] at h3;rw[bne,h3];rfl,oF,cond_false,ai7 _ _ _ _ h3]
theorem Qf (m:Nat) (l:List Dt) (z:Dt) (hl:l.length<9223372036854775807):∀(M i:Nat) (acc:List Dt),i≤l.length→l.length-i<M→acc.length+(zo (l.drop i)).length≤137438953472→
  oQ m M l (i:Int) z 6 0 (ByteArray.mk (List.toArray [])) acc []=some (uz (acc++zo (l.drop i)))
 |0,i,_,_,h,_=>by omega
 |M+1,i,acc,hi,h,hc=>by
  simp only[oQ,dlt]
  by_cases hlt:i<l.length
  ·rw[fT hlt] at hc
   rw[uF,List.length_append] at hc
   rw[fT hlt,uF]
   simp only[hlt,decide_true,cond_true,aC hlt,Option.bind_some,aM (show i<9223372036854775807 by omega)]
   rw[jg (by omega),Option.bind_some,Qf m l z hl M (i+1) _ (by omega) (by omega) (by rw[List.length_append];omega),List.append_assoc]
  ·rw[jl hlt]
   simp only[hlt,decide_false,cond_false]
   rw[show zo []=[] from rfl,List.append_nil]
   rfl
theorem aja (m:Nat) (l:List Dt) (hl:l.length≤m) (hl2:l.length<9223372036854775807) (h:(zo l).length≤137438953472):nW (m+2) l=some (U7 l):=by
 rw[nW,N9 m l 6 hl2 hl,Option.bind_some,U7,Gh]
 cases l.all (isK 6)
 ·rfl
 ·have:=Qf (m+1) l kza2373 hl2 (Nat.succ (m+1)) 0 [] (Nat.zero_le _) (by omega) (by rw[List.drop_zero];simpa using h)
  rw[List.drop_zero,List.nil_append] at this
  exact this
end Go.Proofs.YtmecfjhdnbgfeaaGreatDoor
namespace Go.Proofs.YtmecfjhdnbgfeaaGreatDoor
open Go.Am
theorem aaw (m:Nat) (op:Int) (v z:Dt) (hl:(Dt.L v 3).length≤137438953472):∀(M i:Nat) (acc:List Dt) (n:Int),i≤(Dt.L v 3).length→acc.length≤i→(Dt.L v 3).length-i<M→
  mY (m+1) M op n (i:Int) v z 6 0 (ByteArray.mk (List.toArray [])) acc []=some (bif op==31 then kV 3 (((Dt.L v 3).drop i).foldl (fun n d=>bif isK 3 d then w64 (n+Dt.I d 1) else n) n) else uz (acc++(Dt.L v 3).reverse.drop i))
 |0,i,_,_,_,_,h=>by omega
 |M+    1,i,acc,n,hi,ha,h=>by
  simp only[mY,dlt]
  by_cases hlt:i<(Dt.L v 3).length
  ·have hr:i<(Dt.L v 3).reverse.length:=by rw[List.length_reverse];exact hlt
   have e1:IntKind.wrap .i64 (IntKind.wrap .i64 (((Dt.L v 3).length:Int)-1)-(i:Int))=(((Dt.L v 3).length-1-i:Nat):Int):=by
        rw[wrap64 (n:=((Dt.L v 3).length:Int)-1) (by omega) (by omega),wrap64 (by omega) (by omega)];omega
   have hj:(Dt.L v 3).length-1-i<(Dt.L v 3).length:=by omega
   have er:(Dt.L v 3).reverse[i]=(Dt.L v 3)[(Dt.L v 3).length-1-i]:=List.getElem_reverse hr
   have hac:(acc++[(Dt.L v 3)[(Dt.L v 3).length-1-i]]).length≤i+1:=by rw[List.length_append];simp;omega
   have ap:app acc [(Dt.L v 3)[(Dt.L v 3).length-1-i]]=some (acc++[(Dt.L v 3)[(Dt.L v 3).length-1-i]]):=jg (by simp;omega)
   have ih:=fun n=>aaw m op v z hl M (i+1) (acc++[(Dt.L v 3)[(Dt.L v 3).length-1-i]]) n (by omega) hac (by omega)
   rw[fT hlt,fT hr,List.foldl_cons,er]
   simp only[hlt,decide_true,cond_true,e1,aC hj,ap,aC hlt,Option.bind_some,aM (show i<9223372036854775807 by omega),ih,isK,List.append_assoc,List.singleton_append]
   cases (Dt.I (Dt.L v 3)[i] 0==3)<;>rfl
  ·rw[jl hlt,jl (by rw[List.length_reverse];exact hlt),List.append_nil]
   simp only[hlt,decide_false,cond_false,Ut,Option.bind_some,List.foldl_nil]
   cases (op==31)<;>rfl
def liS (op:Int) (a:Dt):Dt:=bif op==26 then U4 a else bif op==31 then U6 a else U5 a
theorem K6 (m:Nat) (op:Int) (a:Dt) (h:(Dt.L a 3).length≤137438953472) (hm:(Dt.L a 3).length≤m) (ho:op=26∨op=30∨op=31):jX (m+2) op a=some (liS op a):=by
 have hlp:=aaw m op a kza2373 h (Nat.succ (m+1)) 0 [] 0 (Nat.zero_le _) (Nat.le_refl _) (by omega)
 rw[List.drop_zero,List.drop_zero,List.nil_append] at hlp
 rw[jX,Gh,liS,U4,U6,U5,isK]
 cases h6:(Dt.I a 0==6)
 ·rw[show (Dt.I a 0 !=6)=true by rw[bne,h6];rfl]
  rcases ho with rfl|rfl|rfl<;>rfl
 ·rw[show (Dt.I a 0 !=6)=false by rw[bne,h6];rfl]
  rcases ho with rfl|rfl|rfl
  ·rfl
  ·exact hlp
  ·exact hlp
def JM:Nat→List Dt→ByteArray→ByteArray
 |_,[],s=>s
 |n,d::l,s=>if s.size≤4096 then JM n l (s++Dt.S d 2) else s
theorem Va (m:Nat) (l:List Dt) (z:Dt) (hl:l.length<9223372036854775807) (hs:∀d∈l,(Dt.S d 2).size≤1000000000000000):∀(M i:Nat) (s:ByteArray),i≤l.length→l.length-i<M→mH (m+1) M l s (i:Int) z=some (y8 (JM 0 (l.drop i) s))
 |0,i,_,_,h=>by omega
 |M+    1,i,s,hi,h=>by
  simp only[mH,dlt]
  by_cases hlt:i<l.length
  ·rw[fT hlt,JM]
   simp only[hlt,decide_true,cond_true]
   by_cases h4:s.size≤4096
   ·    have:=hs _ (List.getElem_mem hlt)
        rw[decide_eq_true (by omega),cond_true,if_pos h4,aC hlt,Option.bind_some,aci (by omega),cond_true,aM (by omega)]
        exact Va m l z hl hs M (i+1) _ (by omega) (by omega)
   ·    rw[decide_eq_false (by omega),cond_false,if_neg h4]
        rfl
  ·rw[jl hlt]
   simp only[hlt,decide_false,cond_false,JM]
   rfl
def Ye (l:List Dt):Dt:=bif l.all (isK 4) then y8 (JM 0 l (ByteArray.mk (List.toArray []))) else kV 2 0
theorem alx (m:Nat) (l:List Dt) (hl:l.length<9223372036854775807) (hm:l.length≤m) (hs:∀d∈l,(Dt.S d 2).size≤1000000000000000):jI (m+2) l=some (Ye l):=by
 rw[jI,N9 m l 4 hl hm,Option.bind_some,Ye,Gh]
 cases l.all (isK 4)
 ·rfl
 ·have:=Va m l kza2373 hl hs (Nat.succ (m+1)) 0 (ByteArray.mk (List.toArray [])) (Nat.zero_le _) (by omega)
  rw[List.drop_zero] at this
  exact this
def Yf (l:List Dt):Dt:=bif l.all (isK 4) then y8 (bs (catB l)) else kV 2 0
theorem aly (l:List Dt) (h:(catB l).length≤137438953472):bR 21 l=some (Yf l):=by
 rw[bR,show ((21:Int)==21)=true from rfl,cond_true,Nat.ble_eq_true_of_le h,cond_true,Yf]
 rfl
theorem aax:∀(l:List Dt) (s:ByteArray),JM 0 l s=s++bs (catB l)∨(4096<(JM 0 l s).size∧4096<(s++bs (catB l)).size)
 | [],s=> .inl (by rw[JM,show catB []=[] from rfl];exact(ByteArray.append_empty (b:=s)).symm)
 |d::l,s=>by
  rw[JM]
  have e:s++bs (catB (d::l))=(s++Dt.S d 2)++bs (catB l):=by
   rw[ByteArray.append_assoc]
   congr 1
  by_cases h4:s.size≤4096
  ·rw[if_pos h4,e]
   exact aax l _
  ·rw[if_neg h4]
   exact .inr ⟨by omega,by rw[ByteArray.size_append];omega⟩
end Go.Proofs.YtmecfjhdnbgfeaaGreatDoor
namespace Go.Proofs.YtmecfjhdnbgfeaaGreatDoor
open Go.Am
def sU (l:List Dt):Dt:= .agg [.int 5,.int 0,.str (ByteArray.mk (List.toArray [])),.lst [],.lst l]
def Al:List Dt→List Dt→List Dt
 |n::ns,k::ks=>bif nnB k then Dt.agg [.str (Dt.toStr n),k]::Al ns ks else Al ns ks
 |_,_=>[]
theorem aay (m:Nat) (l:List Dt) (z:Dt) (hl:l.length≤137438953472):∀(M i:Nat) (acc:List Dt),i≤l.length→acc.length≤i→l.length-i<M→
  iV (m+2) M l (l.length:Int) (i:Int) z 6 0 (ByteArray.mk (List.toArray [])) acc []=some (uz (acc++(l.drop i).map orN))
 |0,i,_,_,_,h=>by omega
 |M+1,i,acc,hi,ha,h=>by
  simp only[iV,dlt]
  by_cases hlt:i<l.length
  ·have hac:(acc++[orN l[i]]).length≤i+1:=by rw[List.length_append];simp;omega
   have ap:app acc [orN l[i]]=some (acc++[orN l[i]]):=jg (by simp;omega)
   rw[fT hlt,List.map_cons]
   simp only[hlt,decide_true,cond_true,aC hlt,Z6,ap,Option.bind_some,aM (show i<9223372036854775807 by omega)]
   rw[aay m l z hl M (i+1) _ (by omega) hac (by omega),List.append_assoc]
   rfl
  ·rw[jl hlt]
   simp only[hlt,decide_false,cond_false,List.map_nil,List.append_nil]
   rfl
theorem R4 (m:Nat) (l:List Dt) (e z:Dt) (hl:l.length≤137438953472) (hn:(Dt.L e 3).length=l.length):∀(M i:Nat) (acc:List Dt),i≤l.length→acc.length≤i→l.length-i<M→
  dZ m M l (l.length:Int) (i:Int) e z 5 0 (ByteArray.mk (List.toArray [])) [] acc=some (sU (acc++Al ((Dt.L e 3).drop i) (l.drop i)))
 |0,i,_,_,_,h=>by omega
 |M+    1,i,acc,hi,ha,h=>by
  simp only[dZ,dlt]
  by_cases hlt:i<l.length
  ·have hln:i<(Dt.L e 3).length:=by omega
   have hac:(acc++[Dt.agg [Dt.str (Dt.toStr (Dt.L e 3)[i]),l[i]]]).length≤i+1:=by rw[List.length_append];simp;omega
   have ap:app acc [Dt.agg [Dt.str (Dt.toStr (Dt.L e 3)[i]),l[i]]]=some (acc++[Dt.agg [Dt.str (Dt.toStr (Dt.L e 3)[i]),l[i]]]):=jg (by simp;omega)
   rw[fT hlt,fT hln,Al]
   simp only[hlt,decide_true,cond_true,lY,aC hlt,aC hln,ap,Option.bind_some,aM (show i<9223372036854775807 by omega),nnB]
   rcases Bool.eq_false_or_eq_true (Dt.I l[i] 0 !=0) with hc|hc
   ·    rw[hc,cond_true,cond_true,R4 m l e z hl hn M (i+1) _ (by omega) hac (by omega),List.append_assoc]
        rfl
   ·rw[hc,cond_false,cond_false,R4 m l e z hl hn M (i+1) _ (by omega) (by omega) (by omega)]
  ·rw[jl hlt]
   have:Al ((Dt.L e 3).drop i) []=[]:=by cases (Dt.L e 3).drop i<;>rfl
   simp only[hlt,decide_false,cond_false,this,List.append_nil]
   rfl
theorem aeu (m:Nat) (e:Dt) (l:List Dt) (he:Dt.I e 0=35) (hl:l.length≤137438953472) (hm:l.length≤m):bY (m+3) e l=some (uz (l.map orN)):=by
 have h:=aay m l kza2373 hl (Nat.succ (m+2)) 0 [] (Nat.zero_le _) (Nat.le_refl _) (by omega)
 rw[List.drop_zero,List.nil_append] at h
 rw[bY,he,show ((35:Int)==35)=true from rfl,cond_true]
 exact h
theorem ajb (m:Nat) (e:Dt) (l:List Dt) (he:Dt.I e 0=34) (hl:l.length≤137438953472) (hm:l.length≤m) (hn:(Dt.L e 3).length=l.length):bY (m+1) e l=some (sU (Al (Dt.L e 3) l)):=by
 have h:=R4 m l e kza2373 hl hn (Nat.succ m) 0 [] (Nat.zero_le _) (Nat.le_refl _) (by omega)
 rw[List.drop_zero,List.drop_zero,List.nil_append] at h
 rw[bY,he,show ((34:Int)==35)=false from rfl,cond_false]
 exact h
theorem Vb (m:Nat) (l:List Dt) (z:Dt) (hl:l.length≤137438953472):∀(M i:Nat) (acc:List Dt),i≤l.length→acc.length≤i→l.length-i<M→
  mI (m+2) M l (i:Int) z 6 0 (ByteArray.mk (List.toArray [])) acc []=some (uz (acc++(l.drop i).map orN))
 |0,i,_,_,_,h=>by omega
 |M+1,i,acc,hi,ha,h=>by
  simp only[mI,dlt]
  by_cases hlt:i<l.length
  ·have hac:(acc++[orN l[i]]).length≤i+1:=by rw[List.length_append];simp;omega
   have ap:app acc [orN l[i]]=some (acc++[orN l[i]]):=jg (by simp;omega)
   rw[fT hlt,List.map_cons]
   simp only[hlt,decide_true,cond_true,aC hlt,acg,ap,Option.bind_some,aM (show i<9223372036854775807 by omega)]
   rw[Vb m l z hl M (i+1) _ (by omega) hac (by omega),List.append_assoc]
   rfl
  ·rw[jl hlt]
   simp only[hlt,decide_false,cond_false,List.map_nil,List.append_nil]
   rfl
theorem K7 (m:Nat) (l:List Dt) (e z:Dt) (hl:l.length≤137438953472) (hn:(Dt.L e 3).length=l.length):∀(M i:Nat) (acc:List Dt),i≤l.length→acc.length≤i→l.length-i<M→
  gY m M l (i:Int) e z 5 0 (ByteArray.mk (List.toArray [])) [] acc=some (sU (acc++Al ((Dt.L e 3).drop i) (l.drop i)))
 |0,i,_,_,_,h=>by omega
 |M+    1,i,acc,hi,ha,h=>by
  simp only[gY,dlt]
  by_cases hlt:i<l.length
  ·have hln:i<(Dt.L e 3).length:=by omega
   have hac:(acc++[Dt.agg [Dt.str (Dt.toStr (Dt.L e 3)[i]),l[i]]]).length≤i+1:=by rw[List.length_append];simp;omega
   have ap:app acc [Dt.agg [Dt.str (Dt.toStr (Dt.L e 3)[i]),l[i]]]=some (acc++[Dt.agg [Dt.str (Dt.toStr (Dt.L e 3)[i]),l[i]]]):=jg (by simp;omega)
   rw[fT hlt,fT hln,Al]
   simp only[hlt,decide_true,cond_true,pK,aC hlt,aC hln,ap,Option.bind_some,aM (show i<9223372036854775807 by omega),nnB]
   rcases Bool.eq_false_or_eq_true (Dt.I l[i] 0 !=0) with hc|hc
   ·    rw[hc,cond_true,cond_true,K7 m l e z hl hn M (i+1) _ (by omega) hac (by omega),List.append_assoc]
        rfl
   ·rw[hc,cond_false,cond_false,K7 m l e z hl hn M (i+1) _ (by omega) (by omega) (by omega)]
  ·rw[jl hlt]
   have:Al ((Dt.L e 3).drop i) []=[]:=by cases (Dt.L e 3).drop i<;>rfl
   simp only[hlt,decide_false,cond_false,this,List.append_nil]
   rfl
end Go.Proofs.YtmecfjhdnbgfeaaGreatDoor
namespace Go.Proofs.YtmecfjhdnbgfeaaGreatDoor
open Go.Am
section
variable (m:Nat) (s3 s25:Dt→Dt→Dt→Option Dt) (e z:Dt)
theorem aqC (l:List Dt) (hl:l.length≤137438953472) (hm:l.length≤m) (he:Dt.I e 0=4):ah (m+5) s3 s25 e z l=some (Bv 4 l):=by
 rw[ah,he]
 show ((bM (m+5) (Dt.I e 0) l).bind _:Option Dt)=_
 rw[he,Bw (m+3) 4 l hl (by omega) (.inl rfl)]
 rfl
theorem aqD (l:List Dt) (hl:l.length≤137438953472) (hm:l.length≤m) (he:Dt.I e 0=6):ah (m+5) s3 s25 e z l=some (Bv 6 l):=by
 rw[ah,he]
 show ((bM (m+5) (Dt.I e 0) l).bind _:Option Dt)=_
 rw[he,Bw (m+3) 6 l hl (by omega) (.inr (.inl rfl))]
 rfl
theorem aqE (l:List Dt) (hl:l.length≤137438953472) (hm:l.length≤m) (ho:XC 5 l) (he:Dt.I e 0=5):ah (m+5) s3 s25 e z l=some (Bv 5 l):=by
 rw[ah,he]
 show ((bM (m+5) (Dt.I e 0) l).bind _:Option Dt)=_
 rw[he,Bw (m+3) 5 l hl (by omega) ho]
 rfl
theorem aqF (l:List Dt) (hl:l.length≤137438953472) (hm:l.length≤m) (ho:XC 7 l) (he:Dt.I e 0=7):ah (m+5) s3 s25 e z l=some (Bv 7 l):=by
 rw[ah,he]
 show ((bM (m+5) (Dt.I e 0) l).bind _:Option Dt)=_
 rw[he,Bw (m+3) 7 l hl (by omega) ho]
 rfl
theorem aqG (l:List Dt) (hl:l.length≤137438953472) (hm:l.length≤m) (ho:XC 8 l) (he:Dt.I e 0=8):ah (m+5) s3 s25 e z l=some (Bv 8 l):=by
 rw[ah,he]
 show ((bM (m+5) (Dt.I e 0) l).bind _:Option Dt)=_
 rw[he,Bw (m+3) 8 l hl (by omega) ho]
 rfl
theorem aqH (a b:Dt) (c:Int) (hc:ay (m+5) a b=some c) (he:Dt.I e 0=9):ah (m+5) s3 s25 e z [a,b]=some (yj 9 c):=by
 rw[ah,he]
 show ((ay (m+5) a b).bind _:Option Dt)=_
 rw[hc,Option.bind_some,he,zB (m+3)]
 rfl
theorem anM (a b:Dt) (c:Int) (hc:ay (m+5) a b=some c) (he:Dt.I e 0=10):ah (m+5) s3 s25 e z [a,b]=some (yj 10 c):=by
 rw[ah,he]
 show ((ay (m+5) a b).bind _:Option Dt)=_
 rw[hc,Option.bind_some,he,zB (m+3)]
 rfl
theorem anN (a b:Dt) (c:Int) (hc:ay (m+5) a b=some c) (he:Dt.I e 0=11):ah (m+5) s3 s25 e z [a,b]=some (yj 11 c):=by
 rw[ah,he]
 show ((ay (m+5) a b).bind _:Option Dt)=_
 rw[hc,Option.bind_some,he,zB (m+3)]
 rfl
theorem anO (a b:Dt) (c:Int) (hc:ay (m+5) a b=some c) (he:Dt.I e 0=12):ah (m+5) s3 s25 e z [a,b]=some (yj 12 c):=by
 rw[ah,he]
 show ((ay (m+5) a b).bind _:Option Dt)=_
 rw[hc,Option.bind_some,he,zB (m+3)]
 rfl
theorem anP (a b:Dt) (c:Int) (hc:ay (m+5) a b=some c) (he:Dt.I e 0=13):ah (m+5) s3 s25 e z [a,b]=some (yj 13 c):=by
 rw[ah,he]
 show ((ay (m+5) a b).bind _:Option Dt)=_
 rw[hc,Option.bind_some,he,zB (m+3)]
 rfl
theorem anQ (a b:Dt) (c:Int) (hc:ay (m+5) a b=some c) (he:Dt.I e 0=14):ah (m+5) s3 s25 e z [a,b]=some (yj 14 c):=by
 rw[ah,he]
 show ((ay (m+5) a b).bind _:Option Dt)=_
 rw[hc,Option.bind_some,he,zB (m+3)]
 rfl
theorem anR (a b:Dt) (c:Int) (hc:ay (m+5) a b=some c) (he:Dt.I e 0=15):ah (m+5) s3 s25 e z [a,b]=some (yj 15 c):=by
 rw[ah,he]
 show ((ay (m+5) a b).bind _:Option Dt)=_
 rw[hc,Option.bind_some,he,zB (m+3)]
 rfl
theorem anS (l:List Dt) (hl:l.length≤137438953472) (hm:l.length≤m) (he:Dt.I e 0=16):ah (m+5) s3 s25 e z l=some (aoS 16 l):=by
 rw[ah,he]
 show ((eU (m+5) (Dt.I e 0) l).bind _:Option Dt)=_
 rw[he,XD (m+3) 16 l (by omega) (by omega) (.inl rfl)]
 rfl
theorem anT (l:List Dt) (hl:l.length≤137438953472) (hm:l.length≤m) (he:Dt.I e 0=17):ah (m+5) s3 s25 e z l=some (aoS 17 l):=by
 rw[ah,he]
 show ((eU (m+5) (Dt.I e 0) l).bind _:Option Dt)=_
 rw[he,XD (m+3) 17 l (by omega) (by omega) (.inr rfl)]
 rfl
theorem anU (a:Dt) (he:Dt.I e 0=18):ah (m+5) s3 s25 e z [a]=some (bV (!trB a)):=by
 rw[ah,he]
 show ((eU (m+5) (Dt.I e 0) [a]).bind _:Option Dt)=_
 rw[he,adO (m+3)]
 rfl
theorem anV (a b c:Dt) (he:Dt.I e 0=19):ah (m+5) s3 s25 e z [a,b,c]=some (bif trB a then b else c):=by
 rw[ah,he]
 show ((eU (m+5) (Dt.I e 0) [a,b,c]).bind _:Option Dt)=_
 rw[he,ait (m+3)]
 rfl
theorem anW (a b:Dt) (he:Dt.I e 0=20):ah (m+5) s3 s25 e z [a,b]=some (bif Dt.I (orN a) 0==2 then b else a):=by
 rw[ah,he]
 show ((eU (m+5) (Dt.I e 0) [a,b]).bind _:Option Dt)=_
 rw[he,adP (m+2)]
 rfl
theorem anX (l:List Dt) (h:(catB l).length≤137438953472) (he:Dt.I e 0=21):ah (m+5) s3 s25 e z l=some (Yf l):=by
 rw[ah,he]
 show ((bR (Dt.I e 0) l).bind _:Option Dt)=_
 rw[he,aly l h]
 rfl
theorem anY (a:Dt) (he:Dt.I e 0=22):ah (m+5) s3 s25 e z [a]=some (Gj 22 a):=by
 rw[ah,he]
 show ((bR (Dt.I e 0) [a]).bind _:Option Dt)=_
 rw[he,Uw 22 a (by simp)]
 rfl
theorem anZ (a:Dt) (he:Dt.I e 0=23):ah (m+5) s3 s25 e z [a]=some (Gj 23 a):=by
 rw[ah,he]
 show ((bR (Dt.I e 0) [a]).bind _:Option Dt)=_
 rw[he,Uw 23 a (by simp)]
 rfl
theorem an0 (a:Dt) (he:Dt.I e 0=24):ah (m+5) s3 s25 e z [a]=some (Gj 24 a):=by
 rw[ah,he]
 show ((bR (Dt.I e 0) [a]).bind _:Option Dt)=_
 rw[he,Uw 24 a (by simp)]
 rfl
theorem an1 (a b c:Dt) (he:Dt.I e 0=25):ah (m+5) s3 s25 e z [a,b,c]=some (slS a b c):=by
 rw[ah,he]
 show ((bR (Dt.I e 0) [a,b,c]).bind _:Option Dt)=_
 rw[he,adQ]
 rfl
theorem an2 (a:Dt) (h:(Dt.L a 3).length≤137438953472) (he:Dt.I e 0=26):ah (m+5) s3 s25 e z [a]=some (U4 a):=by
 rw[ah,he]
 show ((bF (m+5) (Dt.I e 0) [a]).bind _:Option Dt)=_
 rw[he,alq (m+2) a h]
 rfl
theorem an3 (a:Dt) (h:(Dt.L a 3).length≤137438953472) (hm:(Dt.L a 3).length≤m) (he:Dt.I e 0=30):ah (m+5) s3 s25 e z [a]=some (U5 a):=by
 rw[ah,he]
 show ((bF (m+5) (Dt.I e 0) [a]).bind _:Option Dt)=_
 rw[he,rev_eq (m+2) a h (by omega)]
 rfl
theorem an4 (a:Dt) (h:(Dt.L a 3).length≤137438953472) (hm:(Dt.L a 3).length≤m) (he:Dt.I e 0=31):ah (m+5) s3 s25 e z [a]=some (U6 a):=by
 rw[ah,he]
 show ((bF (m+5) (Dt.I e 0) [a]).bind _:Option Dt)=_
 rw[he,alr (m+2) a h (by omega)]
 rfl
theorem an5 (l:List Dt) (hl:l.length≤m) (hl2:l.length≤137438953472) (h:(zo l).length≤137438953472) (he:Dt.I e 0=29):ah (m+5) s3 s25 e z l=some (U7 l):=by
 rw[ah,he]
 show ((bF (m+5) (Dt.I e 0) l).bind _:Option Dt)=_
 rw[he,als (m+2) l (by omega) (by omega) h]
 rfl
theorem an6 (a b:Dt) (h:(Dt.L a 3).length≤137438953472) (he:Dt.I e 0=27):ah (m+5) s3 s25 e z [a,b]=some (U8 a b):=by
 rw[ah,he]
 show ((bF (m+5) (Dt.I e 0) [a,b]).bind _:Option Dt)=_
 rw[he,alu (m+1) a b h]
 rfl
theorem an7 (v a:Dt) (q:Dt→Bool) (h:(Dt.L a 3).length≤137438953472) (hm:(Dt.L a 3).length≤m) (hq:∀x∈Dt.L a 3,iI (m+4) x v=some (q x)) (he:Dt.I e 0=28):ah (m+5) s3 s25 e z [v,a]=some (Yd q a):=by
 rw[ah,he]
 show ((bF (m+5) (Dt.I e 0) [v,a]).bind _:Option Dt)=_
 rw[he,alv (m+2) v a q h (by omega) hq]
 rfl
theorem an8 (a:Dt) (he:Dt.I e 0=36):ah (m+5) s3 s25 e z [a]=some (kV 3 (Dt.I a 0)):=by
 rw[ah,he]
 show ((aN (m+5) (Dt.I a 0)).bind _:Option Dt)=_
 rw[int_eq]
 rfl
theorem an9 (l:List Dt) (r:Dt) (h:nZ (m+5) l=some r) (he:Dt.I e 0=37):ah (m+5) s3 s25 e z l=some (r):=by
 rw[ah,he]
 show ((nZ (m+5) l).bind _:Option Dt)=_
 rw[h]
 rfl
theorem aoa (l:List Dt) (hl:l.length≤137438953472) (hm:l.length≤m) (he:Dt.I e 0=35):ah (m+5) s3 s25 e z l=some (uz (l.map orN)):=by
 rw[ah,he]
 show ((bY (m+5) e l).bind _:Option Dt)=_
 rw[aeu (m+2) e l he hl (by omega)]
 rfl
theorem aob (l:List Dt) (hl:l.length≤137438953472) (hm:l.length≤m) (hn:(Dt.L e 3).length=l.length) (he:Dt.I e 0=34):ah (m+5) s3 s25 e z l=some (sU (Al (Dt.L e 3) l)):=by
 rw[ah,he]
 show ((bY (m+5) e l).bind _:Option Dt)=_
 rw[ajb (m+4) e l he hl (by omega) hn]
 rfl
end
section
variable (m:Nat) (e:Dt)
theorem aqI (l:List Dt) (hl:l.length≤137438953472) (hm:l.length≤m) (he:Dt.I e 0=4):ak (m+6) e l=some (Bv 4 l):=by
 rw[ak,he]
 show ((dR (m+5) (Dt.I e 0) l).bind _:Option Dt)=_
 rw[he,number_eq (m+3) 4 l hl (by omega) (.inl rfl)]
 rfl
theorem aqJ (l:List Dt) (hl:l.length≤137438953472) (hm:l.length≤m) (he:Dt.I e 0=6):ak (m+6) e l=some (Bv 6 l):=by
 rw[ak,he]
 show ((dR (m+5) (Dt.I e 0) l).bind _:Option Dt)=_
 rw[he,number_eq (m+3) 6 l hl (by omega) (.inr (.inl rfl))]
 rfl
theorem aqK (a b:Dt) (he:Dt.I e 0=5):ak (m+6) e [a,b]=some (Bv 5 [a,b]):=by
 rw[ak,he]
 show ((dR (m+5) (Dt.I e 0) [a,b]).bind _:Option Dt)=_
 rw[he,number_eq (m+3) 5 [a,b] (by simp) (by simp) (.inr (.inr ⟨.inl rfl,a,b,rfl⟩))]
 rfl
theorem aqL (a b:Dt) (he:Dt.I e 0=7):ak (m+6) e [a,b]=some (Bv 7 [a,b]):=by
 rw[ak,he]
 show ((dR (m+5) (Dt.I e 0) [a,b]).bind _:Option Dt)=_
 rw[he,number_eq (m+3) 7 [a,b] (by simp) (by simp) (.inr (.inr ⟨.inr (.inl rfl),a,b,rfl⟩))]
 rfl
theorem aqM (a b:Dt) (he:Dt.I e 0=8):ak (m+6) e [a,b]=some (Bv 8 [a,b]):=by
 rw[ak,he]
 show ((dR (m+5) (Dt.I e 0) [a,b]).bind _:Option Dt)=_
 rw[he,number_eq (m+3) 8 [a,b] (by simp) (by simp) (.inr (.inr ⟨.inr (.inr rfl),a,b,rfl⟩))]
 rfl
theorem aqN (a b:Dt) (c:Int) (hc:aA (m+4) a b=some c) (he:Dt.I e 0=9):ak (m+6) e [a,b]=some (yj 9 c):=by
 rw[ak,he]
 show ((bQ (m+5) (Dt.I e 0) a b).bind _:Option Dt)=_
 rw[he,vV (m+3) 9 c a b hc]
 rfl
theorem aoc (a b:Dt) (c:Int) (hc:aA (m+4) a b=some c) (he:Dt.I e 0=10):ak (m+6) e [a,b]=some (yj 10 c):=by
 rw[ak,he]
 show ((bQ (m+5) (Dt.I e 0) a b).bind _:Option Dt)=_
 rw[he,vV (m+3) 10 c a b hc]
 rfl
theorem aod (a b:Dt) (c:Int) (hc:aA (m+4) a b=some c) (he:Dt.I e 0=11):ak (m+6) e [a,b]=some (yj 11 c):=by
 rw[ak,he]
 show ((bQ (m+5) (Dt.I e 0) a b).bind _:Option Dt)=_
 rw[he,vV (m+3) 11 c a b hc]
 rfl
theorem aoe (a b:Dt) (c:Int) (hc:aA (m+4) a b=some c) (he:Dt.I e 0=12):ak (m+6) e [a,b]=some (yj 12 c):=by
 rw[ak,he]
 show ((bQ (m+5) (Dt.I e 0) a b).bind _:Option Dt)=_
 rw[he,vV (m+3) 12 c a b hc]
 rfl
theorem aof (a b:Dt) (c:Int) (hc:aA (m+4) a b=some c) (he:Dt.I e 0=13):ak (m+6) e [a,b]=some (yj 13 c):=by
 rw[ak,he]
 show ((bQ (m+5) (Dt.I e 0) a b).bind _:Option Dt)=_
 rw[he,vV (m+3) 13 c a b hc]
 rfl
theorem aog (a b:Dt) (c:Int) (hc:aA (m+4) a b=some c) (he:Dt.I e 0=14):ak (m+6) e [a,b]=some (yj 14 c):=by
 rw[ak,he]
 show ((bQ (m+5) (Dt.I e 0) a b).bind _:Option Dt)=_
 rw[he,vV (m+3) 14 c a b hc]
 rfl
theorem aoh (a b:Dt) (c:Int) (hc:aA (m+4) a b=some c) (he:Dt.I e 0=15):ak (m+6) e [a,b]=some (yj 15 c):=by
 rw[ak,he]
 show ((bQ (m+5) (Dt.I e 0) a b).bind _:Option Dt)=_
 rw[he,vV (m+3) 15 c a b hc]
 rfl
theorem aoi (l:List Dt) (hl:l.length≤137438953472) (hm:l.length≤m) (hk:∀d∈l,0≤Dt.I d 0) (he:Dt.I e 0=16):ak (m+6) e l=some (aoS 16 l):=by
 rw[ak,he]
 show ((lH (m+5) (Dt.I e 0) l).bind _:Option Dt)=_
 rw[he,Rt (m+3) 16 l (by omega) (by omega) hk (.inl rfl)]
 rfl
theorem aoj (l:List Dt) (hl:l.length≤137438953472) (hm:l.length≤m) (hk:∀d∈l,0≤Dt.I d 0) (he:Dt.I e 0=17):ak (m+6) e l=some (aoS 17 l):=by
 rw[ak,he]
 show ((lH (m+5) (Dt.I e 0) l).bind _:Option Dt)=_
 rw[he,Rt (m+3) 17 l (by omega) (by omega) hk (.inr rfl)]
 rfl
theorem aok (a:Dt) (hk:0≤Dt.I a 0) (he:Dt.I e 0=18):ak (m+6) e [a]=some (bV (!trB a)):=by
 rw[ak,he]
 show ((dY (m+5) a).bind _:Option Dt)=_
 rw[KP (m+4) a hk,Option.bind_some,Bz]
 rfl
theorem aol (a b c:Dt) (hk:0≤Dt.I a 0) (he:Dt.I e 0=19):ak (m+6) e [a,b,c]=some (bif trB a then b else c):=by
 rw[ak,he]
 show ((dY (m+5) a).bind _:Option Dt)=_
 rw[KP (m+4) a hk,Option.bind_some]
 cases trB a<;>rfl
theorem aom (a b:Dt) (he:Dt.I e 0=20):ak (m+6) e [a,b]=some (bif Dt.I (orN a) 0==2 then b else a):=by
 rw[ak,he]
 show ((bif Dt.I a 0==0 then some b else qC (m+5) [a,b] (Dt.I a 0==2) kza2373):Option Dt)=_
 rw[orN]
 cases h0:(Dt.I a 0==0)
 ·rw[cond_false,cond_false]
  cases (Dt.I a 0==2)<;>rfl
 ·rfl
theorem aon (l:List Dt) (hl:l.length≤137438953472) (hm:l.length≤m) (hs:∀d∈l,(Dt.S d 2).size≤1000000000000000) (he:Dt.I e 0=21):ak (m+6) e l=some (Ye l):=by
 rw[ak,he]
 show ((jI (m+5) l).bind _:Option Dt)=_
 rw[alx (m+3) l (by omega) (by omega) hs]
 rfl
theorem aoo (a:Dt) (hs:(Dt.S a 2).size≤1000000000000000) (hm:(Dt.S a 2).size≤m) (he:Dt.I e 0=22):ak (m+6) e [a]=some (Gj 22 a):=by
 rw[ak,he]
 show ((bif Dt.I a 0 !=4 then some (kV 2 0) else iY (m+5) [a] e kza2373):Option Dt)=_
 rw[Gj,isK]
 cases h4:(Dt.I a 0==4)
 ·rw[show (Dt.I a 0 !=4)=true by rw[bne,h4];rfl];rfl
 ·rw[show (Dt.I a 0 !=4)=false by rw[bne,h4];rfl,cond_false,cond_true,iY,he]
  show ((iA (m+5) (Dt.S a 2) ((22:Int)==23)).bind _:Option Dt)=_
  rw[show ((22:Int)==23)=false from rfl,Oa (m+4) (Dt.S a 2) false hs (by omega)]
  rfl
theorem aop (a:Dt) (hs:(Dt.S a 2).size≤1000000000000000) (hm:(Dt.S a 2).size≤m) (he:Dt.I e 0=23):ak (m+6) e [a]=some (Gj 23 a):=by
 rw[ak,he]
 show ((bif Dt.I a 0 !=4 then some (kV 2 0) else iY (m+5) [a] e kza2373):Option Dt)=_
 rw[Gj,isK]
 cases h4:(Dt.I a 0==4)
 ·rw[show (Dt.I a 0 !=4)=true by rw[bne,h4];rfl];rfl
 ·rw[show (Dt.I a 0 !=4)=false by rw[bne,h4];rfl,cond_false,cond_true,iY,he]
  show ((iA (m+5) (Dt.S a 2) ((23:Int)==23)).bind _:Option Dt)=_
  rw[show ((23:Int)==23)=true from rfl,Oa (m+4) (Dt.S a 2) true hs (by omega)]
  rfl
theorem aoq (a:Dt) (he:Dt.I e 0=24):ak (m+6) e [a]=some (Gj 24 a):=by
 rw[ak,he]
 show ((bif Dt.I a 0 !=4 then some (kV 2 0) else iY (m+5) [a] e kza2373):Option Dt)=_
 rw[Gj,isK]
 cases h4:(Dt.I a 0==4)
 ·rw[show (Dt.I a 0 !=4)=true by rw[bne,h4];rfl];rfl
 ·rw[show (Dt.I a 0 !=4)=false by rw[bne,h4];rfl,cond_false,cond_true,iY,he]
  rfl
theorem aor (a b c:Dt) (hs:(Dt.S a 2).size≤1000000000000000000) (he:Dt.I e 0=25):ak (m+6) e [a,b,c]=some (slS a b c):=by
 rw[ak,he]
 show ((lI (m+5) a b c).bind _:Option Dt)=_
 rw[adR (m+3) a b c hs]
 rfl
theorem aos (a:Dt) (h:(Dt.L a 3).length≤137438953472) (hm:(Dt.L a 3).length≤m) (he:Dt.I e 0=26):ak (m+6) e [a]=some (U4 a):=by
 rw[ak,he]
 show ((jX (m+5) (Dt.I e 0) a).bind _:Option Dt)=_
 rw[he,K6 (m+3) 26 a h (by omega) (.inl rfl)]
 rfl
theorem aot (a:Dt) (h:(Dt.L a 3).length≤137438953472) (hm:(Dt.L a 3).length≤m) (he:Dt.I e 0=30):ak (m+6) e [a]=some (U5 a):=by
 rw[ak,he]
 show ((jX (m+5) (Dt.I e 0) a).bind _:Option Dt)=_
 rw[he,K6 (m+3) 30 a h (by omega) (.inr (.inl rfl))]
 rfl
theorem aou (a:Dt) (h:(Dt.L a 3).length≤137438953472) (hm:(Dt.L a 3).length≤m) (he:Dt.I e 0=31):ak (m+6) e [a]=some (U6 a):=by
 rw[ak,he]
 show ((jX (m+5) (Dt.I e 0) a).bind _:Option Dt)=_
 rw[he,K6 (m+3) 31 a h (by omega) (.inr (.inr rfl))]
 rfl
theorem aov (a b:Dt) (he:Dt.I e 0=27):ak (m+6) e [a,b]=some (U8 a b):=by
 rw[ak,he]
 show ((iB (m+5) a b).bind _:Option Dt)=_
 rw[ai9 (m+3)]
 rfl
theorem aow (v a:Dt) (q:Dt→Bool) (h:(Dt.L a 3).length≤137438953472) (hm:(Dt.L a 3).length≤m) (hq:∀x∈Dt.L a 3,iJ (m+4) x v=some (q x)) (he:Dt.I e 0=28):ak (m+6) e [v,a]=some (Yd q a):=by
 rw[ak,he]
 show ((bif Dt.I a 0 !=6 then some (kV 2 0) else Ak (m+5) [v,a] kza2373):Option Dt)=_
 rw[Yd,isK]
 cases h6:(Dt.I a 0==6)
 ·rw[show (Dt.I a 0 !=6)=true by rw[bne,h6];rfl];rfl
 ·rw[show (Dt.I a 0 !=6)=false by rw[bne,h6];rfl,cond_false,cond_true]
  show ((iX (m+5) (Dt.L a 3) v).bind _:Option Dt)=_
  rw[ai8 (m+4) v (Dt.L a 3) q (by omega) (by omega) hq,Option.bind_some,Bz]
  rfl
theorem aox (l:List Dt) (hl:l.length≤m) (hl2:l.length≤137438953472) (h:(zo l).length≤137438953472) (he:Dt.I e 0=29):ak (m+6) e l=some (U7 l):=by
 rw[ak,he]
 show ((nW (m+5) l).bind _:Option Dt)=_
 rw[aja (m+3) l (by omega) (by omega) h]
 rfl
theorem aoy (a:Dt) (he:Dt.I e 0=36):ak (m+6) e [a]=some (kV 3 (Dt.I a 0)):=by
 rw[ak,he]
 show ((bO (m+5) (Dt.I a 0)).bind _:Option Dt)=_
 rw[Ut]
 rfl
theorem aoz (l:List Dt) (r:Dt) (h:lT (m+5) l=some r) (he:Dt.I e 0=37):ak (m+6) e l=some (r):=by
 rw[ak,he]
 show ((lT (m+5) l).bind _:Option Dt)=_
 rw[h]
 rfl
theorem aoA (l:List Dt) (hl:l.length≤137438953472) (hm:l.length≤m) (he:Dt.I e 0=35):ak (m+6) e l=some (uz (l.map orN)):=by
 have h:=Vb (m+3) l kza2373 hl (Nat.succ (m+5)) 0 [] (Nat.zero_le _) (Nat.le_refl _) (by omega)
 rw[List.drop_zero,List.nil_append] at h
 rw[ak,he]
 exact h
theorem aoB (l:List Dt) (hl:l.length≤137438953472) (hm:l.length≤m) (hn:(Dt.L e 3).length=l.length) (he:Dt.I e 0=34):ak (m+6) e l=some (sU (Al (Dt.L e 3) l)):=by
 have h:=K7 (m+5) l e kza2373 hl hn (Nat.succ (m+5)) 0 [] (Nat.zero_le _) (Nat.le_refl _) (by omega)
 rw[List.drop_zero,List.drop_zero,List.nil_append] at h
 rw[ak,he]
 exact h
end
end Go.Proofs.YtmecfjhdnbgfeaaGreatDoor
namespace Go.Proofs.YtmecfjhdnbgfeaaGreatDoor
open Go.Am
def scD:List (ByteArray×Dt)→Dt
 | []=> .lst []
 |p::r=> .lst [.agg [.str p.1,p.2,scD r]]
def bnD (p:ByteArray×Dt):Dt:= .agg [.str p.1,p.2]
def bnL (l:List (ByteArray×Dt)):List Dt:=l.reverse.map bnD
def K8 (h:Dt→Dt) (s:ByteArray):List (ByteArray×Dt)→Dt
 | []=>kza2373
 |p::r=>bif ByteArray.toList p.1==ByteArray.toList s then h p.2 else K8 h s r
theorem Vd (m:Nat) (s3 s25:Dt→Dt→Dt→Option Dt) (e z:Dt) (h:Dt→Dt):∀(env:List (ByteArray×Dt)) (M:Nat),env.length<M→(∀p∈env,aR m p.2 (Dt.L e 1)=some (h p.2))→mK m s3 s25 M (scD env) e z=some (K8 h (Dt.S e 2) env)
 |_,0,hM,_=>by omega
 | [],M+1,_,_=>rfl
 |p::r,M+1,hM,hv=>by
  have ih:=Vd m s3 s25 e z h r M (by simp at hM;omega) fun q hq=>hv q (List.mem_cons_of_mem _ hq)
  show ((bif (ByteArray.toList p.1==ByteArray.toList (Dt.S e 2)) then((aR m p.2 (Dt.L e 1)).bind fun r3=>some r3) else mK m s3 s25 M (scD r) e z):Option Dt)=_
  rw[hv p (List.mem_cons_self ..),ih,K8]
  cases (ByteArray.toList p.1==ByteArray.toList (Dt.S e 2))<;>rfl
theorem Gu (m:Nat) (s6 s16:Dt→Dt→List Dt→Option Dt) (e z:Dt) (h:Dt→Dt) (l:List Dt) (hl:l.length<9223372036854775807) (hv:∀b∈l,fG m (Dt.fld b 1) (Dt.L e 1)=some (h (Dt.fld b 1))):∀(M i:Nat) (c:Dt),i≤l.length→l.length-i<M→
  nu m s6 s16 M l (i:Int) e z c=dN m s6 s16 z ((l.drop i).foldl (fun c b=>bif ByteArray.toList (Dt.S b 0)==ByteArray.toList (Dt.S e 2) then h (Dt.fld b 1) else c) c)
 |0,i,_,_,hM=>by omega
 |M+    1,i,c,hi,hM=>by
  simp only[nu,dlt]
  by_cases hlt:i<l.length
  ·rw[fT hlt,List.foldl_cons]
   simp only[hlt,decide_true,cond_true,aC hlt,hv _ (List.getElem_mem hlt),Option.bind_some,aM (show i<9223372036854775807 by omega)]
   cases (ByteArray.toList (Dt.S l[i] 0)==ByteArray.toList (Dt.S e 2))
   ·    simp only[cond_false]
        exact Gu m s6 s16 e z h l hl hv M (i+1) _ (by omega) (by omega)
   ·    simp only[cond_true]
        exact Gu m s6 s16 e z h l hl hv M (i+1) _ (by omega) (by omega)
  ·rw[jl hlt]
   simp only[hlt,decide_false,cond_false,List.foldl_nil]
theorem Ve (h:Dt→Dt) (s:ByteArray):∀(env:List (ByteArray×Dt)),(bnL env).foldl (fun c b=>bif ByteArray.toList (Dt.S b 0)==ByteArray.toList s then h (Dt.fld b 1) else c) kza2373=K8 h s env
 | []=>rfl
 |p::r=>by
  rw[bnL,List.reverse_cons,List.map_append,List.foldl_append,K8]
  show (bif ByteArray.toList p.1==ByteArray.toList s then h p.2 else _)=_
  have:=Ve h s r
  rw[bnL] at this
  rw[this]
theorem Vf (m:Nat) (s3 s25:Dt→Dt→Dt→Option Dt) (vs e doc z:Dt) (l:List Dt) (g:Dt→Dt) (hl:l.length<9223372036854775807) (hs:∀k∈l,s3 k doc vs=some (g k)):∀(M i:Nat),i≤l.length→l.length-i<M→
  mM m s3 s25 M vs l (l.length:Int) (i:Int) e doc z ((l.take i).map g++List.replicate (l.length-i) kza2373)=ah m s3 s25 e z (l.map g)
 |0,i,_,hM=>by omega
 |M+    1,i,hi,hM=>by
  simp only[mM,dlt]
  by_cases hlt:i<l.length
  ·have hA:((l.take i).map g).length=i:=by rw[List.length_map,List.length_take];omega
   have hR:List.replicate (l.length-i) kza2373=kza2373::List.replicate (l.length-(i+1)) kza2373:=by
        rw[show l.length-i=(l.length-(i+1))+1 by omega];rfl
   have hin:inL ((l.take i).map g++List.replicate (l.length-i) kza2373) (i:Int)=some ():=tY (by rw[List.length_append,hA,List.length_replicate];omega)
   have hge:((l.take i).map g++List.replicate (l.length-i) kza2373)[i]? =some kza2373:=by
        rw[hR,List.getElem?_append_right (by omega),hA,Nat.sub_self];rfl
   have hset:((l.take i).map g++List.replicate (l.length-i) kza2373).set i (g l[i])=(l.take (i+1)).map g++List.replicate (l.length-(i+1)) kza2373:=by
        have:=set_mid ((l.take i).map g) (List.replicate (l.length-(i+1)) kza2373) kza2373 (g l[i])
        rw[hA] at this
        rw[hR,this,List.take_succ_eq_append_getElem hlt,List.map_append,List.append_assoc]
        rfl
   simp only[hlt,decide_true,cond_true,aC hlt,hs _ (List.getElem_mem hlt),Option.bind_some,aM (show i<9223372036854775807 by omega),Int.toNat_natCast,hin,hge,hset]
   exact Vf m s3 s25 vs e doc z l g hl hs M (i+1) (by omega) (by omega)
  ·have e1:i=l.length:=by omega
   subst e1
   simp only[hlt,decide_false,cond_false,Nat.sub_self,List.replicate_zero,List.append_nil,List.take_length]
theorem Qg (m:Nat) (s6 s16:Dt→Dt→List Dt→Option Dt) (vs:List Dt) (e doc z y:Dt) (g:Dt→Dt) (hl:(Dt.L e 6).length≤137438953472) (hs:∀k∈Dt.L e 6,s6 k doc vs=some (g k)):∀(M i:Nat) (acc:List Dt),i≤(Dt.L e 6).length→acc.length≤i→(Dt.L e 6).length-i<M→
  oU m s6 s16 M vs (i:Int) e doc z y acc=uP m s6 s16 e z y (acc++((Dt.L e 6).drop i).map g)
 |0,i,_,_,_,hM=>by omega
 |M+1,i,acc,hi,ha,hM=>by
  simp only[oU,dlt]
  by_cases hlt:i<(Dt.L e 6).length
  ·have hac:(acc++[g (Dt.L e 6)[i]]).length≤i+1:=by rw[List.length_append];simp;omega
   have ap:app acc [g (Dt.L e 6)[i]]=some (acc++[g (Dt.L e 6)[i]]):=jg (by simp;omega)
   rw[fT hlt,List.map_cons]
   simp only[hlt,decide_true,cond_true,aC hlt,hs _ (List.getElem_mem hlt),ap,Option.bind_some,aM (show i<9223372036854775807 by omega)]
   rw[Qg m s6 s16 vs e doc z y g hl hs M (i+1) _ (by omega) hac (by omega),List.append_assoc]
   rfl
  ·rw[jl hlt]
   simp only[hlt,decide_false,cond_false,List.map_nil,List.append_nil]
def lpS (op:Int) (g:Dt→Dt) (l:List Dt):List Dt:=bif op==32 then l.map fun x=>orN (g x) else l.filter fun x=>trB (g x)
theorem Vg (op:Int) (g:Dt→Dt) (x:Dt) (l:List Dt):lpS op g (x::l)=bif op==32 then orN (g x)::lpS op g l else bif trB (g x) then x::lpS op g l else lpS op g l:=by
 unfold lpS
 cases (op==32)
 ·simp only[cond_false,List.filter_cons]
  cases trB (g x)<;>rfl
 ·rfl
theorem aaz (m:Nat) (s3:Dt→Dt→Dt→Option Dt) (vs e doc z k1:Dt) (l:List Dt) (g:Dt→Dt) (hl:l.length≤137438953472) (hk:idx (Dt.L e 6) 1=some k1) (hs:∀x∈l,s3 k1 doc (.lst [.agg [.str (Dt.S e 2),x,vs]])=some (g x)):∀(M i:Nat) (acc:List Dt),i≤l.length→acc.length≤i→l.length-i<M→
  jO (m+2) s3 M vs l (l.length:Int) (i:Int) e doc z 6 0 (ByteArray.mk (List.toArray [])) acc []=some (uz (acc++lpS (Dt.I e 0) g (l.drop i)))
 |0,i,_,_,_,hM=>by omega
 |M+    1,i,acc,hi,ha,hM=>by
  simp only[jO,dlt]
  by_cases hlt:i<l.length
  ·have ih:=fun a ha=>aaz m s3 vs e doc z k1 l g hl hk hs M (i+1) a (by omega) ha (by omega)
   have hac:∀y:Dt,(acc++[y]).length≤i+1:=fun y=>by rw[List.length_append];simp;omega
   have ap:∀y:Dt,app acc [y]=some (acc++[y]):=fun y=>jg (by simp;omega)
   rw[fT hlt,Vg]
   simp only[hlt,decide_true,cond_true,qG,aC hlt,hk,hs _ (List.getElem_mem hlt),Z6,Ca,ap,Option.bind_some,aM (show i<9223372036854775807 by omega)]
   cases (Dt.I e 0==32)
   ·    rw[cond_false,cond_false]
        cases trB (g l[i])
        ·rw[cond_false,cond_false,ih acc (by omega)]
        ·rw[cond_true,cond_true,ih _ (hac _),List.append_assoc]
         rfl
   ·    rw[cond_true,cond_true,ih _ (hac _),List.append_assoc]
        rfl
  ·rw[jl hlt]
   have:lpS (Dt.I e 0) g []=[]:=by unfold lpS;cases (Dt.I e 0==32)<;>rfl
   simp only[hlt,decide_false,cond_false,this,List.append_nil]
   rfl
theorem Vh (m:Nat) (s6:Dt→Dt→List Dt→Option Dt) (vs:List Dt) (e doc z v k1:Dt) (g:Dt→Dt) (hl:(Dt.L v 3).length≤137438953472) (hvs:vs.length<137438953472) (hk:idx (Dt.L e 6) 1=some k1) (hs:∀x∈Dt.L v 3,s6 k1 doc (vs++[.agg [.str (Dt.S e 2),x]])=some (g x)) (h0:∀x∈Dt.L v 3,0≤Dt.I (g x) 0):∀(M i:Nat) (acc:List Dt),i≤(Dt.L v 3).length→acc.length≤i→(Dt.L v 3).length-i<M→
  iK (m+2) s6 M vs (i:Int) e doc z v 6 0 (ByteArray.mk (List.toArray [])) acc []=some (uz (acc++lpS (Dt.I e 0) g ((Dt.L v 3).drop i)))
 |0,i,_,_,_,hM=>by omega
 |M+    1,i,acc,hi,ha,hM=>by
  simp only[iK,dlt]
  by_cases hlt:i<(Dt.L v 3).length
  ·have ih:=fun a ha=>Vh m s6 vs e doc z v k1 g hl hvs hk hs h0 M (i+1) a (by omega) ha (by omega)
   have hac:∀y:Dt,(acc++[y]).length≤i+1:=fun y=>by rw[List.length_append];simp;omega
   have ap:∀y:Dt,app acc [y]=some (acc++[y]):=fun y=>jg (by simp;omega)
   have av:app [] vs=some vs:=by rw[jg (by simp;omega)];rfl
   have ab:∀y:Dt,app vs [y]=some (vs++[y]):=fun y=>jg (by simp;omega)
   rw[fT hlt,Vg]
   simp only[hlt,decide_true,cond_true,oV,aC hlt,hk,av,ab,hs _ (List.getElem_mem hlt),acg,KP (m+1) _ (h0 _ (List.getElem_mem hlt)),ap,Option.bind_some,aM (show i<9223372036854775807 by omega)]
   cases (Dt.I e 0==32)
   ·    rw[cond_false,cond_false]
        cases trB (g (Dt.L v 3)[i])
        ·rw[cond_false,cond_false,ih acc (by omega)]
        ·rw[cond_true,cond_true,ih _ (hac _),List.append_assoc]
         rfl
   ·    rw[cond_true,cond_true,ih _ (hac _),List.append_assoc]
        rfl
  ·rw[jl hlt]
   have:lpS (Dt.I e 0) g []=[]:=by unfold lpS;cases (Dt.I e 0==32)<;>rfl
   simp only[hlt,decide_false,cond_false,this,List.append_nil]
   rfl
end Go.Proofs.YtmecfjhdnbgfeaaGreatDoor
