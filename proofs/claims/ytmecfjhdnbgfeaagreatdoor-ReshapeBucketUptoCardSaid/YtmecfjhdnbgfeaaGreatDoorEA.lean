/- expr: the value at a path, by the program and by the reference.
expr:operators on integers,by the program and by the reference.
expr:truth values,comparisons,logic,by the program and by the reference.
expr:operators on strings,by the program and by the reference.
expr:parts of strings,joined strings. -/
import Derived.Test.YtmecfjhdnbgfeaaGreatDoorSh
import Derived.Test.YtmecfjhdnbgfeaaGreatDoorMA
import Derived.Test.YtmecfjhdnbgfeaaGreatDoorMC
set_option linter.unusedVariables false
set_option linter.unusedSimpArgs false
namespace Go.Proofs.YtmecfjhdnbgfeaaGreatDoor
open Go.Am
def fnd (x:ByteArray):List Dt→Option Dt
 | []=>none
 |f::r=>bif ByteArray.toList (Dt.S f 0)==ByteArray.toList x then some (Dt.fld f 1) else fnd x r
def akt (x:ByteArray) (L:List Dt):Dt×Bool:=match fnd x L with
 |some v=>(v,true)
 |none=>(kza2373,false)
def uz (l:List Dt):Dt:= .agg [.int 6,.int 0,.str (ByteArray.mk (List.toArray [])),.lst l,.lst []]
def nnB (x:Dt):Bool:=Dt.I x 0 !=0
def atN:Nat→Dt→List Dt→Dt
 |0,_,_=>kza2373
 |_+1,v,[]=>v
 |  n+1,v,s::r=>
    bif Dt.I v 0==5 then(match fnd (Dt.toStr s) (Dt.L v 4) with
     |some x=>atN n x r
     |none=>kza2373)
    else bif Dt.I v 0==6 then uz (((Dt.L v 3).map fun e=>atN n e (s::r)).filter nnB) else kza2373
theorem ale (s:Dt) (p:List Dt):cutL (s::p) 1 ((s::p).length:Int)=some p:=by
 have:=afI (l:=s::p) (i:=1) (j:=(s::p).length) (by simp) (Nat.le_refl _)
 simpa using this
theorem aku (s:Dt) (p:List Dt):idx (s::p) 0=some s:=aC (l:=s::p) (i:=0) (by simp)
theorem fT {A:Type} {L:List A} {i:Nat} (h:i<L.length):L.drop i=L[i]::L.drop (i+1):=List.drop_eq_getElem_cons h
theorem jl {A:Type} {L:List A} {i:Nat} (h:¬i<L.length):L.drop i=[]:=List.drop_eq_nil_of_le (by omega)
theorem KO {x:ByteArray} {v:Dt}:∀{L:List Dt},fnd x L=some v→∃f∈L,v=Dt.fld f 1
 |f::r,h=>by
  rw[fnd] at h
  cases hc:ByteArray.toList (Dt.S f 0)==ByteArray.toList x
  ·rw[hc,cond_false] at h
   obtain⟨g,h1,h2⟩:=KO h
   exact⟨g,List.mem_cons_of_mem _ h1,h2⟩
  ·rw[hc,cond_true] at h
   cases h
   exact⟨f,List.mem_cons_self ..,rfl⟩
theorem XA {x:ByteArray} {v d:Dt} {i:Nat} (h:fnd x (Dt.L d i)=some v):v.bulk<d.bulk:=by
 obtain⟨f,h1,rfl⟩:=KO h
 have:=mR f 1
 have:=nK h1
 omega
theorem acd (m:Nat) (self:Dt→List Dt→Option Dt) (s:Dt) (r fs:List Dt) (z:Dt) (g:Dt→Dt) (hl:fs.length<9223372036854775807) (hs:∀f∈fs,self (Dt.fld f 1) r=some (g (Dt.fld f 1))):
  ∀(M i:Nat),i≤fs.length→fs.length-i<M→mo m self M (s::r) fs (fs.length:Int) (i:Int) z=some (match fnd (Dt.toStr s) (fs.drop i) with
   |some x=>g x
   |none=>kza2373)
 |0,i,_,h=>by omega
 |M+    1,i,hi,h=>by
  simp only[mo,dlt]
  by_cases hlt:i<fs.length
  ·rw[fT hlt,fnd]
   simp only[hlt,decide_true,cond_true,gN,jr,aC hlt,aku,Option.bind_some,aM (show i<9223372036854775807 by omega),ale s r]
   cases hc:ByteArray.toList (Dt.S fs[i] 0)==ByteArray.toList (Dt.toStr s)
   ·    simp only[cond_false]
        exact acd m self s r fs z g hl hs M (i+1) (by omega) (by omega)
   ·simp only[cond_true,hs _ (List.getElem_mem hlt),Option.bind_some]
  ·rw[jl hlt]
   simp only[hlt,decide_false,cond_false,gN,jr,fnd]
theorem Uo (m:Nat) (self:Dt→List Dt→Option Dt) (p l:List Dt) (z:Dt) (g:Dt→Dt) (hl:l.length≤137438953472) (hs:∀e∈l,self e p=some (g e)):
  ∀(M i:Nat) (acc:List Dt),i≤l.length→acc.length≤i→l.length-i<M→gP m self M p l (l.length:Int) (i:Int) z 6 0 (ByteArray.mk (List.toArray [])) acc []=some (uz (acc++((l.drop i).map g).filter nnB))
 |0,i,_,_,_,h=>by omega
 |M+    1,i,acc,hi,ha,h=>by
  simp only[gP,dlt]
  by_cases hlt:i<l.length
  ·rw[fT hlt,List.map_cons,List.filter_cons]
   simp only[hlt,decide_true,cond_true,gN,jr,aC hlt,Option.bind_some,aM (show i<9223372036854775807 by omega),hs _ (List.getElem_mem hlt),nnB]
   rcases Bool.eq_false_or_eq_true (Dt.I (g l[i]) 0 !=0) with hc|hc
   case inr=>
        simp only[hc,cond_false,Bool.false_eq_true,if_false]
        exact Uo m self p l z g hl hs M (i+1) acc (by omega) (by omega) (by omega)
   case inl=>
        have h1:(acc++[g l[i]]).length≤i+1:=by rw[List.length_append];simp;omega
        simp only[hc,cond_true,if_true,jg (l:=acc) (r:=[g l[i]]) (by simp;omega),Option.bind_some]
        rw[Uo m self p l z g hl hs M (i+1) _ (by omega) h1 (by omega),List.append_assoc]
        rfl
  ·rw[jl hlt]
   simp only[hlt,decide_false,cond_false,gN,jr,List.map_nil,List.filter_nil,List.append_nil]
   rfl
theorem Uq:∀(n m:Nat) (v:Dt) (p:List Dt),v.bulk≤n→n≤m→v.bulk≤137438953472→aR (m+1) v p=some (atN (n+1) v p)
 |n,m,v,[],_,_,_=>by simp[aR,atN]
 |0,m,v,s::r,h,_,_=>by have:=nA v;omega
 |n+    1,m,v,s::r,h,hm,hb=>by
  obtain⟨m,rfl⟩:∃k,m=k+1:=⟨m-1,by omega⟩
  have y0:(((s::r).length:Int)==0)=false:=by
   rw[show (0:Int)=((0:Nat):Int) from rfl,ieq];simp
  have hd:∀f∈Dt.L v 4,aR (m+1) (Dt.fld f 1) r=some ((fun x=>atN (n+1) x r) (Dt.fld f 1)):=fun f hf=>by
   have:=mR f 1
   have:=nK hf
   exact Uq n m _ r (by omega) (by omega) (by omega)
  have hl:∀e∈Dt.L v 3,aR (m+1) e (s::r)=some ((fun x=>atN (n+1) x (s::r)) e):=fun e he=>by
   have:=nK he
   exact Uq n m _ (s::r) (by omega) (by omega) (by omega)
  have n4:=fI v 4
  have n3:=fI v 3
  rw[aR,y0,cond_false,atN]
  unfold jr
  cases h5:(Dt.I v 0==5)
  ·simp only[cond_false]
   cases h6:(Dt.I v 0==6)
   ·simp only[cond_false]
   ·    simp only[cond_true]
        have:=Uo (m+1) (aR (m+1)) (s::r) (Dt.L v 3) kza2373 (fun x=>atN (n+1) x (s::r)) (by omega) hl (Nat.succ (m+1)) 0 [] (Nat.zero_le _) (Nat.le_refl _) (by omega)
        simpa using this
  ·simp only[cond_true]
   have:=acd (m+1) (aR (m+1)) s r (Dt.L v 4) kza2373 (fun x=>atN (n+1) x r) (by omega) hd (Nat.succ (m+1)) 0 (Nat.zero_le _) (by omega)
   simpa using this
theorem at_loop (m:Nat) (x:ByteArray) (v:Dt) (hl:(Dt.L v 4).length<9223372036854775807):∀(M i:Nat),i≤(Dt.L v 4).length→(Dt.L v 4).length-i<M→(∃(k:Nat) (h:k<(Dt.L v 4).length),lS m M x (i:Int) v=some (k:Int)∧fnd x ((Dt.L v 4).drop i)=some (Dt.fld (Dt.L v 4)[k] 1))∨(lS m M x (i:Int) v=some (-1)∧fnd x ((Dt.L v 4).drop i)=none)
 |0,i,_,h=>by omega
 |M+1,i,hi,h=>by
  simp only[lS,dlt]
  by_cases hlt:i<(Dt.L v 4).length
  ·rw[fT hlt,fnd]
   simp only[hlt,decide_true,cond_true,aC hlt,Option.bind_some,aM (show i<9223372036854775807 by omega)]
   cases (ByteArray.toList (Dt.S (Dt.L v 4)[i] 0)==ByteArray.toList x)
   ·exact at_loop m x v hl M (i+1) (by omega) (by omega)
   ·exact .inl ⟨i,hlt,rfl,rfl⟩
  ·rw[jl hlt]
   simp only[hlt,decide_false,cond_false]
   exact .inr ⟨trivial,rfl⟩
theorem akv (m:Nat) (v:Dt) (x:ByteArray) (h5:Dt.I v 0=5) (hm:v.bulk≤m) (hm2:v.bulk<9223372036854775807):qh (m+2) v x=some (akt x (Dt.L v 4)):=by
 have hn:=fI v 4
 have y5:(Dt.I v 0 !=5)=false:=by rw[h5];rfl
 have h:=at_loop m x v (by omega) (m+1) 0 (Nat.zero_le _) (by omega)
 rw[List.drop_zero] at h
 rcases h with⟨k,hk,h1,h2⟩| ⟨h1,h2⟩
 ·have ha:kU (m+1) v x=some (k:Int):=by
   simp only[kU,y5,cond_false]
   exact h1
  have d0:decide ((k:Int)<0)=false:=decide_eq_false (by omega)
  simp only[qh,ha,Option.bind_some,d0,cond_false,aC hk,akt,h2]
 ·have ha:kU (m+1) v x=some (-1):=by
   simp only[kU,y5,cond_false]
   exact h1
  have d0:decide ((-1:Int)<0)=true:=rfl
  simp only[qh,ha,Option.bind_some,d0,cond_true,akt,h2]
theorem Ur (m:Nat) (self:Dt→List Dt→Option Dt) (p:List Dt) (v z:Dt) (g:Dt→Dt) (hl:(Dt.L v 3).length≤137438953472) (hs:∀e∈Dt.L v 3,self e p=some (g e)):
  ∀(M i:Nat) (acc:List Dt),i≤(Dt.L v 3).length→acc.length≤i→(Dt.L v 3).length-i<M→qj m self M p (i:Int) v z 6 0 (ByteArray.mk (List.toArray [])) acc []=some (uz (acc++(((Dt.L v 3).drop i).map g).filter nnB))
 |0,i,_,_,_,h=>by omega
 |M+    1,i,acc,hi,ha,h=>by
  simp only[qj,dlt]
  by_cases hlt:i<(Dt.L v 3).length
  ·rw[fT hlt,List.map_cons,List.filter_cons]
   simp only[hlt,decide_true,cond_true,wz,aC hlt,Option.bind_some,aM (show i<9223372036854775807 by omega),hs _ (List.getElem_mem hlt),nnB]
   rcases Bool.eq_false_or_eq_true (Dt.I (g (Dt.L v 3)[i]) 0 !=0) with hc|hc
   case inr=>
        simp only[hc,cond_false,Bool.false_eq_true,if_false]
        exact Ur m self p v z g hl hs M (i+1) acc (by omega) (by omega) (by omega)
   case inl=>
        have h1:(acc++[g (Dt.L v 3)[i]]).length≤i+1:=by rw[List.length_append];simp;omega
        simp only[hc,cond_true,if_true,jg (l:=acc) (r:=[g (Dt.L v 3)[i]]) (by simp;omega),Option.bind_some]
        rw[Ur m self p v z g hl hs M (i+1) _ (by omega) h1 (by omega),List.append_assoc]
        rfl
  ·rw[jl hlt]
   simp only[hlt,decide_false,cond_false,wz,List.map_nil,List.filter_nil,List.append_nil]
   rfl
theorem Us:∀(n m:Nat) (v:Dt) (p:List Dt),v.bulk≤n→n+2≤m→v.bulk≤137438953472→fG (m+1) v p=some (atN (n+1) v p)
 |n,m,v,[],_,_,_=>by simp[fG,atN]
 |0,m,v,s::r,h,_,_=>by have:=nA v;omega
 |n+    1,m,v,s::r,h,hm,hb=>by
  obtain⟨m,rfl⟩:∃k,m=k+2:=⟨m-2,by omega⟩
  have y0:(((s::r).length:Int)==0)=false:=by
   rw[show (0:Int)=((0:Nat):Int) from rfl,ieq];simp
  have hl:∀e∈Dt.L v 3,fG (m+2) e (s::r)=some ((fun x=>atN (n+1) x (s::r)) e):=fun e he=>by
   have:=nK he
   exact Us n (m+1) _ (s::r) (by omega) (by omega) (by omega)
  have n4:=fI v 4
  have n3:=fI v 3
  rw[fG,y0,cond_false,atN]
  unfold wz
  cases h5:(Dt.I v 0==5)
  ·simp only[cond_false]
   cases h6:(Dt.I v 0==6)
   ·simp only[cond_false]
   ·    simp only[cond_true]
        have:=Ur (m+2) (fG (m+2)) (s::r) v kza2373 (fun x=>atN (n+1) x (s::r)) (by omega) hl (Nat.succ (m+2)) 0 [] (Nat.zero_le _) (Nat.le_refl _) (by omega)
        simpa using this
  ·have e5:Dt.I v 0=5:=by simpa using h5
   simp only[cond_true,aku,Option.bind_some,akv m v (Dt.toStr s) e5 (by omega) (by omega),akt]
   cases hf:fnd (Dt.toStr s) (Dt.L v 4) with
   |none=>simp only[cond_false]
   |    some x=>
        have:=XA hf
        simp only[cond_true,ale,Option.bind_some,Us n (m+1) x r (by omega) (by omega) (by omega)]
end Go.Proofs.YtmecfjhdnbgfeaaGreatDoor
namespace Go.Proofs.YtmecfjhdnbgfeaaGreatDoor
open Go.Am
def kV (k n:Int):Dt:= .agg [.int k,.int n,.str (ByteArray.mk (List.toArray [])),.lst [],.lst []]
def iD (d:Dt):Dt:= .int (Dt.I d 1)
def isK (k:Int) (d:Dt):Bool:=Dt.I d 0==k
theorem set_mid (A B:List Dt) (z x:Dt):(A++z::B).set A.length x=A++x::B:=by
 induction A with
 |nil=>rfl
 |cons a A ih=>simp only[List.cons_append,List.length_cons,List.set_cons_succ,ih]
theorem Gg (m:Nat):aT (m+1)=some (kV 2 0):=rfl
theorem int_eq (m:Nat) (n:Int):aN (m+1) n=some (kV 3 n):=rfl
theorem Gh (m:Nat):aS (m+1)=some (kV 2 0):=rfl
theorem Ut (m:Nat) (n:Int):bO (m+1) n=some (kV 3 n):=rfl
def w64 (n:Int):Int:=IntKind.wrap .i64 n
theorem anp (n:Int):w64 n=(n+9223372036854775808)%18446744073709551616-9223372036854775808:=by
 unfold w64
 rw[IntKind.wrap_i64]
def quS (a b:Int):Int:=bif (Int.tmod a b !=0)&&!(decide (a<0)==decide (b<0)) then w64 (w64 (Int.tdiv a b)-1) else w64 (Int.tdiv a b)
theorem ace (m:Nat) (a b:Int) (hb:b≠0):gB (m+1) a b=some (quS a b):=by
 have h0:decide (b=0)=false:=decide_eq_false hb
 rw[gB,h0,cond_false,cond_false,quS]
 cases (Int.tmod a b !=0)
 ·simp only[cond_false,Bool.false_and,kR];rfl
 ·simp only[cond_true,Bool.true_and,kR]
  cases (!(decide (a<0)==decide (b<0)))<;>rfl
theorem tmod_neg (a b:Int) (h:Int.tmod a b≠0):decide (Int.tmod a b<0)=decide (a<0):=by
 by_cases ha:a<0
 ·have h1:Int.tmod a b= -Int.tmod (-a) b:=by rw[Int.neg_tmod];omega
  have h2:=Int.tmod_nonneg b (show 0≤ -a by omega)
  rw[decide_eq_true ha,decide_eq_true (by omega)]
 ·have h2:=Int.tmod_nonneg b (show 0≤a by omega)
  rw[decide_eq_false ha,decide_eq_false (by omega)]
theorem XB (m:Nat) (a b:Int) (hb:b≠0):dw (m+1) a b=some (quS a b):=by
 have h0:decide (b=0)=false:=decide_eq_false hb
 rw[dw]
 by_cases h1:b= -1
 ·subst h1
  rw[show ((-1:Int)== -1)=true from rfl,cond_true,quS,Int.tmod_neg,Int.tmod_one]
  show _=some (w64 (Int.tdiv a (-1)))
  rw[Int.tdiv_neg,Int.tdiv_one]
  show some (w64 (0-a))=_
  rw[Int.zero_sub]
 ·rw[show (b== -1)=false by simpa using h1,cond_false,h0,cond_false,cond_false,cond_false,quS]
  cases hc:(Int.tmod a b !=0)
  ·simp only[cond_false,Bool.false_and,jJ];rfl
  ·have ht:Int.tmod a b≠0:=by simpa using hc
   rw[tmod_neg a b ht]
   simp only[cond_true,Bool.true_and,jJ]
   cases (!(decide (a<0)==decide (b<0)))<;>rfl
theorem N8 (m:Nat) (l:List Dt) (k:Int) (hl:l.length<9223372036854775807):∀(M i:Nat),i≤l.length→l.length-i<M→nV m M l k (i:Int)=some ((l.drop i).all (isK k))
 |0,i,_,h=>by omega
 |M+1,i,hi,h=>by
  simp only[nV,dlt]
  by_cases hlt:i<l.length
  ·rw[fT hlt,List.all_cons]
   simp only[hlt,decide_true,cond_true,aC hlt,Option.bind_some,aM (show i<9223372036854775807 by omega),N8 m l k hl M (i+1) (by omega) (by omega),isK]
   cases hc:(Dt.I l[i] 0==k)
   ·rw[show (Dt.I l[i] 0 !=k)=true by rw[bne,hc];rfl];rfl
   ·rw[show (Dt.I l[i] 0 !=k)=false by rw[bne,hc];rfl];rfl
  ·rw[jl hlt]
   simp only[hlt,decide_false,cond_false,List.all_nil]
theorem N9 (m:Nat) (l:List Dt) (k:Int) (hl:l.length<9223372036854775807) (hm:l.length≤m):gH (m+1) l k=some (l.all (isK k)):=by
 have:=N8 m l k hl (Nat.succ m) 0 (Nat.zero_le _) (by omega)
 simpa [gH] using this
theorem Z5 (m:Nat) (l:List Dt) (z:Dt) (hl:l.length<9223372036854775807):∀(M i:Nat) (n:Int),i≤l.length→l.length-i<M→fO (m+1) M n l (l.length:Int) (i:Int) z=some (kV 3 ((l.drop i).foldl (fun n d=>w64 (n+Dt.toInt d)) n))
 |0,i,_,_,h=>by omega
 |M+1,i,n,hi,h=>by
  simp only[fO,dlt]
  by_cases hlt:i<l.length
  ·rw[fT hlt,List.foldl_cons]
   simp only[hlt,decide_true,cond_true,bK,dK,fP,aC hlt,Option.bind_some,aM (show i<9223372036854775807 by omega)]
   exact Z5 m l z hl M (i+1) _ (by omega) (by omega)
  ·rw[jl hlt]
   simp only[hlt,decide_false,cond_false,bK,dK,fP,int_eq,Option.bind_some,List.foldl_nil]
theorem ais (m:Nat) (l:List Dt) (z:Dt) (hl:l.length<9223372036854775807):∀(M i:Nat) (n:Int),i≤l.length→l.length-i<M→gZ (m+1) M n l (l.length:Int) (i:Int) z=some (kV 3 ((l.drop i).foldl (fun n d=>w64 (n*Dt.toInt d)) n))
 |0,i,_,_,h=>by omega
 |M+1,i,n,hi,h=>by
  simp only[gZ,dlt]
  by_cases hlt:i<l.length
  ·rw[fT hlt,List.foldl_cons]
   simp only[hlt,decide_true,cond_true,bK,dK,fP,aC hlt,Option.bind_some,aM (show i<9223372036854775807 by omega)]
   exact ais m l z hl M (i+1) _ (by omega) (by omega)
  ·rw[jl hlt]
   simp only[hlt,decide_false,cond_false,bK,dK,fP,int_eq,Option.bind_some,List.foldl_nil]
theorem alf (m:Nat) (op:Int) (l:List Dt) (z:Dt) (hl:l.length<9223372036854775807):∀(M i:Nat),i≤l.length→l.length-i<M→
  iW (m+1) M op l (l.length:Int) (i:Int) z ((l.take i).map iD++List.replicate (l.length-i) (Dt.int 0))=bif (l.drop i).all (isK 3) then fP (m+1) op z (l.map iD) else some (kV 2 0)
 |0,i,_,h=>by omega
 |M+    1,i,hi,h=>by
  simp only[iW,dlt]
  by_cases hlt:i<l.length
  ·rw[fT hlt,List.all_cons]
   have hA:((l.take i).map iD).length=i:=by rw[List.length_map,List.length_take];omega
   have hR:List.replicate (l.length-i) (Dt.int 0)=Dt.int 0::List.replicate (l.length-(i+1)) (Dt.int 0):=by
        rw[show l.length-i=(l.length-(i+1))+1 by omega];rfl
   have hin:inL ((l.take i).map iD++List.replicate (l.length-i) (Dt.int 0)) (i:Int)=some ():=tY (by rw[List.length_append,hA,List.length_replicate];omega)
   have hge:((l.take i).map iD++List.replicate (l.length-i) (Dt.int 0))[i]? =some (Dt.int 0):=by
        rw[hR,List.getElem?_append_right (by omega),hA,Nat.sub_self];rfl
   have hset:((l.take i).map iD++List.replicate (l.length-i) (Dt.int 0)).set i (Dt.int (Dt.I l[i] 1))=(l.take (i+1)).map iD++List.replicate (l.length-(i+1)) (Dt.int 0):=by
        have:=set_mid ((l.take i).map iD) (List.replicate (l.length-(i+1)) (Dt.int 0)) (Dt.int 0) (Dt.int (Dt.I l[i] 1))
        rw[hA] at this
        rw[hR,this,List.take_succ_eq_append_getElem hlt,List.map_append,List.append_assoc]
        rfl
   simp only[hlt,decide_true,cond_true,aC hlt,Option.bind_some,aM (show i<9223372036854775807 by omega),Int.toNat_natCast,hin,hge,hset,isK,Gg]
   cases hc:(Dt.I l[i] 0==3)
   ·rw[show (Dt.I l[i] 0 !=3)=true by rw[bne,hc];rfl];rfl
   ·    rw[show (Dt.I l[i] 0 !=3)=false by rw[bne,hc];rfl,cond_false,Bool.true_and]
        exact alf m op l z hl M (i+1) (by omega) (by omega)
  ·have e:i=l.length:=by omega
   subst e
   simp only[hlt,decide_false,cond_false,List.drop_length,List.all_nil,cond_true,Nat.sub_self,List.replicate_zero,List.append_nil,List.take_length]
def Bv (op:Int) (l:List Dt):Dt:=
 bif l.all (isK 3) then
    bif op==6 then kV 3 (l.foldl (fun n d=>w64 (n*Dt.I d 1)) 1)
    else bif op==4 then kV 3 (l.foldl (fun n d=>w64 (n+Dt.I d 1)) 0)
    else bif op==5 then kV 3 (w64 (Dt.I (l.getD 0 kza2373) 1-Dt.I (l.getD 1 kza2373) 1))
    else bif Dt.I (l.getD 1 kza2373) 1==0 then kV 2 0
    else bif op==8 then kV 3 (w64 (Dt.I (l.getD 0 kza2373) 1-w64 (Dt.I (l.getD 1 kza2373) 1*quS (Dt.I (l.getD 0 kza2373) 1) (Dt.I (l.getD 1 kza2373) 1))))
    else kV 3 (quS (Dt.I (l.getD 0 kza2373) 1) (Dt.I (l.getD 1 kza2373) 1))
 else kV 2 0
def XC (op:Int) (l:List Dt):Prop:=op=4∨op=6∨((op=5∨op=7∨op=8)∧∃a b,l=[a,b])
theorem acf (f:Int→Int→Int) (l:List Dt) (n:Int):(l.map iD).foldl (fun n d=>w64 (f n (Dt.toInt d))) n=l.foldl (fun n d=>w64 (f n (Dt.I d 1))) n:=by
 rw[List.foldl_map]
 rfl
theorem Bw (m:Nat) (op:Int) (l:List Dt) (hl:l.length≤137438953472) (hm:l.length≤m) (ho:XC op l):bM (m+2) op l=some (Bv op l):=by
 have h1:=alf m op l kza2373 (by omega) (Nat.succ (m+1)) 0 (Nat.zero_le _) (by omega)
 rw[List.take_zero,List.drop_zero,List.map_nil,List.nil_append,Nat.sub_zero,show ((0:Nat):Int)=0 from rfl] at h1
 rw[bM,wI hl,Option.bind_some,h1,Bv]
 cases hk:l.all (isK 3)
 ·rfl
 ·rw[   cond_true,cond_true]
  rcases ho with rfl|rfl| ⟨ho,a,b,rfl⟩
  ·have h2:=Z5 m (l.map iD) kza2373 (by rw[List.length_map];omega) (Nat.succ (m+1)) 0 0 (Nat.zero_le _) (by rw[List.length_map];omega)
   rw[List.drop_zero,acf (fun x y=>x+y)] at h2
   exact h2
  ·have h2:=ais m (l.map iD) kza2373 (by rw[List.length_map];omega) (Nat.succ (m+1)) 0 1 (Nat.zero_le _) (by rw[List.length_map];omega)
   rw[List.drop_zero,acf (fun x y=>x*y)] at h2
   exact h2
  ·rcases ho with rfl|rfl|rfl
   ·    have h2:=Z5 m [iD a,Dt.int (w64 (0-Dt.I b 1))] kza2373 (by simp) (Nat.succ (m+1)) 0 0 (Nat.zero_le _) (by simp at hm ⊢;omega)
        refine Eq.trans (show _=_ from rfl) (h2.trans ?_)
        show some (kV 3 (w64 (w64 (0+Dt.I a 1)+w64 (0-Dt.I b 1))))=some (kV 3 (w64 (Dt.I a 1-Dt.I b 1)))
        rw[show w64 (w64 (0+Dt.I a 1)+w64 (0-Dt.I b 1))=w64 (Dt.I a 1-Dt.I b 1) by simp only[anp];omega]
   ·    show dK (m+1) 7 kza2373 [iD a,iD b]=some (bif Dt.I b 1==0 then kV 2 0 else kV 3 (quS (Dt.I a 1) (Dt.I b 1)))
        cases hb:(Dt.I b 1==0)
        ·have hb':Dt.I b 1≠0:=by simpa using hb
         show ((bif (Dt.I b 1==0) then _ else bK (m+1) 7 kza2373 [iD a,iD b]):Option Dt)=_
         rw[hb,cond_false]
         show ((gB (m+1) (Dt.I a 1) (Dt.I b 1)).bind _:Option Dt)=_
         rw[ace m _ _ hb']
         rfl
        ·show ((bif (Dt.I b 1==0) then some (kV 2 0) else bK (m+1) 7 kza2373 [iD a,iD b]):Option Dt)=_
         rw[hb]
         rfl
   ·    show dK (m+1) 8 kza2373 [iD a,iD b]=some (bif Dt.I b 1==0 then kV 2 0 else kV 3 (w64 (Dt.I a 1-w64 (Dt.I b 1*quS (Dt.I a 1) (Dt.I b 1)))))
        cases hb:(Dt.I b 1==0)
        ·have hb':Dt.I b 1≠0:=by simpa using hb
         show ((bif (Dt.I b 1==0) then _ else bK (m+1) 8 kza2373 [iD a,iD b]):Option Dt)=_
         rw[hb,cond_false]
         show ((gB (m+1) (Dt.I a 1) (Dt.I b 1)).bind _:Option Dt)=_
         rw[ace m _ _ hb']
         rfl
        ·show ((bif (Dt.I b 1==0) then some (kV 2 0) else bK (m+1) 8 kza2373 [iD a,iD b]):Option Dt)=_
         rw[hb]
         rfl
theorem Uu (m:Nat) (op:Int) (l:List Dt) (z:Dt) (hl:l.length<9223372036854775807):∀(M i:Nat) (n:Int),i≤l.length→l.length-i<M→gW (m+1) M op l n (i:Int) z=zI (m+1) op l ((l.drop i).foldl (fun n d=>bif op==6 then w64 (n*Dt.I d 1) else w64 (n+Dt.I d 1)) n) z
 |0,i,_,_,h=>by omega
 |M+    1,i,n,hi,h=>by
  simp only[gW,dlt]
  by_cases hlt:i<l.length
  ·rw[fT hlt,List.foldl_cons]
   simp only[hlt,decide_true,cond_true,aC hlt,Option.bind_some,aM (show i<9223372036854775807 by omega)]
   cases h6:(op==6)
   ·    rw[cond_false,cond_false,Uu m op l z hl M (i+1) _ (by omega) (by omega),h6]
        rfl
   ·    rw[cond_true,cond_true,Uu m op l z hl M (i+1) _ (by omega) (by omega),h6]
        rfl
  ·rw[jl hlt]
   simp only[hlt,decide_false,cond_false,List.foldl_nil]
theorem number_eq (m:Nat) (op:Int) (l:List Dt) (hl:l.length≤137438953472) (hm:l.length≤m) (ho:XC op l):dR (m+2) op l=some (Bv op l):=by
 have hlp:=fun n=>Uu m op l kza2373 (by omega) (Nat.succ (m+1)) 0 n (Nat.zero_le _) (by omega)
 simp only[List.drop_zero,show ((0:Nat):Int)=0 from rfl] at hlp
 rw[dR,N9 m l 3 (by omega) hm,Option.bind_some,Bv]
 cases hk:l.all (isK 3)
 ·rfl
 ·rw[   cond_true,Bool.not_true,cond_false]
  rcases ho with rfl|rfl| ⟨ho,a,b,rfl⟩
  ·have:=hlp 0
   exact this
  ·have:=hlp 1
   exact this
  ·rcases ho with rfl|rfl|rfl
   ·    have:=hlp 0
        exact this
   ·    show gX (m+1) 7 [a,b] (Dt.I b 1==0) kza2373=some (bif Dt.I b 1==0 then kV 2 0 else kV 3 (quS (Dt.I a 1) (Dt.I b 1)))
        cases hb:(Dt.I b 1==0)
        ·have hb':Dt.I b 1≠0:=by simpa using hb
         refine Eq.trans (show _=_ from hlp 0) ?_
         show ((dw (m+1) (Dt.I a 1) (Dt.I b 1)).bind _:Option Dt)=_
         rw[XB m _ _ hb']
         rfl
        ·rfl
   ·    show gX (m+1) 8 [a,b] (Dt.I b 1==0) kza2373=some (bif Dt.I b 1==0 then kV 2 0 else kV 3 (w64 (Dt.I a 1-w64 (Dt.I b 1*quS (Dt.I a 1) (Dt.I b 1)))))
        cases hb:(Dt.I b 1==0)
        ·have hb':Dt.I b 1≠0:=by simpa using hb
         refine Eq.trans (show _=_ from hlp 0) ?_
         show ((dw (m+1) (Dt.I a 1) (Dt.I b 1)).bind _:Option Dt)=_
         rw[XB m _ _ hb']
         rfl
        ·rfl
end Go.Proofs.YtmecfjhdnbgfeaaGreatDoor
namespace Go.Proofs.YtmecfjhdnbgfeaaGreatDoor
open Go.Am
theorem Rq {A:Type} (b:Bool) (x y:A):(bif b then some x else some y)=some (bif b then x else y):=by cases b<;>rfl
def bV (b:Bool):Dt:=kV 9 (bif b then 1 else 0)
def trB (d:Dt):Bool:=bif Dt.I d 0==0 then false else bif Dt.I d 0==2 then false else bif Dt.I d 0==9 then Dt.I d 1 !=0 else bif Dt.I d 0==3 then Dt.I d 1 !=0 else true
def orN (d:Dt):Dt:=bif Dt.I d 0==0 then kV 2 0 else d
theorem Ca (m:Nat) (d:Dt):bS (m+1) d=some (trB d):=by
 rw[bS,trB]
 cases h0:(Dt.I d 0==0)
 ·rw[   cond_false,cond_false,qA]
  cases h2:(Dt.I d 0==2)
  ·rw[cond_false,cond_false]
   cases h9:(Dt.I d 0==9)
   ·    rw[cond_false,cond_false,qz]
        cases h3:(Dt.I d 0==3)<;>rfl
   ·rfl
  ·rfl
 ·rfl
theorem KP (m:Nat) (d:Dt) (hk:0≤Dt.I d 0):dY (m+1) d=some (trB d):=by
 rw[dY,trB]
 by_cases h2:2<Dt.I d 0
 ·rw[decide_eq_true h2,cond_true,show (Dt.I d 0==0)=false by rw[beq_eq_false_iff_ne];omega,show (Dt.I d 0==2)=false by rw[beq_eq_false_iff_ne];omega,show (Dt.I d 0==1)=false by rw[beq_eq_false_iff_ne];omega,cond_false,cond_false]
  cases h9:(Dt.I d 0==9)
  ·rw[cond_false,cond_false]
   cases h3:(Dt.I d 0==3)
   ·rfl
   ·cases h1:(Dt.I d 1==0)<;>simp[bne,h1]
  ·cases h1:(Dt.I d 1==0)<;>simp[bne,h1]
 ·rw[decide_eq_false h2,cond_false]
  have:Dt.I d 0=0∨Dt.I d 0=1∨Dt.I d 0=2:=by omega
  rcases this with h|h|h<;>rw[h]<;>rfl
theorem Gi (m:Nat) (b:Bool):aQ (m+1) b=some (bV b):=by cases b<;>rfl
theorem Bz (m:Nat) (b:Bool):aO (m+1) b=some (bV b):=by cases b<;>rfl
theorem Z6 (m:Nat) (d:Dt):fD (m+2) d=some (orN d):=by
 rw[fD,orN]
 cases (Dt.I d 0==0)<;>rfl
theorem acg (m:Nat) (d:Dt):lU (m+2) d=some (orN d):=by
 rw[lU,orN]
 cases (Dt.I d 0==0)<;>rfl
def yj (op c:Int):Dt:=
 bif op==10 then bV (c==0) else bif op==11 then bV (c !=0) else bif op==12 then bV (decide (0<c)) else bif op==13 then bV (decide (0≤c))
 else bif op==14 then bV (decide (c<0)) else bif op==15 then bV (decide (c≤0)) else kV 3 c
theorem zB (m:Nat) (op c:Int):gV (m+2) op c=some (yj op c):=by
 rw[gV,yj]
 simp only[Gi,Option.bind_some,int_eq,Rq]
theorem vV (m:Nat) (op c:Int) (a b:Dt) (hc:aA (m+1) a b=some c):bQ (m+2) op a b=some (yj op c):=by
 rw[bQ,yj,hc,Option.bind_some]
 simp only[Bz,Option.bind_some,Ut,Rq]
theorem ach (m:Nat) (op:Int) (l:List Dt) (z:Dt) (hl:l.length<9223372036854775807):∀(M i:Nat) (a o:Bool),i≤l.length→l.length-i<M→j4 (m+1) M op a o l (l.length:Int) (i:Int) z=some (bif op==16 then bV (a&&(l.drop i).all trB) else bV (o||(l.drop i).any trB))
 |0,i,_,_,_,h=>by omega
 |M+1,i,a,o,hi,h=>by
  simp only[j4,dlt]
  by_cases hlt:i<l.length
  ·rw[fT hlt,List.all_cons,List.any_cons]
   simp only[hlt,decide_true,cond_true,sM,aC hlt,Ca,Option.bind_some,aM (show i<9223372036854775807 by omega),ach m op l z hl M (i+1) _ _ (by omega) (by omega)]
   cases a<;>cases o<;>cases trB l[i]<;>simp
  ·rw[jl hlt]
   simp only[hlt,decide_false,cond_false,Gi,Option.bind_some,List.all_nil,List.any_nil,Bool.and_true,Bool.or_false]
   cases (op==16)<;>rfl
def aoS (op:Int) (l:List Dt):Dt:=bif op==16 then bV (l.all trB) else bV (l.any trB)
theorem XD (m:Nat) (op:Int) (l:List Dt) (hl:l.length<9223372036854775807) (hm:l.length≤m) (ho:op=16∨op=17):eU (m+2) op l=some (aoS op l):=by
 have h:=ach m op l kza2373 hl (Nat.succ (m+1)) 0 true false (Nat.zero_le _) (by omega)
 rw[List.drop_zero,Bool.true_and,Bool.false_or] at h
 rcases ho with rfl|rfl<;>exact h
theorem XE (m:Nat) (op:Int) (l:List Dt) (z:Dt) (hl:l.length<9223372036854775807) (hk:∀d∈l,0≤Dt.I d 0) (ho:op=16∨op=17):∀(M i:Nat),i≤l.length→l.length-i<M→nR (m+1) M op l (i:Int) z=some (aoS op (l.drop i))
 |0,i,_,h=>by omega
 |M+1,i,hi,h=>by
  simp only[nR,dlt]
  by_cases hlt:i<l.length
  ·have ih:=XE m op l z hl hk ho M (i+1) (by omega) (by omega)
   rw[fT hlt]
   simp only[hlt,decide_true,cond_true,aC hlt,KP m _ (hk _ (List.getElem_mem hlt)),Bz,Option.bind_some,aM (show i<9223372036854775807 by omega),ih]
   generalize l[i]=x
   generalize l.drop (i+1)=r
   rcases ho with rfl|rfl
   ·cases ht:trB x<;>simp[aoS,ht]
   ·cases ht:trB x<;>simp[aoS,ht]
  ·rw[jl hlt]
   simp only[hlt,decide_false,cond_false,Bz,Option.bind_some]
   rcases ho with rfl|rfl<;>rfl
theorem Rt (m:Nat) (op:Int) (l:List Dt) (hl:l.length<9223372036854775807) (hm:l.length≤m) (hk:∀d∈l,0≤Dt.I d 0) (ho:op=16∨op=17):lH (m+2) op l=some (aoS op l):=by
 have h:=XE m op l kza2373 hl hk ho (Nat.succ (m+1)) 0 (Nat.zero_le _) (by omega)
 rw[List.drop_zero] at h
 exact h
theorem adO (m:Nat) (a:Dt):eU (m+2) 18 [a]=some (bV (!trB a)):=by
 show ((bS (m+1) a).bind _:Option Dt)=_
 rw[Ca,Option.bind_some,Gi]
 rfl
theorem ait (m:Nat) (a b c:Dt):eU (m+2) 19 [a,b,c]=some (bif trB a then b else c):=by
 show ((bS (m+1) a).bind _:Option Dt)=_
 rw[Ca,Option.bind_some]
 cases trB a<;>rfl
theorem adP (m:Nat) (a b:Dt):eU (m+3) 20 [a,b]=some (bif Dt.I (orN a) 0==2 then b else a):=by
 show ((fD (m+2) a).bind _:Option Dt)=_
 rw[Z6,Option.bind_some]
 cases (Dt.I (orN a) 0==2)<;>rfl
end Go.Proofs.YtmecfjhdnbgfeaaGreatDoor
namespace Go.Proofs.YtmecfjhdnbgfeaaGreatDoor
open Go.Am
def bs (l:List UInt8):ByteArray:=⟨l.toArray⟩
theorem Uv (l:List UInt8):(bs l).size=l.length:=by show (List.toArray l).size=_;rw[List.size_toArray]
theorem aiu (l r:List UInt8):bs l++bs r=bs (l++r):=by
 apply ByteArray.ext
 rw[ByteArray.data_append]
 simp[bs]
theorem anq (y:Int):strOfNums [y]=bs [UInt8.ofNat y.toNat]:=rfl
theorem aci {a b:Nat} (h:a+b≤1152921504606846976):Nat.ble (a+b) 1152921504606846976=true:=Nat.ble_eq_true_of_le h
def ltI (up:Bool) (x:Int):Int:=bif up then(bif decide (97≤x)&&decide (x≤122) then x-32 else x) else(bif decide (65≤x)&&decide (x≤90) then x+32 else x)
theorem anr (up:Bool) (x:Int) (h0:0≤x) (h1:x≤255):ltI up x=shI (bif up then 97 else 65) (bif up then 65 else 97) x:=by
 unfold ltI shI
 cases up
 ·simp only[cond_false]
  by_cases h:65≤x∧x≤90
  ·rw[decide_eq_true h.1,decide_eq_true h.2,if_pos (by omega)]
   show x+32=_
   omega
  ·rw[if_neg (by omega)]
   have:(decide (65≤x)&&decide (x≤90))=false:=by simp;omega
   rw[this];rfl
 ·simp only[cond_true]
  by_cases h:97≤x∧x≤122
  ·rw[decide_eq_true h.1,decide_eq_true h.2,if_pos (by omega)]
   show x-32=_
   omega
  ·rw[if_neg (by omega)]
   have:(decide (97≤x)&&decide (x≤122))=false:=by simp;omega
   rw[this];rfl
theorem aiv (m:Nat) (rec1:ByteArray→Bool→ByteArray→Int→Option ByteArray) (s:ByteArray) (up:Bool) (acc:List UInt8) (i x:Int) (h0:0≤x) (h1:x≤255) (ha:acc.length≤1000000000000000) (hx:idxS s i=some x):
  rJ m rec1 s up (bs acc) i=rec1 s up (bs (acc++[UInt8.ofNat (ltI up x).toNat])) (IntKind.wrap .i64 (i+1)):=by
 have fin:∀y,kK m rec1 s up (bs acc) i y=rec1 s up (bs (acc++[UInt8.ofNat y.toNat])) (IntKind.wrap .i64 (i+1)):=fun y=>by
  rw[kK,anq,aci (by rw[Uv,Uv];simp;omega),cond_true,aiu]
 rw[rJ,hx,Option.bind_some]
 cases up
 ·rw[   cond_false]
  simp only[eD,fM,eB,cond_false,cond_true,Bool.not_false,fin,ltI]
  by_cases h65:65≤x
  ·by_cases h90:x≤90
   ·    rw[decide_eq_true h65,decide_eq_true h90,IntKind.wrap_u8,Int.emod_eq_of_lt (by omega) (by omega)]
        rfl
   ·    rw[decide_eq_true h65,decide_eq_false h90]
        rfl
  ·rw[decide_eq_false h65]
   rfl
 ·rw[   cond_true]
  by_cases h97:97≤x
  ·by_cases h122:x≤122
   ·    simp only[decide_eq_true h97,decide_eq_true h122,eD,fM,eB,cond_false,cond_true,Bool.not_true,fin,ltI,Bool.and_true]
        rw[IntKind.wrap_u8,Int.emod_eq_of_lt (by omega) (by omega)]
   ·simp only[decide_eq_true h97,decide_eq_false h122,eD,fM,eB,cond_false,cond_true,Bool.not_true,fin,ltI,Bool.and_false]
  ·simp only[decide_eq_false h97,eD,fM,eB,cond_false,cond_true,Bool.not_true,fin,ltI,Bool.false_and]
theorem akw (x:UInt8):0≤(x.toNat:Int)∧(x.toNat:Int)≤255:=by have:=x.toNat_lt;omega
theorem XF (m:Nat) (s:ByteArray) (up:Bool) (hs:s.size≤1000000000000000):∀(M i:Nat) (acc:List UInt8),i≤s.size→acc.length≤i→s.size-i<M→
  iL m M s up (bs acc) (i:Int)=some (bs (acc++(s.data.toList.drop i).map (shB (bif up then 97 else 65) (bif up then 65 else 97))))
 |0,i,_,_,_,h=>by omega
 |M+1,i,acc,hi,ha,h=>by
  simp only[iL,dlt]
  by_cases hlt:i<s.size
  ·have hlt':i<s.data.toList.length:=by rw[adI];exact hlt
   have hb:=akw (s[i])
   have e:s.data.toList[i]=s[i]:=rfl
   rw[fT hlt',List.map_cons]
   simp only[hlt,decide_true,cond_true]
   rw[aiv m _ s up acc _ _ hb.1 hb.2 (by omega) (oK hlt),aM (by omega),XF m s up hs M (i+1) _ (by omega) (by rw[List.length_append];simp;omega) (by omega),List.append_assoc,anr up _ hb.1 hb.2]
   rfl
  ·rw[jl (by rw[adI];exact hlt)]
   simp only[hlt,decide_false,cond_false,List.map_nil,List.append_nil]
theorem Oa (m:Nat) (s:ByteArray) (up:Bool) (hs:s.size≤1000000000000000) (hm:s.size≤m):iA (m+1) s up=some (shS s (bif up then 97 else 65) (bif up then 65 else 97)):=by
 have h:=XF m s up hs (Nat.succ m) 0 [] (Nat.zero_le _) (Nat.le_refl _) (by omega)
 rw[List.drop_zero,List.nil_append] at h
 exact h
def Z7 (s:ByteArray) (a n:Int):ByteArray:=s.extract (min a.toNat s.size) (min a.toNat s.size+min n.toNat (s.size-min a.toNat s.size))
def slS (a b c:Dt):Dt:=bif isK 4 a&&isK 3 b&&isK 3 c&&!decide (Dt.I b 1<0)&&!decide (Dt.I c 1<0) then y8 (Z7 (Dt.S a 2) (Dt.I b 1) (Dt.I c 1)) else kV 2 0
end Go.Proofs.YtmecfjhdnbgfeaaGreatDoor
namespace Go.Proofs.YtmecfjhdnbgfeaaGreatDoor
open Go.Am
theorem akx (s:ByteArray) (A k:Nat) (h:A+k≤s.size):(s.extract A s.size).extract 0 k=s.extract A (A+k):=by
 rw[ByteArray.extract_extract,Nat.add_zero,Nat.min_eq_left (by omega)]
theorem ext_size (s:ByteArray) (A:Nat):(s.extract A s.size).size=s.size-A:=by
 rw[ByteArray.size_extract,Nat.min_self]
theorem aqu (a b:Nat):(bif decide ((b:Int)<(a:Int)) then(b:Int) else(a:Int))=((min a b:Nat):Int):=by
 by_cases h:(b:Int)<a
 ·rw[decide_eq_true h,cond_true,Nat.min_eq_right (by omega)]
 ·rw[decide_eq_false h,cond_false,Nat.min_eq_left (by omega)]
theorem Z8 (m:Nat) (s:ByteArray) (a n:Nat) (z b c:Dt) (hb:Dt.I b 1=a) (hc:Dt.I c 1=n):P1.expr_ofTexts_j9 (m+1) s z b c=some (y8 (Z7 s a n)):=by
 rw[P1.expr_ofTexts_j9,hb,hc,aqu,LH (Nat.min_le_right _ _) (Nat.le_refl _),Option.bind_some,ext_size,aqu]
 rw[show (0:Int)=((0:Nat):Int) from rfl,LH (Nat.zero_le _) (by rw[ext_size];exact Nat.min_le_right _ _),Option.bind_some,akx _ _ _ (by omega)]
 rfl
theorem Z9 (m:Nat) (s:ByteArray) (a n:Nat) (x y z:Dt) (hs:s.size≤1000000000000000000) (hx:Dt.S x 2=s) (hb:Dt.I y 1=a) (w:Dt) (hc:Dt.I w 1=n):uM (m+1) x y w z=some (y8 (Z7 s a n)):=by
 have key:nT (m+1) ((min a s.size:Nat):Int) x w z=some (y8 (Z7 s a n)):=by
  rw[nT,hx,hc,wrap64 (by omega) (by omega)]
  have hA:min a s.size≤s.size:=Nat.min_le_right _ _
  have e:(s.size:Int)-((min a s.size:Nat):Int)=((s.size-min a s.size:Nat):Int):=by omega
  have fin:∀k:Nat,k=min n (s.size-min a s.size)→nS (m+1) ((min a s.size:Nat):Int) (k:Int) x z=some (y8 (Z7 s a n)):=fun k hk=>by
   rw[nS,hx,wrap64 (by omega) (by omega),show ((min a s.size:Nat):Int)+(k:Int)=((min a s.size+k:Nat):Int) by omega,LH (by omega) (by omega),Option.bind_some,hk]
   rfl
  rw[e]
  by_cases h:((s.size-min a s.size:Nat):Int)<(n:Int)
  ·rw[decide_eq_true h,cond_true]
   exact fin _ (by omega)
  ·rw[decide_eq_false h,cond_false]
   exact fin _ (by omega)
 rw[uM,hx,hb]
 by_cases h:(s.size:Int)<(a:Int)
 ·rw[decide_eq_true h,cond_true]
  rw[Nat.min_eq_right (by omega)] at key
  exact key
 ·rw[decide_eq_false h,cond_false]
  rw[Nat.min_eq_left (by omega)] at key
  exact key
theorem Oc {x:Int} (h:¬x<0):∃n:Nat,x=n:=⟨x.toNat,by omega⟩
theorem adQ (a b c:Dt):bR 25 [a,b,c]=some (slS a b c):=by
 show P1.expr_ofTexts_j5 99 25 [a,b,c] kza2373=_
 show ((bif (Dt.I a 0 !=4) then some (kV 2 0) else P1.expr_ofTexts_j7 99 [a,b,c] (Dt.S a 2) kza2373):Option Dt)=_
 unfold slS isK
 cases h4:(Dt.I a 0==4)
 ·rw[show (Dt.I a 0 !=4)=true by rw[bne,h4];rfl];rfl
 ·rw[   show (Dt.I a 0 !=4)=false by rw[bne,h4];rfl,cond_false,Bool.true_and]
  show ((bif (Dt.I b 0 !=3) then some (kV 2 0) else _):Option Dt)=_
  cases h3:(Dt.I b 0==3)
  ·rw[show (Dt.I b 0 !=3)=true by rw[bne,h3];rfl];rfl
  ·rw[   show (Dt.I b 0 !=3)=false by rw[bne,h3];rfl,cond_false,Bool.true_and]
   cases h33:(Dt.I c 0==3)
   ·rw[show (Dt.I c 0 !=3)=true by rw[bne,h33];rfl];rfl
   ·    rw[show (Dt.I c 0 !=3)=false by rw[bne,h33];rfl,cond_false,Bool.true_and]
        by_cases hb:Dt.I b 1<0
        ·rw[decide_eq_true hb];rfl
        ·rw[decide_eq_false hb,cond_false,Bool.not_false,Bool.true_and]
         by_cases hc:Dt.I c 1<0
         ·rw[decide_eq_true hc];rfl
         · rw[decide_eq_false hc,Bool.not_false,cond_true]
           obtain⟨x,hx⟩:=Oc hb
           obtain⟨y,hy⟩:=Oc hc
           rw[hx,hy]
           exact Z8 98 (Dt.S a 2) x y kza2373 b c hx hy
theorem adR (m:Nat) (a b c:Dt) (hs:(Dt.S a 2).size≤1000000000000000000):lI (m+2) a b c=some (slS a b c):=by
 rw[lI]
 unfold slS isK
 cases h4:(Dt.I a 0==4)
 ·rw[show (Dt.I a 0 !=4)=true by rw[bne,h4];rfl];rfl
 ·rw[   show (Dt.I a 0 !=4)=false by rw[bne,h4];rfl,cond_false,Bool.true_and]
  cases h3:(Dt.I b 0==3)
  ·rw[show (Dt.I b 0 !=3)=true by rw[bne,h3];rfl];rfl
  ·rw[   show (Dt.I b 0 !=3)=false by rw[bne,h3];rfl,cond_false,Bool.true_and]
   cases h33:(Dt.I c 0==3)
   ·rw[show (Dt.I c 0 !=3)=true by rw[bne,h33];rfl];rfl
   ·    rw[show (Dt.I c 0 !=3)=false by rw[bne,h33];rfl,cond_false,Bool.true_and]
        by_cases hb:Dt.I b 1<0
        ·rw[decide_eq_true hb];rfl
        ·rw[decide_eq_false hb,cond_false,Bool.not_false,Bool.true_and]
         by_cases hc:Dt.I c 1<0
         ·rw[decide_eq_true hc];rfl
         · rw[decide_eq_false hc,Bool.not_false,cond_true]
           obtain⟨x,hx⟩:=Oc hb
           obtain⟨y,hy⟩:=Oc hc
           rw[iU,cond_false,Z9 m (Dt.S a 2) x y a b kza2373 hs rfl hx c hy,hx,hy]
def Gj (op:Int) (a:Dt):Dt:=bif isK 4 a then(bif op==22 then y8 (shS (Dt.S a 2) 65 97) else bif op==23 then y8 (shS (Dt.S a 2) 97 65) else kV 3 ((Dt.S a 2).size:Int)) else kV 2 0
theorem Uw (op:Int) (a:Dt) (ho:op=22∨op=23∨op=24):bR op [a]=some (Gj op a):=by
 unfold Gj isK
 rcases ho with rfl|rfl|rfl<;>show ((bif (Dt.I a 0 !=4) then some (kV 2 0) else _):Option Dt)=_<;>cases h4:(Dt.I a 0==4)
 ·rw[show (Dt.I a 0 !=4)=true by rw[bne,h4];rfl];rfl
 ·rw[show (Dt.I a 0 !=4)=false by rw[bne,h4];rfl];rfl
 ·rw[show (Dt.I a 0 !=4)=true by rw[bne,h4];rfl];rfl
 ·rw[show (Dt.I a 0 !=4)=false by rw[bne,h4];rfl];rfl
 ·rw[show (Dt.I a 0 !=4)=true by rw[bne,h4];rfl];rfl
 ·rw[show (Dt.I a 0 !=4)=false by rw[bne,h4];rfl];rfl
end Go.Proofs.YtmecfjhdnbgfeaaGreatDoor
