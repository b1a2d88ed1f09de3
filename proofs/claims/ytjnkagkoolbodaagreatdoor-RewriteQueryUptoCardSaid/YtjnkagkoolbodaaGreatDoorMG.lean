/- Values: each is the same as itself.
Stages and their parts are the same as themselves.
Stages are the same as themselves.
Split:the program's and the reference's. -/
import Derived.Test.YtjnkagkoolbodaaGreatDoorMA
import Derived.Test.YtjnkagkoolbodaaGreatDoorMF
import Derived.Test.YtjnkagkoolbodaaGreatDoorMC
set_option linter.unusedVariables false
set_option linter.unusedSimpArgs false
namespace Go.Proofs.YtjnkagkoolbodaaGreatDoor
open Go.Am
theorem ay9 (m:Nat) (self:Dt→Dt→Option Bool) (d:Dt) (hl:(Dt.L d 4).length<9223372036854775807) (hf:∀f∈Dt.L d 4,self (f.fld 1) (f.fld 1)=some true):∀(M i:Nat),i≤(Dt.L d 4).length→(Dt.L d 4).length-i<M→iX m self M (i:Int) d d=some true
 |0,i,_,h=>by omega
 |M+1,i,hi,h=>by
  simp only[iX,dlt]
  by_cases hlt:i<(Dt.L d 4).length
  ·simp only[hlt,decide_true,cond_true,eP,eU,dL,dM,dN,eX,dO,dP,eY,eZ,fq,fu,bI,ay hlt,Option.bind_some,beq_self_eq_true,Bool.not_true,cond_false,hf _ (List.getElem_mem hlt),aT (show i<9223372036854775807 by omega)]
   exact ay9 m self d hl hf M (i+1) (by omega) (by omega)
  ·simp[hlt,eP,eU,dL,dM,dN,eX,dO,dP,eY,eZ,fq,fu,bI]
theorem aza (m:Nat) (self:Dt→Dt→Option Bool) (d:Dt) (hl:(Dt.L d 3).length<9223372036854775807) (hs:∀e∈Dt.L d 3,self e e=some true) (h7:iX m self (Nat.succ m) 0 d d=some true):∀(M i:Nat),i≤(Dt.L d 3).length→(Dt.L d 3).length-i<M→mD m self M (i:Int) d d=some true
 |0,i,_,h=>by omega
 |M+1,i,hi,h=>by
  simp only[mD,dlt]
  by_cases hlt:i<(Dt.L d 3).length
  ·simp only[hlt,decide_true,cond_true,eP,eU,dL,dM,dN,eX,dO,dP,eY,eZ,fq,fu,bI,ay hlt,Option.bind_some,Bool.not_true,cond_false,hs _ (List.getElem_mem hlt),aT (show i<9223372036854775807 by omega)]
   exact aza m self d hl hs h7 M (i+1) (by omega) (by omega)
  ·simp only[hlt,decide_false,cond_false,eP,eU,dL,dM,dN,eX,dO,dP,eY,eZ,fq,fu,bI,h7]
theorem N9:∀(N:Nat) (d:Dt),d.bulk≤N→N≤1000000000000→WV d→∀m,N≤m→aC (m+1) d d=some true
 |0,d,h,_,_,_,_=>by have:=bQ d;omega
 |N +   1,d,h,hN,hw,m,hm=>by
  cases hw with
  | @mk   k i t l ds hl hd=>
    rw[Ch] at h
    obtain⟨m,rfl⟩:∃q,m=q+1:=⟨m-1,by omega⟩
    have hl1:=gK l
    have hd1:=gK ds
    have h7:=ay9 (m+1) (aC (m+1)) (.agg [.int k,.int i,.str t,.lst l,.lst ds]) (show ds.length<_ by omega) (fun f hf=>by
        have hf':f∈ds:=hf
        have hb:=oP hf'
        cases hd f hf' with
        | @mk s v hv=>
          rw[afg] at hb
          exact N9 N v (by omega) (by omega) hv m (by omega)) (m+2) 0 (Nat.zero_le _) (show ds.length-0<m+2 by omega)
    have h2:=aza (m+1) (aC (m+1)) (.agg [.int k,.int i,.str t,.lst l,.lst ds]) (show l.length<_ by omega) (fun e he=>N9 N e (by have:=oP (l:=l) he;omega) (by omega) (hl e he) m (by omega)) h7 (m+2) 0 (Nat.zero_le _) (show l.length-0<m+2 by omega)
    simp only[aC,Er,bne_self_eq_false,cond_false,beq_self_eq_true,Bool.not_true,eP,eU,dL,dM,dN,eX,dO,dP,eY,eZ,fq,fu,bI]
    exact h2
theorem XL (N:Nat) (l:List Dt) (h:Dt.bulkL l+6≤N) (hN:N≤1000000000000) (hw:∀e∈l,WV e) (m:Nat) (hm:N≤m):cu (m+2) l l=some true:=by
 have hv:WV (.agg [.int 6,.int 0,.str (ByteArray.mk (List.toArray [])),.lst l,.lst []]):= .mk hw (by simp)
 have:=N9 N _ (by rw[Ch];simp only[Dt.bulkL];show _+0+(0+6)≤N;omega) hN hv m hm
 simp only[cu,this,Option.bind_some]
end Go.Proofs.YtjnkagkoolbodaaGreatDoor
namespace Go.Proofs.YtjnkagkoolbodaaGreatDoor
open Go.Am
theorem SE (m:Nat) (l:List Dt) (hl:l.length≤1000000000):∀(M i:Nat),i≤l.length→l.length-i<M→iE m M l l (i:Int)=some true
 |0,i,_,h=>by omega
 |M+1,i,hi,h=>by
  simp only[iE,dlt]
  by_cases hlt:i<l.length
  ·simp only[hlt,decide_true,cond_true,nY,nZ,mI,sU,sV,sW,ay hlt,Option.bind_some,beq_self_eq_true,Bool.not_true,cond_false,aT (show i<9223372036854775807 by omega)]
   exact SE m l hl M (i+1) (by omega) (by omega)
  ·simp[hlt,nY,nZ,mI,sU,sV,sW]
theorem Hg (m:Nat) (l:List Dt) (hl:l.length≤1000000000) (hm:l.length≤m):aL (m+2) l l=some true:=by
 have h:jc (m+1) l l=some true:=by
  rw[jc,decide_eq_false (show ¬((l.length:Nat):Int)<((l.length:Nat):Int) by omega),cond_false]
  simp only[nY,nZ,mI,sU,sV,sW]
  exact SE m l hl (m+1) 0 (Nat.zero_le _) (by omega)
 rw[aL,beq_self_eq_true,cond_true,h]
 rfl
theorem atq (m:Nat) (l:List Dt) (hl:l.length≤1000000000) (hs:∀e∈l,aL m e.toLst e.toLst=some true):∀(M i:Nat),i≤l.length→l.length-i<M→gQ m M l l (i:Int)=some true
 |0,i,_,h=>by omega
 |M+1,i,hi,h=>by
  simp only[gQ,dlt]
  by_cases hlt:i<l.length
  ·simp only[hlt,decide_true,cond_true,jE,jF,iP,jG,jH,jI,ay hlt,Option.bind_some,hs _ (List.getElem_mem hlt),Bool.not_true,cond_false,aT (show i<9223372036854775807 by omega)]
   exact atq m l hl hs M (i+1) (by omega) (by omega)
  ·simp[hlt,jE,jF,iP,jG,jH,jI]
theorem Oa (e:Dt):e.toLst.length≤e.bulk:=by
 cases e with
 |lst es=>have:=gK es;simp only[Dt.bulk,Dt.toLst];omega
 |_=>simp[Dt.toLst]
theorem awt (m:Nat) (B:Nat) (hB:B≤100000000) (l:List Dt) (hb:∀e∈l,e.bulk≤B) (hl:l.length≤B) (hm:B+10≤m):cB (m+1) l l=some true:=by
 obtain⟨q,rfl⟩:∃q,m=q+2:=⟨m-2,by omega⟩
 rw[cB,bne_self_eq_false,cond_false]
 simp only[jE,jF,iP,jG,jH,jI]
 exact atq (q+2) l (by omega) (fun e he=>Hg q _ (by have:=Oa e;have:=hb e he;omega) (by have:=Oa e;have:=hb e he;omega)) (q+3) 0 (Nat.zero_le _) (by omega)
theorem aVQ (d:Dt) (hb:d.bulk≤100000000) (h:HasTy Tryz.prog 30 d) (m:Nat) (hm:d.bulk+1≤m):aC m d d=some true:=by
 obtain⟨q,rfl⟩:∃q,m=q+1:=⟨m-1,by omega⟩
 exact N9 d.bulk d (Nat.le_refl _) (by omega) (ajx h) q (by omega)
theorem aOo (l:List Dt) (hb:Dt.bulkL l≤100000000) (h:∀e∈l,HasTy Tryz.prog 30 e) (m:Nat) (hm:Dt.bulkL l+10≤m):cu m l l=some true:=by
 obtain⟨q,rfl⟩:∃q,m=q+2:=⟨m-2,by omega⟩
 exact XL (Dt.bulkL l+6) l (Nat.le_refl _) (by omega) (fun e he=>ajx (h e he)) q (by omega)
theorem V3 (d:Dt) (i:Nat):Dt.bulkL (Dt.L d i)≤d.bulk:=by
 have h:=aA d i
 show Dt.bulkL (Dt.fld d i).toLst≤_
 cases hd:Dt.fld d i with
 |lst es=>rw[hd] at h;simp only[Dt.bulk] at h;simp only[Dt.toLst];omega
 |_=>simp[Dt.toLst,Dt.bulkL]
theorem azb (m:Nat) (self:Dt→Dt→Option Bool) (d:Dt) (hl:(Dt.L d 6).length≤1000000000) (hs:∀e∈Dt.L d 6,self e e=some true):∀(M i:Nat),i≤(Dt.L d 6).length→(Dt.L d 6).length-i<M→fI m self M (i:Int) d d=some true
 |0,i,_,h=>by omega
 |M+1,i,hi,h=>by
  simp only[fI,dlt]
  by_cases hlt:i<(Dt.L d 6).length
  ·simp only[hlt,decide_true,cond_true,jJ,jK,iQ,jL,gT,gU,bq,ay hlt,Option.bind_some,hs _ (List.getElem_mem hlt),Bool.not_true,cond_false,aT (show i<9223372036854775807 by omega)]
   exact azb m self d hl hs M (i+1) (by omega) (by omega)
  ·simp[hlt,jJ,jK,iQ,jL,gT,gU,bq]
theorem aOp:∀(N:Nat) (d:Dt),d.bulk≤N→N≤10000000→HasTy Tryz.prog 36 d→∀m,4*N≤m→aD (m+1) d d=some true
 |0,d,h,_,_,_,_=>by have:=bQ d;omega
 |N+1,d,h,hN,ht,m,hm=>by
  obtain⟨q,rfl⟩:∃q,m=q+3:=⟨m-3,by omega⟩
  have l1:=aO d 1
  have l3:=aO d 3
  have l6:=aO d 6
  have f4:=aA d 4
  have h1:aL (q+3) (Dt.L d 1) (Dt.L d 1)=some true:=Hg (q+1) _ (by omega) (by omega)
  have h3:aL (q+3) (Dt.L d 3) (Dt.L d 3)=some true:=Hg (q+1) _ (by omega) (by omega)
  have h4:=aVQ (Dt.fld d 4) (by omega) (avm ht) (q+3) (by omega)
  have h6:=azb (q+3) (aD (q+3)) d (by omega) (fun e he=>aOp N e (by have:=bA he;omega) (by omega) (avn ht e he) (q+2) (by omega)) (q+4) 0 (Nat.zero_le _) (by omega)
  simp only[aD,sZ,bne_self_eq_false,cond_false,h1,Option.bind_some,Bool.not_true,beq_self_eq_true,h3,h4,jJ,jK,iQ,jL,gT,gU,bq]
  exact h6
theorem Y4 (d:Dt) (hb:d.bulk≤10000000) (h:HasTy Tryz.prog 36 d) (m:Nat) (hm:4*d.bulk+1≤m):aD m d d=some true:=by
 obtain⟨q,rfl⟩:∃q,m=q+1:=⟨m-1,by omega⟩
 exact aOp d.bulk d (Nat.le_refl _) hb h q (by omega)
end Go.Proofs.YtjnkagkoolbodaaGreatDoor
namespace Go.Proofs.YtjnkagkoolbodaaGreatDoor
open Go.Am
theorem atr (m:Nat) (d:Dt) (hl:(Dt.L d 1).length≤1000000000):∀(M i:Nat),i≤(Dt.L d 1).length→(Dt.L d 1).length-i<M→gB m M (i:Int) d d=some true
 |0,i,_,h=>by omega
 |M+1,i,hi,h=>by
  simp only[gB,dlt]
  by_cases hlt:i<(Dt.L d 1).length
  ·simp only[hlt,decide_true,cond_true,iJ,iK,ig,iL,iM,iN,dW,ay hlt,Option.bind_some,beq_self_eq_true,Bool.and_self,Bool.and_true,Bool.not_true,cond_false,aT (show i<9223372036854775807 by omega)]
   exact atr m d hl M (i+1) (by omega) (by omega)
  ·simp[hlt,iJ,iK,ig,iL,iM,iN,dW]
theorem aDS (m:Nat) (d:Dt) (hb:d.bulk≤10000000) (hm:d.bulk≤m):aW (m+1) d d=some true:=by
 have l1:=aO d 1
 have h:=atr m d (by omega) (m+1) 0 (Nat.zero_le _) (by omega)
 simp only[aW,wF,bne_self_eq_false,cond_false,iJ,iK,ig,iL,iM,iN,dW]
 exact h
theorem Gp (m:Nat) (l:List Dt) (hl:l.length≤1000000000) (hs:∀e∈l,aL m (Dt.L e 0) (Dt.L e 0)=some true):∀(M i:Nat),i≤l.length→l.length-i<M→iw m M l l (i:Int)=some true
 |0,i,_,h=>by omega
 |M+1,i,hi,h=>by
  simp only[iw,dlt]
  by_cases hlt:i<l.length
  ·simp only[hlt,decide_true,cond_true,lu,lC,lD,jh,lF,lG,lH,ay hlt,Option.bind_some,beq_self_eq_true,hs _ (List.getElem_mem hlt),Bool.not_true,cond_false,aT (show i<9223372036854775807 by omega)]
   exact Gp m l hl hs M (i+1) (by omega) (by omega)
  ·simp[hlt,lu,lC,lD,jh,lF,lG,lH]
theorem y7 (m:Nat) (B:Nat) (hB:B≤10000000) (l:List Dt) (hb:∀e∈l,e.bulk≤B) (hl:l.length≤B) (hm:B+10≤m):dA (m+1) l l=some true:=by
 obtain⟨q,rfl⟩:∃q,m=q+2:=⟨m-2,by omega⟩
 rw[dA,bne_self_eq_false,cond_false]
 simp only[lu,lC,lD,jh,lF,lG,lH]
 exact Gp (q+2) l (by omega) (fun e he=>Hg q _ (by have:=aO e 0;have:=hb e he;omega) (by have:=aO e 0;have:=hb e he;omega)) (q+3) 0 (Nat.zero_le _) (by omega)
theorem Gq (m:Nat) (l:List Dt) (hl:l.length≤1000000000) (hs:∀e∈l,aL m (Dt.L e 0) (Dt.L e 0)=some true):∀(M i:Nat),i≤l.length→l.length-i<M→iq m M l l (i:Int)=some true
 |0,i,_,h=>by omega
 |M+1,i,hi,h=>by
  simp only[iq,dlt]
  by_cases hlt:i<l.length
  ·simp only[hlt,decide_true,cond_true,kW,kX,kY,jg,kZ,lg,lq,ay hlt,Option.bind_some,beq_self_eq_true,hs _ (List.getElem_mem hlt),Bool.not_true,cond_false,aT (show i<9223372036854775807 by omega)]
   exact Gq m l hl hs M (i+1) (by omega) (by omega)
  ·simp[hlt,kW,kX,kY,jg,kZ,lg,lq]
theorem Y5 (m:Nat) (B:Nat) (hB:B≤10000000) (l:List Dt) (hb:∀e∈l,e.bulk≤B) (hl:l.length≤B) (hm:B+10≤m):gF (m+1) l l=some true:=by
 obtain⟨q,rfl⟩:∃q,m=q+2:=⟨m-2,by omega⟩
 rw[gF,bne_self_eq_false,cond_false]
 simp only[kW,kX,kY,jg,kZ,lg,lq]
 exact Gq (q+2) l (by omega) (fun e he=>Hg q _ (by have:=aO e 0;have:=hb e he;omega) (by have:=aO e 0;have:=hb e he;omega)) (q+3) 0 (Nat.zero_le _) (by omega)
theorem azc (m:Nat) (l:List Dt) (hl:l.length≤1000000000) (hs:∀e∈l,aL m (Dt.L e 0) (Dt.L e 0)=some true∧aD m (Dt.fld e 1) (Dt.fld e 1)=some true):∀(M i:Nat),i≤l.length→l.length-i<M→dS m M l l (i:Int)=some true
 |0,i,_,h=>by omega
 |M+1,i,hi,h=>by
  simp only[dS,dlt]
  by_cases hlt:i<l.length
  ·simp only[hlt,decide_true,cond_true,fK,fM,fO,fB,fP,fQ,fT,ay hlt,Option.bind_some,(hs _ (List.getElem_mem hlt)).1,(hs _ (List.getElem_mem hlt)).2,Bool.not_true,cond_false,aT (show i<9223372036854775807 by omega)]
   exact azc m l hl hs M (i+1) (by omega) (by omega)
  ·simp[hlt,fK,fM,fO,fB,fP,fQ,fT]
theorem aVR (m:Nat) (B:Nat) (hB:B≤10000000) (l:List Dt) (hb:∀e∈l,e.bulk≤B) (hl:l.length≤B) (hm:4*B+10≤m) (ht:∀e∈l,HasTy Tryz.prog 110 e):cO (m+1) l l=some true:=by
 obtain⟨q,rfl⟩:∃q,m=q+2:=⟨m-2,by omega⟩
 rw[cO,bne_self_eq_false,cond_false]
 simp only[fK,fM,fO,fB,fP,fQ,fT]
 refine azc (q+2) l (by omega) (fun e he=>?_) (q+3) 0 (Nat.zero_le _) (by omega)
 have h1:=aO e 0
 have h2:=hb e he
 have h3:=aA e 1
 exact⟨Hg q _ (by omega) (by omega),Y4 _ (by omega) (Ah (ht e he)) (q+2) (by omega)⟩
theorem azd (m:Nat) (d:Dt) (hl:(Dt.L d 3).length≤1000000000) (hs:∀e∈Dt.L d 3,aL m (Dt.L e 0) (Dt.L e 0)=some true) (hc:cO m (Dt.L d 4) (Dt.L d 4)=some true):∀(M i:Nat),i≤(Dt.L d 3).length→(Dt.L d 3).length-i<M→eu m M (i:Int) d d=some true
 |0,i,_,h=>by omega
 |M+1,i,hi,h=>by
  simp only[eu,dlt]
  by_cases hlt:i<(Dt.L d 3).length
  ·simp only[hlt,decide_true,cond_true,dX,dY,dZ,dU,dI,eB,eD,cK,ay hlt,Option.bind_some,bne_self_eq_false,hs _ (List.getElem_mem hlt),Bool.not_true,cond_false,aT (show i<9223372036854775807 by omega)]
   exact azd m d hl hs hc M (i+1) (by omega) (by omega)
  ·simp[hlt,dX,dY,dZ,dU,dI,eB,eD,cK,hc]
theorem aOq (m:Nat) (d:Dt) (hb:d.bulk≤10000000) (hm:4*d.bulk+20≤m) (hc:∀e∈Dt.L d 4,HasTy Tryz.prog 110 e):bM (m+1) d d=some true:=by
 obtain⟨q,rfl⟩:∃q,m=q+2:=⟨m-2,by omega⟩
 have l1:=aO d 1
 have l3:=aO d 3
 have l4:=aO d 4
 have h1:cB (q+2) (Dt.L d 1) (Dt.L d 1)=some true:=awt (q+1) d.bulk (by omega) _ (fun e he=>Nat.le_of_lt (bA he)) (by omega) (by omega)
 have h4:cO (q+2) (Dt.L d 4) (Dt.L d 4)=some true:=aVR (q+1) d.bulk hb _ (fun e he=>Nat.le_of_lt (bA he)) (by omega) (by omega) hc
 have h:=azd (q+2) d (by omega) (fun e he=>Hg q _ (by have:=aO e 0;have:=bA he;omega) (by have:=aO e 0;have:=bA he;omega)) h4 (q+3) 0 (Nat.zero_le _) (by omega)
 simp only[bM,rP,beq_self_eq_true,Bool.not_true,bne_self_eq_false,cond_false,h1,Option.bind_some,dX,dY,dZ,dU,dI,eB,eD,cK]
 exact h
theorem att (m:Nat) (d:Dt) (hl:(Dt.L d 1).length≤1000000000) (hs:∀e∈Dt.L d 1,aD m (Dt.fld e 2) (Dt.fld e 2)=some true∧dA m (Dt.L e 3) (Dt.L e 3)=some true):∀(M i:Nat),i≤(Dt.L d 1).length→(Dt.L d 1).length-i<M→iT m M (i:Int) d d=some true
 |0,i,_,h=>by omega
 |M+1,i,hi,h=>by
  simp only[iT,dlt]
  by_cases hlt:i<(Dt.L d 1).length
  ·simp only[hlt,decide_true,cond_true,mU,mV,mW,lI,mX,mY,mZ,ng,ay hlt,Option.bind_some,bne_self_eq_false,beq_self_eq_true,(hs _ (List.getElem_mem hlt)).1,(hs _ (List.getElem_mem hlt)).2,Bool.not_true,cond_false,aT (show i<9223372036854775807 by omega)]
   exact att m d hl hs M (i+1) (by omega) (by omega)
  ·simp[hlt,mU,mV,mW,lI,mX,mY,mZ,ng]
theorem aTS (m:Nat) (d:Dt) (hb:d.bulk≤10000000) (hm:4*d.bulk+20≤m) (ht:HasTy Tryz.prog 61 d):jW (m+1) d d=some true:=by
 obtain⟨q,rfl⟩:∃q,m=q+2:=⟨m-2,by omega⟩
 have l1:=aO d 1
 have f0:=aA d 0
 have h0:=Y4 (Dt.fld d 0) (by omega) (ahJ ht) (q+2) (by omega)
 have h:=att (q+2) d (by omega) (fun e he=>by
  have h1:=bA he
  have h2:=aA e 2
  have h3:=aO e 3
  exact⟨Y4 _ (by omega) (arX (ahK ht e he)) (q+2) (by omega),y7 (q+1) d.bulk hb _ (fun x hx=>by have:=bA hx;omega) (by omega) (by omega)⟩) (q+3) 0 (Nat.zero_le _) (by omega)
 simp only[jW,CB,h0,Option.bind_some,Bool.not_true,bne_self_eq_false,cond_false,mU,mV,mW,lI,mX,mY,mZ,ng]
 exact h
theorem aDT (m:Nat) (d:Dt) (hl:(Dt.L d 2).length≤1000000000) (hs:∀e∈Dt.L d 2,aD m (Dt.fld e 2) (Dt.fld e 2)=some true):∀(M i:Nat),i≤(Dt.L d 2).length→(Dt.L d 2).length-i<M→iy m M (i:Int) d d=some true
 |0,i,_,h=>by omega
 |M+1,i,hi,h=>by
  simp only[iy,dlt]
  by_cases hlt:i<(Dt.L d 2).length
  ·simp only[hlt,decide_true,cond_true,lJ,lK,lM,jk,lN,lQ,lS,lT,ay hlt,Option.bind_some,bne_self_eq_false,beq_self_eq_true,hs _ (List.getElem_mem hlt),Bool.not_true,cond_false,aT (show i<9223372036854775807 by omega)]
   exact aDT m d hl hs M (i+1) (by omega) (by omega)
  ·simp[hlt,lJ,lK,lM,jk,lN,lQ,lS,lT]
theorem aXe (m:Nat) (d:Dt) (hb:d.bulk≤10000000) (hm:4*d.bulk+20≤m) (ht:HasTy Tryz.prog 64 d):iU (m+1) d d=some true:=by
 obtain⟨q,rfl⟩:∃q,m=q+2:=⟨m-2,by omega⟩
 have l1:=aO d 1
 have l2:=aO d 2
 have f0:=aA d 0
 have h0:=Y4 (Dt.fld d 0) (by omega) (aaJ ht) (q+2) (by omega)
 have h1:dA (q+2) (Dt.L d 1) (Dt.L d 1)=some true:=y7 (q+1) d.bulk hb _ (fun x hx=>by have:=bA hx;omega) (by omega) (by omega)
 have h:=aDT (q+2) d (by omega) (fun e he=>by
  have h1:=bA he
  have h2:=aA e 2
  exact Y4 _ (by omega) (arY (aaK ht e he)) (q+2) (by omega)) (q+3) 0 (Nat.zero_le _) (by omega)
 simp only[iU,AA,h0,h1,Option.bind_some,Bool.not_true,bne_self_eq_false,cond_false,lJ,lK,lM,jk,lN,lQ,lS,lT]
 exact h
theorem aze (m:Nat) (self:Dt→Dt→Option Bool) (d:Dt) (hl:(Dt.L d 8).length≤1000000000) (hs:∀e∈Dt.L d 8,self e e=some true):∀(M i:Nat),i≤(Dt.L d 8).length→(Dt.L d 8).length-i<M→gV m self M (i:Int) d d=some true
 |0,i,_,h=>by omega
 |M+1,i,hi,h=>by
  simp only[gV,dlt]
  by_cases hlt:i<(Dt.L d 8).length
  ·simp only[hlt,decide_true,cond_true,jM,jN,iR,jO,jP,jQ,ay hlt,Option.bind_some,hs _ (List.getElem_mem hlt),Bool.not_true,cond_false,aT (show i<9223372036854775807 by omega)]
   exact aze m self d hl hs M (i+1) (by omega) (by omega)
  ·simp[hlt,jM,jN,iR,jO,jP,jQ]
theorem aOr:∀(N:Nat) (d:Dt),d.bulk≤N→N≤10000000→HasTy Tryz.prog 39 d→∀m,8*N≤m→aY (m+1) d d=some true
 |0,d,h,_,_,_,_=>by have:=bQ d;omega
 |N+1,d,h,hN,ht,m,hm=>by
  obtain⟨q,rfl⟩:∃q,m=q+3:=⟨m-3,by omega⟩
  have hp:=bQ d
  have l1:=aO d 1
  have l8:=aO d 8
  have b3:=V3 d 3
  have f2:=aA d 2
  have f6:=aA d 6
  have f7:=aA d 7
  have h1:aL (q+3) (Dt.L d 1) (Dt.L d 1)=some true:=Hg (q+1) _ (by omega) (by omega)
  have h2:=aVQ (Dt.fld d 2) (by omega) (aeC ht) (q+3) (by omega)
  have h3:=aOo (Dt.L d 3) (by omega) (aeD ht) (q+3) (by
   have:7≤d.bulk:=by rw[aAL ht];simp only[Dt.bulk,Dt.bulkL];omega
   omega)
  have h6:aW (q+3) (Dt.fld d 6) (Dt.fld d 6)=some true:=aDS (q+2) _ (by omega) (by omega)
  have h7:=Y4 (Dt.fld d 7) (by omega) (aeE ht) (q+3) (by omega)
  have h8:=aze (q+3) (aY (q+3)) d (by omega) (fun e he=>aOr N e (by have:=bA he;omega) (by omega) (aeF ht e he) (q+2) (by omega)) (q+4) 0 (Nat.zero_le _) (by omega)
  simp only[aY,yB,bne_self_eq_false,cond_false,h1,h2,h3,h6,h7,Option.bind_some,Bool.not_true,jM,jN,iR,jO,jP,jQ]
  exact h8
theorem ap8 (m:Nat) (self:Dt→Dt→Option Bool) (l:List Dt) (hl:l.length≤1000000000) (hs:∀e∈l,self e e=some true):∀(M i:Nat),i≤l.length→l.length-i<M→uw m self M l l (i:Int)=some true
 |0,i,_,h=>by omega
 |M+1,i,hi,h=>by
  simp only[uw,dlt]
  by_cases hlt:i<l.length
  ·simp only[hlt,decide_true,cond_true,xQ,xR,xS,xU,xV,ay hlt,Option.bind_some,hs _ (List.getElem_mem hlt),Bool.not_true,cond_false,aT (show i<9223372036854775807 by omega)]
   exact ap8 m self l hl hs M (i+1) (by omega) (by omega)
  ·simp[hlt,xQ,xR,xS,xU,xV]
theorem alc (m:Nat) (l:List Dt) (hl:l.length≤1000000000) (hm:l.length≤m) (hs:∀e∈l,bH m e e=some true):bg (m+1) l l=some true:=by
 have h:=ap8 m (bH m) l hl hs (m+1) 0 (Nat.zero_le _) (by omega)
 simp only[bg,bne_self_eq_false,cond_false,xQ,xR,xS,xU,xV]
 exact h
theorem ap9 (m:Nat) (self:List Dt→List Dt→Option Bool) (l:List Dt) (hl:l.length≤1000000000) (hs:∀e∈l,self (Dt.L e 1) (Dt.L e 1)=some true):∀(M i:Nat),i≤l.length→l.length-i<M→iA m self M l l (i:Int)=some true
 |0,i,_,h=>by omega
 |M+1,i,hi,h=>by
  simp only[iA,dlt]
  by_cases hlt:i<l.length
  ·simp only[hlt,decide_true,cond_true,lU,lV,lW,jl,lX,lY,lZ,ay hlt,Option.bind_some,beq_self_eq_true,hs _ (List.getElem_mem hlt),Bool.not_true,cond_false,aT (show i<9223372036854775807 by omega)]
   exact ap9 m self l hl hs M (i+1) (by omega) (by omega)
  ·simp[hlt,lU,lV,lW,jl,lX,lY,lZ]
theorem awu:∀(N:Nat) (d:Dt),d.bulk≤N→N≤9000000→HasTy Tryz.prog 71 d→∀m,64*N≤m→bH (m+1) d d=some true
 |0,d,h,_,_,_,_=>by have:=bQ d;omega
 |N+    1,d,h,hN,ht,m,hm=>by
  obtain⟨q,rfl⟩:∃q,m=q+4:=⟨m-4,by omega⟩
  have hp:=bQ d
  have t10:=aaM ht
  have t11:=aaN ht
  have t12:=aaO ht
  have f1:=aA d 1
  have f2:=aA d 2
  have f9:=aA d 9
  have f10:=aA d 10
  have f11:=aA d 11
  have f12:=aA d 12
  have f15:=aA d 15
  have f16:=aA d 16
  have l3:=aO d 3
  have b3:=V3 d 3
  have l4:=aO d 4
  have l6:=aO d 6
  have aW1:=aO (Dt.fld d 12) 1
  have aCY:=aO (Dt.fld d 12) 2
  have aW2:=aO (Dt.fld d 12) 4
  have l13:=aO d 13
  have b14:=V3 d 14
  have aW3:=aO (Dt.fld d 15) 1
  have g1:aY (q+4) (Dt.fld d 1) (Dt.fld d 1)=some true:=aOr (Dt.fld d 1).bulk _ (Nat.le_refl _) (by omega) (OL ht) (q+3) (by omega)
  have g2:bM (q+4) (Dt.fld d 2) (Dt.fld d 2)=some true:=aOq (q+3) _ (by omega) (by omega) (KX (OM ht))
  have g3:ni (q+4) (Dt.L d 3) (Dt.L d 3)=some true:=by
   have:=aOq (q+2) (.agg [.bool false,.lst [],.bool false,.lst [],.lst (Dt.L d 3)]) (by simp only[Dt.bulk,Dt.bulkL];omega) (by simp only[Dt.bulk,Dt.bulkL];omega) (ahM ht)
   rw[ni,this]
   rfl
  have g4:dA (q+4) (Dt.L d 4) (Dt.L d 4)=some true:=y7 (q+3) (N+1) (by omega) _ (fun x hx=>by have:=bA hx;omega) (by omega) (by omega)
  have g6:aL (q+4) (Dt.L d 6) (Dt.L d 6)=some true:=Hg (q+2) _ (by omega) (by omega)
  have g9:=Y4 (Dt.fld d 9) (by omega) (Wd ht) (q+4) (by omega)
  have g10:jW (q+4) (Dt.fld d 10) (Dt.fld d 10)=some true:=aTS (q+3) _ (by omega) (by omega) t10
  have g11:iU (q+4) (Dt.fld d 11) (Dt.fld d 11)=some true:=aXe (q+3) _ (by omega) (by omega) t11
  have g121:aL (q+4) (Dt.L (Dt.fld d 12) 1) (Dt.L (Dt.fld d 12) 1)=some true:=Hg (q+2) _ (by omega) (by omega)
  have g122:aL (q+4) (Dt.L (Dt.fld d 12) 2) (Dt.L (Dt.fld d 12) 2)=some true:=Hg (q+2) _ (by omega) (by omega)
  have g124:bg (q+4) (Dt.L (Dt.fld d 12) 4) (Dt.L (Dt.fld d 12) 4)=some true:=alc (q+3) _ (by omega) (by omega) fun e he=>awu N e (by have:=bA he;omega) (by omega) (aaL t12 e he) (q+2) (by omega)
  have g13:bO (q+4) (Dt.L d 13) (Dt.L d 13)=some true:=by
   have h:=ap9 (q+3) (bg (q+3)) (Dt.L d 13) (by omega) (fun f hf=>by
        have hb:=bA hf
        have l1:=aO f 1
        exact alc (q+2) _ (by omega) (by omega) fun e he=>awu N e (by have:=bA he;omega) (by omega) (ahL (aaP ht f hf) e he) (q+1) (by omega)) (q+4) 0 (Nat.zero_le _) (by omega)
   simp only[bO,bne_self_eq_false,cond_false,lU,lV,lW,jl,lX,lY,lZ]
   exact h
  have g14:=aOo (Dt.L d 14) (by omega) (aaQ ht) (q+4) (by omega)
  have g15:cB (q+4) (Dt.L (Dt.fld d 15) 1) (Dt.L (Dt.fld d 15) 1)=some true:=awt (q+3) (N+1) (by omega) _ (fun e he=>by have:=bA he;omega) (by omega) (by omega)
  have g16:aW (q+4) (Dt.fld d 16) (Dt.fld d 16)=some true:=aDS (q+3) _ (by omega) (by omega)
  simp only[bH,CG,bne_self_eq_false,beq_self_eq_true,cond_false,cond_true,Option.bind_some,Bool.not_true,rQ,zn,zo,wY,zq,zu,wZ,zw,g1,g2,g3,g4,g6,g9,g10,g11,g121,g122,g124,g13,g14,g15,g16]
theorem aMq (l:List Dt) (B:Nat) (hB:B≤9000000) (hb:Dt.bulkL l≤B) (h:∀e∈l,HasTy Tryz.prog 71 e) (m:Nat) (hm:64*B+10≤m):bg m l l=some true:=by
 obtain⟨q,rfl⟩:∃q,m=q+2:=⟨m-2,by omega⟩
 have:=gK l
 exact alc (q+1) l (by omega) (by omega) fun e he=>awu B e (by have:=oP he;omega) hB (h e he) q (by omega)
end Go.Proofs.YtjnkagkoolbodaaGreatDoor
namespace Go.Proofs.YtjnkagkoolbodaaGreatDoor
open Go.Am
theorem aVS (l:List Dt) (n:Nat) (h:n≤l.length):cutL l (n:Int) (l.length:Int)=some (l.drop n):=by
 unfold cutL
 rw[if_pos ⟨by omega,by omega,by omega⟩]
 simp only[Int.toNat_natCast]
 rw[List.take_of_length_le (by rw[List.length_drop];omega)]
theorem aVT (m:Nat) (l:List Dt) (i:Nat) (op:Int) (h:i<l.length):oH (m+1) l (i:Int) op=some (Dt.I l[i] 0==op):=by
 rw[oH,dlt,decide_eq_true h,cond_true,ay h]
 rfl
theorem aTT (m:Nat) (l:List Dt) (i:Nat) (op:Int) (h:¬i<l.length):oH (m+1) l (i:Int) op=some false:=by
 rw[oH,dlt,decide_eq_false h,cond_false]
end Go.Proofs.YtjnkagkoolbodaaGreatDoor
