/- Values: each is the same as itself.
Stages and their parts are the same as themselves.
Stages are the same as themselves.
Split:the program's and the reference's. -/
import Derived.Test.YtjnkagkoolbodaaGreatDoorMA
import Derived.Test.YtjnkagkoolbodaaGreatDoorMF
import Derived.Test.YtjnkagkoolbodaaGreatDoorMC
set_option linter.unusedVariables false
set_option linter.unusedSimpArgs false
namespace Go.Proofs.YtjnkagkoolbodaaGreatDoor
open Go.Am
theorem TP (m:Nat) (self:Dt→Dt→Option Bool) (d:Dt) (hl:(Dt.L d 4).length<9223372036854775807) (hf:∀f∈Dt.L d 4,self (f.fld 1) (f.fld 1)=some true):∀(M i:Nat),i≤(Dt.L d 4).length→(Dt.L d 4).length-i<M→qx m self M (i:Int) d d=some true
 |0,i,_,h=>by omega
 |M+1,i,hi,h=>by
  simp only[qx,dlt]
  by_cases hlt:i<(Dt.L d 4).length
  ·simp only[hlt,decide_true,cond_true,jH,jI,fG,eP,jJ,fH,jK,jL,jM,jN,dH,aA hlt,Option.bind_some,beq_self_eq_true,Bool.not_true,cond_false,hf _ (List.getElem_mem hlt),aF (show i<9223372036854775807 by omega)]
   exact TP m self d hl hf M (i+1) (by omega) (by omega)
  ·simp[hlt,jH,jI,fG,eP,jJ,fH,jK,jL,jM,jN,dH]
theorem TW (m:Nat) (self:Dt→Dt→Option Bool) (d:Dt) (hl:(Dt.L d 3).length<9223372036854775807) (hs:∀e∈Dt.L d 3,self e e=some true) (h7:qx m self (Nat.succ m) 0 d d=some true):∀(M i:Nat),i≤(Dt.L d 3).length→(Dt.L d 3).length-i<M→uN m self M (i:Int) d d=some true
 |0,i,_,h=>by omega
 |M+1,i,hi,h=>by
  simp only[uN,dlt]
  by_cases hlt:i<(Dt.L d 3).length
  ·simp only[hlt,decide_true,cond_true,jH,jI,fG,eP,jJ,fH,jK,jL,jM,jN,dH,aA hlt,Option.bind_some,Bool.not_true,cond_false,hs _ (List.getElem_mem hlt),aF (show i<9223372036854775807 by omega)]
   exact TW m self d hl hs h7 M (i+1) (by omega) (by omega)
  ·simp only[hlt,decide_false,cond_false,jH,jI,fG,eP,jJ,fH,jK,jL,jM,jN,dH,h7]
theorem lN:∀(N:Nat) (d:Dt),d.bulk≤N→N≤1000000000000→WV d→∀m,N≤m→qA (m+1) d d=some true
 |0,d,h,_,_,_,_=>by have:=aR d;omega
 |N +   1,d,h,hN,hw,m,hm=>by
  cases hw with
  | @mk   k i t l ds hl hd=>
    rw[eB] at h
    obtain⟨m,rfl⟩:∃q,m=q+1:=⟨m-1,by omega⟩
    have hl1:=bf l
    have hd1:=bf ds
    have h7:=TP (m+1) (qA (m+1)) (.agg [.int k,.int i,.str t,.lst l,.lst ds]) (show ds.length<_ by omega) (fun f hf=>by
        have hf':f∈ds:=hf
        have hb:=bM hf'
        cases hd f hf' with
        | @mk s v hv=>
          rw[rT] at hb
          exact lN N v (by omega) (by omega) hv m (by omega)) (m+2) 0 (Nat.zero_le _) (show ds.length-0<m+2 by omega)
    have h2:=TW (m+1) (qA (m+1)) (.agg [.int k,.int i,.str t,.lst l,.lst ds]) (show l.length<_ by omega) (fun e he=>lN N e (by have:=bM (l:=l) he;omega) (by omega) (hl e he) m (by omega)) h7 (m+2) 0 (Nat.zero_le _) (show l.length-0<m+2 by omega)
    simp only[qA,bne_self_eq_false,cond_false,beq_self_eq_true,Bool.not_true,jH,jI,fG,eP,jJ,fH,jK,jL,jM,jN,dH]
    exact h2
theorem Dz (N:Nat) (l:List Dt) (h:Dt.bulkL l+6≤N) (hN:N≤1000000000000) (hw:∀e∈l,WV e) (m:Nat) (hm:N≤m):y0 (m+2) l l=some true:=by
 have hv:WV (.agg [.int 6,.int 0,.str (ByteArray.mk (List.toArray [])),.lst l,.lst []]):= .mk hw (by simp)
 have:=lN N _ (by rw[eB];simp only[Dt.bulkL];show _+0+(0+6)≤N;omega) hN hv m hm
 simp only[y0,this,Option.bind_some]
end Go.Proofs.YtjnkagkoolbodaaGreatDoor
namespace Go.Proofs.YtjnkagkoolbodaaGreatDoor
open Go.Am
theorem aBg (m:Nat) (l:List Dt) (hl:l.length≤1000000000):∀(M i:Nat),i≤l.length→l.length-i<M→uM m M l l (i:Int)=some true
 |0,i,_,h=>by omega
 |M+1,i,hi,h=>by
  simp only[uM,dlt]
  by_cases hlt:i<l.length
  ·simp only[hlt,decide_true,cond_true,FN,FP,MS,MU,MV,aA hlt,Option.bind_some,beq_self_eq_true,Bool.not_true,cond_false,aF (show i<9223372036854775807 by omega)]
   exact aBg m l hl M (i+1) (by omega) (by omega)
  ·simp[hlt,FN,FP,MS,MU,MV]
theorem ko (m:Nat) (l:List Dt) (hl:l.length≤1000000000) (hm:l.length≤m):yE (m+2) l l=some true:=by
 have h:zL (m+1) l l=some true:=by
  rw[zL,decide_eq_false (show ¬((l.length:Nat):Int)<((l.length:Nat):Int) by omega),cond_false]
  simp only[FN,FP,MS,MU,MV]
  exact aBg m l hl (m+1) 0 (Nat.zero_le _) (by omega)
 rw[yE,beq_self_eq_true,cond_true,h]
 rfl
theorem J7 (m:Nat) (l:List Dt) (hl:l.length≤1000000000) (hs:∀e∈l,yE m e.toLst e.toLst=some true):∀(M i:Nat),i≤l.length→l.length-i<M→AR m M l l (i:Int)=some true
 |0,i,_,h=>by omega
 |M+1,i,hi,h=>by
  simp only[AR,dlt]
  by_cases hlt:i<l.length
  ·simp only[hlt,decide_true,cond_true,FU,FV,FW,FY,FZ,aA hlt,Option.bind_some,hs _ (List.getElem_mem hlt),Bool.not_true,cond_false,aF (show i<9223372036854775807 by omega)]
   exact J7 m l hl hs M (i+1) (by omega) (by omega)
  ·simp[hlt,FU,FV,FW,FY,FZ]
theorem jd (e:Dt):e.toLst.length≤e.bulk:=by
 cases e with
 |lst es=>have:=bf es;simp only[Dt.bulk,Dt.toLst];omega
 |_=>simp[Dt.toLst]
theorem aaI (m:Nat) (B:Nat) (hB:B≤100000000) (l:List Dt) (hb:∀e∈l,e.bulk≤B) (hl:l.length≤B) (hm:B+10≤m):zA (m+1) l l=some true:=by
 obtain⟨q,rfl⟩:∃q,m=q+2:=⟨m-2,by omega⟩
 rw[zA,bne_self_eq_false,cond_false]
 simp only[FU,FV,FW,FY,FZ]
 exact J7 (q+2) l (by omega) (fun e he=>ko q _ (by have:=jd e;have:=hb e he;omega) (by have:=jd e;have:=hb e he;omega)) (q+3) 0 (Nat.zero_le _) (by omega)
theorem aBh (d:Dt) (hb:d.bulk≤100000000) (h:HasTy Tryz.prog 30 d) (m:Nat) (hm:d.bulk+1≤m):qA m d d=some true:=by
 obtain⟨q,rfl⟩:∃q,m=q+1:=⟨m-1,by omega⟩
 exact lN d.bulk d (Nat.le_refl _) (by omega) (OC h) q (by omega)
theorem atA (l:List Dt) (hb:Dt.bulkL l≤100000000) (h:∀e∈l,HasTy Tryz.prog 30 e) (m:Nat) (hm:Dt.bulkL l+10≤m):y0 m l l=some true:=by
 obtain⟨q,rfl⟩:∃q,m=q+2:=⟨m-2,by omega⟩
 exact Dz (Dt.bulkL l+6) l (Nat.le_refl _) (by omega) (fun e he=>OC (h e he)) q (by omega)
theorem sG (d:Dt) (i:Nat):Dt.bulkL (Dt.L d i)≤d.bulk:=by
 have h:=aB d i
 show Dt.bulkL (Dt.fld d i).toLst≤_
 cases hd:Dt.fld d i with
 |lst es=>rw[hd] at h;simp only[Dt.bulk] at h;simp only[Dt.toLst];omega
 |_=>simp[Dt.toLst,Dt.bulkL]
theorem TY (m:Nat) (self:Dt→Dt→Option Bool) (d:Dt) (hl:(Dt.L d 6).length≤1000000000) (hs:∀e∈Dt.L d 6,self e e=some true):∀(M i:Nat),i≤(Dt.L d 6).length→(Dt.L d 6).length-i<M→uO m self M (i:Int) d d=some true
 |0,i,_,h=>by omega
 |M+1,i,hi,h=>by
  simp only[uO,dlt]
  by_cases hlt:i<(Dt.L d 6).length
  ·simp only[hlt,decide_true,cond_true,F8,F9,Ga,Bn,Bo,dR,aA hlt,Option.bind_some,hs _ (List.getElem_mem hlt),Bool.not_true,cond_false,aF (show i<9223372036854775807 by omega)]
   exact TY m self d hl hs M (i+1) (by omega) (by omega)
  ·simp[hlt,F8,F9,Ga,Bn,Bo,dR]
theorem atB:∀(N:Nat) (d:Dt),d.bulk≤N→N≤10000000→HasTy Tryz.prog 36 d→∀m,4*N≤m→qC (m+1) d d=some true
 |0,d,h,_,_,_,_=>by have:=aR d;omega
 |N+1,d,h,hN,ht,m,hm=>by
  obtain⟨q,rfl⟩:∃q,m=q+3:=⟨m-3,by omega⟩
  have l1:=aD d 1
  have l3:=aD d 3
  have l6:=aD d 6
  have f4:=aB d 4
  have h1:yE (q+3) (Dt.L d 1) (Dt.L d 1)=some true:=ko (q+1) _ (by omega) (by omega)
  have h3:yE (q+3) (Dt.L d 3) (Dt.L d 3)=some true:=ko (q+1) _ (by omega) (by omega)
  have h4:=aBh (Dt.fld d 4) (by omega) (Mw ht) (q+3) (by omega)
  have h6:=TY (q+3) (qC (q+3)) d (by omega) (fun e he=>atB N e (by have:=aL he;omega) (by omega) (Mx ht e he) (q+2) (by omega)) (q+4) 0 (Nat.zero_le _) (by omega)
  simp only[qC,bne_self_eq_false,cond_false,h1,Option.bind_some,Bool.not_true,beq_self_eq_true,h3,h4,F8,F9,Ga,Bn,Bo,dR]
  exact h6
theorem om (d:Dt) (hb:d.bulk≤10000000) (h:HasTy Tryz.prog 36 d) (m:Nat) (hm:4*d.bulk+1≤m):qC m d d=some true:=by
 obtain⟨q,rfl⟩:∃q,m=q+1:=⟨m-1,by omega⟩
 exact atB d.bulk d (Nat.le_refl _) hb h q (by omega)
end Go.Proofs.YtjnkagkoolbodaaGreatDoor
namespace Go.Proofs.YtjnkagkoolbodaaGreatDoor
open Go.Am
theorem J8 (m:Nat) (d:Dt) (hl:(Dt.L d 1).length≤1000000000):∀(M i:Nat),i≤(Dt.L d 1).length→(Dt.L d 1).length-i<M→AQ m M (i:Int) d d=some true
 |0,i,_,h=>by omega
 |M+1,i,hi,h=>by
  simp only[AQ,dlt]
  by_cases hlt:i<(Dt.L d 1).length
  ·simp only[hlt,decide_true,cond_true,FI,FJ,FK,FL,FM,nM,aA hlt,Option.bind_some,beq_self_eq_true,Bool.and_self,Bool.and_true,Bool.not_true,cond_false,aF (show i<9223372036854775807 by omega)]
   exact J8 m d hl M (i+1) (by omega) (by omega)
  ·simp[hlt,FI,FJ,FK,FL,FM,nM]
theorem aaJ (m:Nat) (d:Dt) (hb:d.bulk≤10000000) (hm:d.bulk≤m):qH (m+1) d d=some true:=by
 have l1:=aD d 1
 have h:=J8 m d (by omega) (m+1) 0 (Nat.zero_le _) (by omega)
 simp only[qH,bne_self_eq_false,cond_false,FI,FJ,FK,FL,FM,nM]
 exact h
theorem atC (m:Nat) (l:List Dt) (hl:l.length≤1000000000) (hs:∀e∈l,yE m (Dt.L e 0) (Dt.L e 0)=some true):∀(M i:Nat),i≤l.length→l.length-i<M→F4 m M l l (i:Int)=some true
 |0,i,_,h=>by omega
 |M+1,i,hi,h=>by
  simp only[F4,dlt]
  by_cases hlt:i<l.length
  ·simp only[hlt,decide_true,cond_true,Nb,F3,Nc,Nf,Ng,Nh,aA hlt,Option.bind_some,beq_self_eq_true,hs _ (List.getElem_mem hlt),Bool.not_true,cond_false,aF (show i<9223372036854775807 by omega)]
   exact atC m l hl hs M (i+1) (by omega) (by omega)
  ·simp[hlt,Nb,F3,Nc,Nf,Ng,Nh]
theorem ayn (m:Nat) (B:Nat) (hB:B≤10000000) (l:List Dt) (hb:∀e∈l,e.bulk≤B) (hl:l.length≤B) (hm:B+10≤m):qK (m+1) l l=some true:=by
 obtain⟨q,rfl⟩:∃q,m=q+2:=⟨m-2,by omega⟩
 rw[qK,bne_self_eq_false,cond_false]
 simp only[Nb,F3,Nc,Nf,Ng,Nh]
 exact atC (q+2) l (by omega) (fun e he=>ko q _ (by have:=aD e 0;have:=hb e he;omega) (by have:=aD e 0;have:=hb e he;omega)) (q+3) 0 (Nat.zero_le _) (by omega)
theorem atD (m:Nat) (l:List Dt) (hl:l.length≤1000000000) (hs:∀e∈l,yE m (Dt.L e 0) (Dt.L e 0)=some true):∀(M i:Nat),i≤l.length→l.length-i<M→FT m M l l (i:Int)=some true
 |0,i,_,h=>by omega
 |M+1,i,hi,h=>by
  simp only[FT,dlt]
  by_cases hlt:i<l.length
  ·simp only[hlt,decide_true,cond_true,MW,FR,MX,MZ,M0,Na,aA hlt,Option.bind_some,beq_self_eq_true,hs _ (List.getElem_mem hlt),Bool.not_true,cond_false,aF (show i<9223372036854775807 by omega)]
   exact atD m l hl hs M (i+1) (by omega) (by omega)
  ·simp[hlt,MW,FR,MX,MZ,M0,Na]
theorem aFI (m:Nat) (B:Nat) (hB:B≤10000000) (l:List Dt) (hb:∀e∈l,e.bulk≤B) (hl:l.length≤B) (hm:B+10≤m):qP (m+1) l l=some true:=by
 obtain⟨q,rfl⟩:∃q,m=q+2:=⟨m-2,by omega⟩
 rw[qP,bne_self_eq_false,cond_false]
 simp only[MW,FR,MX,MZ,M0,Na]
 exact atD (q+2) l (by omega) (fun e he=>ko q _ (by have:=aD e 0;have:=hb e he;omega) (by have:=aD e 0;have:=hb e he;omega)) (q+3) 0 (Nat.zero_le _) (by omega)
theorem T9 (m:Nat) (l:List Dt) (hl:l.length≤1000000000) (hs:∀e∈l,yE m (Dt.L e 0) (Dt.L e 0)=some true∧qC m (Dt.fld e 1) (Dt.fld e 1)=some true):∀(M i:Nat),i≤l.length→l.length-i<M→Bt m M l l (i:Int)=some true
 |0,i,_,h=>by omega
 |M+1,i,hi,h=>by
  simp only[Bt,dlt]
  by_cases hlt:i<l.length
  ·simp only[hlt,decide_true,cond_true,Gl,Br,Gm,Gn,Gp,Gq,aA hlt,Option.bind_some,(hs _ (List.getElem_mem hlt)).1,(hs _ (List.getElem_mem hlt)).2,Bool.not_true,cond_false,aF (show i<9223372036854775807 by omega)]
   exact T9 m l hl hs M (i+1) (by omega) (by omega)
  ·simp[hlt,Gl,Br,Gm,Gn,Gp,Gq]
theorem aBi (m:Nat) (B:Nat) (hB:B≤10000000) (l:List Dt) (hb:∀e∈l,e.bulk≤B) (hl:l.length≤B) (hm:4*B+10≤m) (ht:∀e∈l,HasTy Tryz.prog 110 e):qI (m+1) l l=some true:=by
 obtain⟨q,rfl⟩:∃q,m=q+2:=⟨m-2,by omega⟩
 rw[qI,bne_self_eq_false,cond_false]
 simp only[Gl,Br,Gm,Gn,Gp,Gq]
 refine T9 (q+2) l (by omega) (fun e he=>?_) (q+3) 0 (Nat.zero_le _) (by omega)
 have h1:=aD e 0
 have h2:=hb e he
 have h3:=aB e 1
 exact⟨ko q _ (by omega) (by omega),om _ (by omega) (fQ (ht e he)) (q+2) (by omega)⟩
theorem Ua (m:Nat) (d:Dt) (hl:(Dt.L d 3).length≤1000000000) (hs:∀e∈Dt.L d 3,yE m (Dt.L e 0) (Dt.L e 0)=some true) (hc:qI m (Dt.L d 4) (Dt.L d 4)=some true):∀(M i:Nat),i≤(Dt.L d 3).length→(Dt.L d 3).length-i<M→Bz m M (i:Int) d d=some true
 |0,i,_,h=>by omega
 |M+1,i,hi,h=>by
  simp only[Bz,dlt]
  by_cases hlt:i<(Dt.L d 3).length
  ·simp only[hlt,decide_true,cond_true,Bu,qz,Bv,Bw,BD,BF,jO,aA hlt,Option.bind_some,bne_self_eq_false,hs _ (List.getElem_mem hlt),Bool.not_true,cond_false,aF (show i<9223372036854775807 by omega)]
   exact Ua m d hl hs hc M (i+1) (by omega) (by omega)
  ·simp[hlt,Bu,qz,Bv,Bw,BD,BF,jO,hc]
theorem atE (m:Nat) (d:Dt) (hb:d.bulk≤10000000) (hm:4*d.bulk+20≤m) (hc:∀e∈Dt.L d 4,HasTy Tryz.prog 110 e):qB (m+1) d d=some true:=by
 obtain⟨q,rfl⟩:∃q,m=q+2:=⟨m-2,by omega⟩
 have l1:=aD d 1
 have l3:=aD d 3
 have l4:=aD d 4
 have h1:zA (q+2) (Dt.L d 1) (Dt.L d 1)=some true:=aaI (q+1) d.bulk (by omega) _ (fun e he=>Nat.le_of_lt (aL he)) (by omega) (by omega)
 have h4:qI (q+2) (Dt.L d 4) (Dt.L d 4)=some true:=aBi (q+1) d.bulk hb _ (fun e he=>Nat.le_of_lt (aL he)) (by omega) (by omega) hc
 have h:=Ua (q+2) d (by omega) (fun e he=>ko q _ (by have:=aD e 0;have:=aL he;omega) (by have:=aD e 0;have:=aL he;omega)) h4 (q+3) 0 (Nat.zero_le _) (by omega)
 simp only[qB,beq_self_eq_true,Bool.not_true,bne_self_eq_false,cond_false,h1,Option.bind_some,Bu,qz,Bv,Bw,BD,BF,jO]
 exact h
theorem J9 (m:Nat) (d:Dt) (hl:(Dt.L d 1).length≤1000000000) (hs:∀e∈Dt.L d 1,qC m (Dt.fld e 2) (Dt.fld e 2)=some true∧qK m (Dt.L e 3) (Dt.L e 3)=some true):∀(M i:Nat),i≤(Dt.L d 1).length→(Dt.L d 1).length-i<M→Gb m M (i:Int) d d=some true
 |0,i,_,h=>by omega
 |M+1,i,hi,h=>by
  simp only[Gb,dlt]
  by_cases hlt:i<(Dt.L d 1).length
  ·simp only[hlt,decide_true,cond_true,Nj,qy,Nk,Nl,Nn,Np,Gc,aA hlt,Option.bind_some,bne_self_eq_false,beq_self_eq_true,(hs _ (List.getElem_mem hlt)).1,(hs _ (List.getElem_mem hlt)).2,Bool.not_true,cond_false,aF (show i<9223372036854775807 by omega)]
   exact J9 m d hl hs M (i+1) (by omega) (by omega)
  ·simp[hlt,Nj,qy,Nk,Nl,Nn,Np,Gc]
theorem ayo (m:Nat) (d:Dt) (hb:d.bulk≤10000000) (hm:4*d.bulk+20≤m) (ht:HasTy Tryz.prog 61 d):qR (m+1) d d=some true:=by
 obtain⟨q,rfl⟩:∃q,m=q+2:=⟨m-2,by omega⟩
 have l1:=aD d 1
 have f0:=aB d 0
 have h0:=om (Dt.fld d 0) (by omega) (sO ht) (q+2) (by omega)
 have h:=J9 (q+2) d (by omega) (fun e he=>by
  have h1:=aL he
  have h2:=aB e 2
  have h3:=aD e 3
  exact⟨om _ (by omega) (IJ (sP ht e he)) (q+2) (by omega),ayn (q+1) d.bulk hb _ (fun x hx=>by have:=aL hx;omega) (by omega) (by omega)⟩) (q+3) 0 (Nat.zero_le _) (by omega)
 simp only[qR,h0,Option.bind_some,Bool.not_true,bne_self_eq_false,cond_false,Nj,qy,Nk,Nl,Nn,Np,Gc]
 exact h
theorem aaK (m:Nat) (d:Dt) (hl:(Dt.L d 2).length≤1000000000) (hs:∀e∈Dt.L d 2,qC m (Dt.fld e 2) (Dt.fld e 2)=some true):∀(M i:Nat),i≤(Dt.L d 2).length→(Dt.L d 2).length-i<M→Gd m M (i:Int) d d=some true
 |0,i,_,h=>by omega
 |M+1,i,hi,h=>by
  simp only[Gd,dlt]
  by_cases hlt:i<(Dt.L d 2).length
  ·simp only[hlt,decide_true,cond_true,Nq,nN,Nr,Ns,Nt,Nu,Bp,aA hlt,Option.bind_some,bne_self_eq_false,beq_self_eq_true,hs _ (List.getElem_mem hlt),Bool.not_true,cond_false,aF (show i<9223372036854775807 by omega)]
   exact aaK m d hl hs M (i+1) (by omega) (by omega)
  ·simp[hlt,Nq,nN,Nr,Ns,Nt,Nu,Bp]
theorem aFJ (m:Nat) (d:Dt) (hb:d.bulk≤10000000) (hm:4*d.bulk+20≤m) (ht:HasTy Tryz.prog 64 d):qJ (m+1) d d=some true:=by
 obtain⟨q,rfl⟩:∃q,m=q+2:=⟨m-2,by omega⟩
 have l1:=aD d 1
 have l2:=aD d 2
 have f0:=aB d 0
 have h0:=om (Dt.fld d 0) (by omega) (oF ht) (q+2) (by omega)
 have h1:qK (q+2) (Dt.L d 1) (Dt.L d 1)=some true:=ayn (q+1) d.bulk hb _ (fun x hx=>by have:=aL hx;omega) (by omega) (by omega)
 have h:=aaK (q+2) d (by omega) (fun e he=>by
  have h1:=aL he
  have h2:=aB e 2
  exact om _ (by omega) (IK (oG ht e he)) (q+2) (by omega)) (q+3) 0 (Nat.zero_le _) (by omega)
 simp only[qJ,h0,h1,Option.bind_some,Bool.not_true,bne_self_eq_false,cond_false,Nq,nN,Nr,Ns,Nt,Nu,Bp]
 exact h
theorem Ub (m:Nat) (self:Dt→Dt→Option Bool) (d:Dt) (hl:(Dt.L d 8).length≤1000000000) (hs:∀e∈Dt.L d 8,self e e=some true):∀(M i:Nat),i≤(Dt.L d 8).length→(Dt.L d 8).length-i<M→Bq m self M (i:Int) d d=some true
 |0,i,_,h=>by omega
 |M+1,i,hi,h=>by
  simp only[Bq,dlt]
  by_cases hlt:i<(Dt.L d 8).length
  ·simp only[hlt,decide_true,cond_true,Gf,Gg,Gh,Gi,Gj,aA hlt,Option.bind_some,hs _ (List.getElem_mem hlt),Bool.not_true,cond_false,aF (show i<9223372036854775807 by omega)]
   exact Ub m self d hl hs M (i+1) (by omega) (by omega)
  ·simp[hlt,Gf,Gg,Gh,Gi,Gj]
theorem atF:∀(N:Nat) (d:Dt),d.bulk≤N→N≤10000000→HasTy Tryz.prog 39 d→∀m,8*N≤m→qU (m+1) d d=some true
 |0,d,h,_,_,_,_=>by have:=aR d;omega
 |N+1,d,h,hN,ht,m,hm=>by
  obtain⟨q,rfl⟩:∃q,m=q+3:=⟨m-3,by omega⟩
  have hp:=aR d
  have l1:=aD d 1
  have l8:=aD d 8
  have b3:=sG d 3
  have f2:=aB d 2
  have f6:=aB d 6
  have f7:=aB d 7
  have h1:yE (q+3) (Dt.L d 1) (Dt.L d 1)=some true:=ko (q+1) _ (by omega) (by omega)
  have h2:=aBh (Dt.fld d 2) (by omega) (xJ ht) (q+3) (by omega)
  have h3:=atA (Dt.L d 3) (by omega) (xK ht) (q+3) (by
   have:7≤d.bulk:=by rw[Vi ht];simp only[Dt.bulk,Dt.bulkL];omega
   omega)
  have h6:qH (q+3) (Dt.fld d 6) (Dt.fld d 6)=some true:=aaJ (q+2) _ (by omega) (by omega)
  have h7:=om (Dt.fld d 7) (by omega) (xL ht) (q+3) (by omega)
  have h8:=Ub (q+3) (qU (q+3)) d (by omega) (fun e he=>atF N e (by have:=aL he;omega) (by omega) (xM ht e he) (q+2) (by omega)) (q+4) 0 (Nat.zero_le _) (by omega)
  simp only[qU,bne_self_eq_false,cond_false,h1,h2,h3,h6,h7,Option.bind_some,Bool.not_true,Gf,Gg,Gh,Gi,Gj]
  exact h8
theorem Ej (m:Nat) (self:Dt→Dt→Option Bool) (l:List Dt) (hl:l.length≤1000000000) (hs:∀e∈l,self e e=some true):∀(M i:Nat),i≤l.length→l.length-i<M→Gr m self M l l (i:Int)=some true
 |0,i,_,h=>by omega
 |M+1,i,hi,h=>by
  simp only[Gr,dlt]
  by_cases hlt:i<l.length
  ·simp only[hlt,decide_true,cond_true,Nv,Nw,Ny,Nz,NA,aA hlt,Option.bind_some,hs _ (List.getElem_mem hlt),Bool.not_true,cond_false,aF (show i<9223372036854775807 by omega)]
   exact Ej m self l hl hs M (i+1) (by omega) (by omega)
  ·simp[hlt,Nv,Nw,Ny,Nz,NA]
theorem wC (m:Nat) (l:List Dt) (hl:l.length≤1000000000) (hm:l.length≤m) (hs:∀e∈l,qY m e e=some true):zN (m+1) l l=some true:=by
 have h:=Ej m (qY m) l hl hs (m+1) 0 (Nat.zero_le _) (by omega)
 simp only[zN,bne_self_eq_false,cond_false,Nv,Nw,Ny,Nz,NA]
 exact h
theorem El (m:Nat) (self:List Dt→List Dt→Option Bool) (l:List Dt) (hl:l.length≤1000000000) (hs:∀e∈l,self (Dt.L e 1) (Dt.L e 1)=some true):∀(M i:Nat),i≤l.length→l.length-i<M→Gt m self M l l (i:Int)=some true
 |0,i,_,h=>by omega
 |M+1,i,hi,h=>by
  simp only[Gt,dlt]
  by_cases hlt:i<l.length
  ·simp only[hlt,decide_true,cond_true,NC,Gs,ND,NG,NH,NI,aA hlt,Option.bind_some,beq_self_eq_true,hs _ (List.getElem_mem hlt),Bool.not_true,cond_false,aF (show i<9223372036854775807 by omega)]
   exact El m self l hl hs M (i+1) (by omega) (by omega)
  ·simp[hlt,NC,Gs,ND,NG,NH,NI]
theorem Qm:∀(N:Nat) (d:Dt),d.bulk≤N→N≤9000000→HasTy Tryz.prog 71 d→∀m,64*N≤m→qY (m+1) d d=some true
 |0,d,h,_,_,_,_=>by have:=aR d;omega
 |N+    1,d,h,hN,ht,m,hm=>by
  obtain⟨q,rfl⟩:∃q,m=q+4:=⟨m-4,by omega⟩
  have hp:=aR d
  have t10:=oI ht
  have t11:=oJ ht
  have t12:=oK ht
  have f1:=aB d 1
  have f2:=aB d 2
  have f9:=aB d 9
  have f10:=aB d 10
  have f11:=aB d 11
  have f12:=aB d 12
  have f15:=aB d 15
  have f16:=aB d 16
  have l3:=aD d 3
  have b3:=sG d 3
  have l4:=aD d 4
  have l6:=aD d 6
  have l121:=aD (Dt.fld d 12) 1
  have l122:=aD (Dt.fld d 12) 2
  have l124:=aD (Dt.fld d 12) 4
  have l13:=aD d 13
  have b14:=sG d 14
  have l151:=aD (Dt.fld d 15) 1
  have g1:qU (q+4) (Dt.fld d 1) (Dt.fld d 1)=some true:=atF (Dt.fld d 1).bulk _ (Nat.le_refl _) (by omega) (sS ht) (q+3) (by omega)
  have g2:qB (q+4) (Dt.fld d 2) (Dt.fld d 2)=some true:=atE (q+3) _ (by omega) (by omega) (kJ (sU ht))
  have g3:vG (q+4) (Dt.L d 3) (Dt.L d 3)=some true:=by
   have:=atE (q+2) (.agg [.bool false,.lst [],.bool false,.lst [],.lst (Dt.L d 3)]) (by simp only[Dt.bulk,Dt.bulkL];omega) (by simp only[Dt.bulk,Dt.bulkL];omega) (sV ht)
   rw[vG,this]
   rfl
  have g4:qK (q+4) (Dt.L d 4) (Dt.L d 4)=some true:=ayn (q+3) (N+1) (by omega) _ (fun x hx=>by have:=aL hx;omega) (by omega) (by omega)
  have g6:yE (q+4) (Dt.L d 6) (Dt.L d 6)=some true:=ko (q+2) _ (by omega) (by omega)
  have g9:=om (Dt.fld d 9) (by omega) (lV ht) (q+4) (by omega)
  have g10:qR (q+4) (Dt.fld d 10) (Dt.fld d 10)=some true:=ayo (q+3) _ (by omega) (by omega) t10
  have g11:qJ (q+4) (Dt.fld d 11) (Dt.fld d 11)=some true:=aFJ (q+3) _ (by omega) (by omega) t11
  have g121:yE (q+4) (Dt.L (Dt.fld d 12) 1) (Dt.L (Dt.fld d 12) 1)=some true:=ko (q+2) _ (by omega) (by omega)
  have g122:yE (q+4) (Dt.L (Dt.fld d 12) 2) (Dt.L (Dt.fld d 12) 2)=some true:=ko (q+2) _ (by omega) (by omega)
  have g124:zN (q+4) (Dt.L (Dt.fld d 12) 4) (Dt.L (Dt.fld d 12) 4)=some true:=wC (q+3) _ (by omega) (by omega) fun e he=>Qm N e (by have:=aL he;omega) (by omega) (oH t12 e he) (q+2) (by omega)
  have g13:qN (q+4) (Dt.L d 13) (Dt.L d 13)=some true:=by
   have h:=El (q+3) (zN (q+3)) (Dt.L d 13) (by omega) (fun f hf=>by
        have hb:=aL hf
        have l1:=aD f 1
        exact wC (q+2) _ (by omega) (by omega) fun e he=>Qm N e (by have:=aL he;omega) (by omega) (sQ (oL ht f hf) e he) (q+1) (by omega)) (q+4) 0 (Nat.zero_le _) (by omega)
   simp only[qN,bne_self_eq_false,cond_false,NC,Gs,ND,NG,NH,NI]
   exact h
  have g14:=atA (Dt.L d 14) (by omega) (oM ht) (q+4) (by omega)
  have g15:zA (q+4) (Dt.L (Dt.fld d 15) 1) (Dt.L (Dt.fld d 15) 1)=some true:=aaI (q+3) (N+1) (by omega) _ (fun e he=>by have:=aL he;omega) (by omega) (by omega)
  have g16:qH (q+4) (Dt.fld d 16) (Dt.fld d 16)=some true:=aaJ (q+3) _ (by omega) (by omega)
  simp only[qY,bne_self_eq_false,beq_self_eq_true,cond_false,cond_true,Option.bind_some,Bool.not_true,air,uP,ais,ru,ait,BG,g1,g2,g3,g4,g6,g9,g10,g11,g121,g122,g124,g13,g14,g15,g16]
end Go.Proofs.YtjnkagkoolbodaaGreatDoor
namespace Go.Proofs.YtjnkagkoolbodaaGreatDoor
open Go.Am
def sgl (op:Int):Bool:=op==1||op==3||op==2||op==7||op==16
def gI:List Dt→Nat
 | []=>0
 |d::r=>bif sgl (Dt.I d 0) then gI r+1 else 0
theorem vN:∀l:List Dt,gI l≤l.length
 | []=>Nat.le_refl _
 |d::r=>by
  have:=vN r
  rw[gI,List.length_cons]
  cases sgl (Dt.I d 0)
  ·rw[cond_false];omega
  ·rw[cond_true];omega
def oo (l:List Dt) (n:Nat):List Dt×List Dt×List Dt:=(l.take n,l.drop n,match l[n]? with
 |some d=>bif Dt.I d 0==4 then Dt.L d 4 else[]
 |none=>[])
theorem aqI (l:List Dt) (n:Nat) (h:n≤l.length):cutL l 0 (n:Int)=some (l.take n):=by
 unfold cutL
 rw[if_pos ⟨by omega,by omega,by omega⟩]
 simp
theorem aqJ (l:List Dt) (n:Nat) (h:n≤l.length):cutL l (n:Int) (l.length:Int)=some (l.drop n):=by
 unfold cutL
 rw[if_pos ⟨by omega,by omega,by omega⟩]
 simp only[Int.toNat_natCast]
 rw[List.take_of_length_le (by rw[List.length_drop];omega)]
theorem Xm (m:Nat) (op:Int):yI (m+1) op=some (sgl op):=by
 unfold sgl
 simp only[yI,aic,yc]
 by_cases h1:op=1
 ·subst h1;rfl
 by_cases h2:op=2
 ·subst h2;rfl
 by_cases h3:op=3
 ·subst h3;rfl
 by_cases h7:op=7
 ·subst h7;rfl
 by_cases h16:op=16
 ·subst h16;rfl
 have e1:(op==1)=false:=by rw[beq_eq_false_iff_ne];exact h1
 have e2:(op==2)=false:=by rw[beq_eq_false_iff_ne];exact h2
 have e3:(op==3)=false:=by rw[beq_eq_false_iff_ne];exact h3
 have e7:(op==7)=false:=by rw[beq_eq_false_iff_ne];exact h7
 have e16:(op==16)=false:=by rw[beq_eq_false_iff_ne];exact h16
 simp[e1,e2,e3,e7,e16,h1,h2,h3,h7,h16]
theorem Xn (m:Nat) (B:Nat) (hB:B≤9000000) (l:List Dt) (hb:Dt.bulkL l≤B) (ht:∀e∈l,HasTy Tryz.prog 71 e) (hm:32*B+10≤m) (n:Nat) (hn:n≤l.length):F6 m l (n:Int)=some (oo l n):=by
 have hsub:∀k:List Dt,(∀e∈k,e∈l)→k.length≤l.length→i10 m k=some k:=fun k hk hkl=>by
  obtain⟨q,rfl⟩:∃q,m=q+2:=⟨m-2,by omega⟩
  have:=bf l
  exact ahH (q+1) k (by omega) (by omega) fun e he=>QS B e (by have:=bM (hk e he);omega) (by omega) (ht e (hk e he)) q (by omega)
 have c1:=hsub (l.take n) (fun e he=>List.mem_of_mem_take he) (by simp;omega)
 have c2:=hsub (l.drop n) (fun e he=>List.mem_of_mem_drop he) (by simp)
 rw[F6,aqI l n hn,Option.bind_some,c1,Option.bind_some,aqJ l n hn,Option.bind_some,c2,Option.bind_some]
 unfold oo
 by_cases hlt:n<l.length
 ·have e0:l.drop n=l[n]::l.drop (n+1):=List.drop_eq_getElem_cons hlt
  have e1:decide ((0:Int)<((l.drop n).length:Int))=true:=decide_eq_true (by rw[List.length_drop];omega)
  have e2:idx (l.drop n) 0=some l[n]:=by rw[e0];rfl
  have hbn:=bM (List.getElem_mem hlt)
  have l4:=aD l[n] 4
  have c3:i12 m (Dt.L l[n] 4)=some (Dt.L l[n] 4):=by
   obtain⟨q,rfl⟩:∃q,m=q+3:=⟨m-3,by omega⟩
   exact vP q _ (fun e he=>by have:=aL he;omega) (by omega) (by omega) (Fp (ht _ (List.getElem_mem hlt)))
  rw[e1,cond_true,e2,Option.bind_some,List.getElem?_eq_getElem hlt,Ni,e2,Option.bind_some]
  simp only[c3,Option.bind_some,aiq]
  cases (Dt.I l[n] 0==4)<;>rfl
 ·have e1:decide ((0:Int)<((l.drop n).length:Int))=false:=decide_eq_false (by rw[List.length_drop];omega)
  rw[e1,cond_false,List.getElem?_eq_none (by omega),Ni]
  rfl
theorem Uc (m:Nat) (l:List Dt) (hl:l.length≤1000000000):∀(M i:Nat),i≤l.length→l.length-i<M→F7 (m+1) M l (i:Int)=F6 (m+1) l ((i+gI (l.drop i):Nat):Int)
 |0,i,_,h=>by omega
 |M+    1,i,hi,h=>by
  rw[F7,dlt]
  by_cases hlt:i<l.length
  ·rw[decide_eq_true hlt,cond_true,aA hlt,Option.bind_some,Xm,Option.bind_some,List.drop_eq_getElem_cons hlt,gI]
   cases sgl (Dt.I l[i] 0)
   ·rw[cond_false,cond_false];rfl
   ·    rw[cond_true,cond_true,aip,aF (show i<9223372036854775807 by omega),Uc m l hl M (i+1) (by omega) (by omega)]
        congr 2
        omega
  ·have e:i=l.length:=by omega
   subst e
   rw[decide_eq_false (Nat.lt_irrefl _),cond_false,List.drop_length,gI]
   rfl
theorem aaL (m:Nat) (B:Nat) (hB:B≤9000000) (l:List Dt) (hb:Dt.bulkL l≤B) (ht:∀e∈l,HasTy Tryz.prog 71 e) (hm:32*B+10≤m):zV (m+1) l=some (oo l (gI l)):=by
 obtain⟨q,rfl⟩:∃q,m=q+1:=⟨m-1,by omega⟩
 have hl:=bf l
 have h:=Uc q l (by omega) (q+2) 0 (Nat.zero_le _) (by omega)
 rw[List.drop_zero,Nat.zero_add,Xn (q+1) B hB l hb ht hm _ (vN l)] at h
 exact h
theorem atG (m:Nat) (l:List Dt) (i:Nat) (op:Int) (h:i<l.length):vH (m+1) l (i:Int) op=some (Dt.I l[i] 0==op):=by
 rw[vH,dlt,decide_eq_true h,cond_true,aA h]
 rfl
theorem aaM (m:Nat) (l:List Dt) (i:Nat) (op:Int) (h:¬i<l.length):vH (m+1) l (i:Int) op=some false:=by
 rw[vH,dlt,decide_eq_false h,cond_false]
theorem Qn (m:Nat) (l:List Dt) (n:Nat) (hn:n≤l.length):MO (m+1) l (n:Int)=some (oo l n):=by
 unfold oo
 rw[MO]
 by_cases hlt:n<l.length
 ·rw[atG m l n 4 hlt,Option.bind_some,aqI l n hn,aqJ l n hn,aA hlt,List.getElem?_eq_getElem hlt,Vw,aqI l n hn,aqJ l n hn]
  cases h4:(Dt.I l[n] 0==4)<;>simp only[h4,cond_false,cond_true,Option.bind_some]
 ·rw[aaM m l n 4 hlt,Option.bind_some,cond_false,Vw,aqI l n hn,Option.bind_some,aqJ l n hn,Option.bind_some,List.getElem?_eq_none (by omega)]
theorem Ka (m:Nat) (l:List Dt) (hl:l.length≤1000000000):∀(M i:Nat),i≤l.length→l.length-i<M→nL (m+1) M l (i:Int)=MO (m+1) l ((i+gI (l.drop i):Nat):Int)
 |0,i,_,h=>by omega
 |M+    1,i,hi,h=>by
  rw[nL]
  by_cases hlt:i<l.length
  ·have ih:=Ka m l hl M (i+1) (by omega) (by omega)
   have hd:i+gI (l.drop i)=bif sgl (Dt.I l[i] 0) then i+1+gI (l.drop (i+1)) else i:=by
        rw[List.drop_eq_getElem_cons hlt,gI]
        cases sgl (Dt.I l[i] 0)
        ·rfl
        ·rw[cond_true,cond_true];omega
   rw[hd]
   unfold sgl
   simp only[atG m l i _ hlt,Option.bind_some,yg,aF (show i<9223372036854775807 by omega),ih]
   cases (Dt.I l[i] 0==1)<;>cases (Dt.I l[i] 0==3)<;>cases (Dt.I l[i] 0==2)<;>cases (Dt.I l[i] 0==7)<;>cases (Dt.I l[i] 0==16)<;>rfl
  ·have e:i=l.length:=by omega
   subst e
   simp only[aaM m l l.length _ (Nat.lt_irrefl _),Option.bind_some,cond_false,List.drop_length,gI,Nat.add_zero]
theorem Xo (m:Nat) (l:List Dt) (hl:l.length≤1000000000) (hm:l.length≤m):z8 (m+2) l=some (oo l (gI l)):=by
 have h:=Ka m l hl (m+2) 0 (Nat.zero_le _) (by omega)
 rw[List.drop_zero,Nat.zero_add,Qn m l _ (vN l)] at h
 exact h
end Go.Proofs.YtjnkagkoolbodaaGreatDoor
