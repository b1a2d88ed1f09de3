/- Ends: a function hands something back.
Validity of parts of stages:these functions end.
Nested pipelines and their count;the paths of a projection.
Comparing with nothing:these functions end. -/
import Derived.Test.YtjnkagkoolbodaaGreatDoorMA
import Derived.Test.YtjnkagkoolbodaaGreatDoorMC
import Derived.Test.YtjnkagkoolbodaaGreatDoorMG
set_option linter.unusedVariables false
set_option linter.unusedSimpArgs false
namespace Go.Proofs.YtjnkagkoolbodaaGreatDoor
open Go.Am
def Som {A:Type} (o:Option A):Prop:=∃r,o=some r
theorem au {A:Type} (r:A):Som (some r):=⟨r,rfl⟩
theorem dZ {A:Type} {o:Option A} {r:A} (h:o=some r):Som o:=⟨r,h⟩
theorem ay {A B:Type} {o:Option A} {k:A→Option B} (h:Som o) (hk:∀r,o=some r→Som (k r)):Som (o.bind k):=by
 obtain⟨r,e⟩:=h
 rw[e,Option.bind_some]
 exact hk r e
theorem aj {A:Type} {b:Bool} {x y:Option A} (hx:b=true→Som x) (hy:b=false→Som y):Som (bif b then x else y):=by
 cases b
 ·exact hy rfl
 ·exact hx rfl
end Go.Proofs.YtjnkagkoolbodaaGreatDoor
namespace Go.Proofs.YtjnkagkoolbodaaGreatDoor
open Go.Am
theorem aBj (m:Nat) (n:Int):Som (yP (m+1) n):=by
 rw[yP]
 repeat' (first|exact au _|refine aj (fun _=>?_) (fun _=>?_))
theorem aBk (m:Nat) (n:Int):Som (vB (m+1) n):=by
 rw[vB]
 repeat' (first|exact au _|refine aj (fun _=>?_) (fun _=>?_))
theorem aBl (m:Nat) (n:Int):Som (y1 (m+1) n):=by
 rw[y1]
 repeat' (first|exact au _|refine aj (fun _=>?_) (fun _=>?_))
theorem aBm (m:Nat) (d:Dt):Som (y2 (m+1) d):=by
 rw[y2]
 repeat' (first|exact au _|refine aj (fun _=>?_) (fun _=>?_))
theorem aFK (m:Nat) (d:Dt):Som (vF (m+1) d):=by
 rw[vF]
 repeat' (first|exact au _|refine aj (fun _=>?_) (fun _=>?_))
theorem aFL (m:Nat) (d:Dt):Som (yF (m+1) d):=by
 rw[yF]
 repeat' (first|exact au _|refine aj (fun _=>?_) (fun _=>?_))
theorem aFM (m:Nat) (d:Dt):Som (yT (m+1) d):=by
 rw[yT]
 repeat' (first|exact au _|refine aj (fun _=>?_) (fun _=>?_))
theorem aFN (m:Nat) (d:Dt):Som (yR (m+1) d):=by
 simp only[yR,aiF,NR,VE]
 repeat' (first|exact au _|refine aj (fun _=>?_) (fun _=>?_))
theorem aFO (m:Nat) (d:Dt):Som (yW (m+1) d):=by
 simp only[yW,aiG]
 repeat' (first|exact au _|refine aj (fun _=>?_) (fun _=>?_))
theorem aBn (m:Nat) (n:Int):Som (y6 (m+2) n):=by
 rw[y6]
 repeat' (first|exact au _|refine aj (fun _=>?_) (fun _=>?_)|refine ay (aBl m n) (fun _ _=>?_))
theorem aFP (m:Nat) (d:Dt):Som (vE (m+2) d):=by
 rw[vE]
 repeat' (first|exact au _|refine aj (fun _=>?_) (fun _=>?_)|refine ay (aBm m _) (fun _ _=>?_))
theorem aFQ (m:Nat) (d:Dt):Som (VI (m+3) d):=by
 rw[VI]
 repeat' (first|exact au _|refine aj (fun _=>?_) (fun _=>?_)|refine ay (aFP (m+1) _) (fun _ _=>?_)|refine ay (aFK (m+2) _) (fun _ _=>?_))
theorem aFR (m:Nat) (b:Bool) (d:Dt):Som (gY (m+3) b d):=by
 rw[gY]
 exact aj (fun _=>au _) (fun _=>aFQ m d)
theorem aFS (m:Nat) (b:Bool) (d:Dt):Som (gZ (m+3) b d):=by
 rw[gZ,ai5]
 repeat' (first|exact au _|exact aFR m _ d|refine aj (fun _=>?_) (fun _=>?_))
theorem aFT (m:Nat) (d:Dt):Som (zQ (m+4) d):=by
 rw[zQ]
 repeat' (first|exact aFS m _ d|refine aj (fun _=>?_) (fun _=>?_)|refine ay (aBk (m+2) _) (fun _ _=>?_)|refine ay (aBn (m+1) _) (fun _ _=>?_)|refine ay (aBj (m+2) _) (fun _ _=>?_)|refine ay (aBm (m+2) _) (fun _ _=>?_))
theorem aBo (m:Nat) (n:Int):Som (vI (m+1) n):=by
 rw[vI]
 repeat' (first|exact au _|refine aj (fun _=>?_) (fun _=>?_))
theorem aFU (m:Nat) (d:Dt):Som (vL (m+2) d):=by
 rw[vL]
 repeat' (first|exact au _|refine aj (fun _=>?_) (fun _=>?_)|refine ay (aBo m _) (fun _ _=>?_))
theorem aqK (m:Nat) (b:Bool):Som (bF m b):=by
 rw[bF,ai2]
 repeat' (first|exact au _|refine aj (fun _=>?_) (fun _=>?_))
theorem aqL (m:Nat) (n:Int) (d:Dt):Som (VH (m+1) n d):=by
 rw[VH]
 repeat' (first|exact aqK _ _|refine aj (fun _=>?_) (fun _=>?_)|refine ay (aBo m _) (fun _ _=>?_))
theorem Ud (m:Nat) (d:Dt) (hl:(Dt.L d 1).length≤1000000000):∀(M i:Nat),i≤(Dt.L d 1).length→(Dt.L d 1).length-i<M→Som (GL (m+2) M ((Dt.L d 1).length:Int) (i:Int) d)
 |0,i,_,h=>by omega
 |M+1,i,hi,h=>by
  rw[GL,dlt]
  refine aj (fun hc=>?_) (fun _=>aqL (m+1) _ d)
  have hlt:i<(Dt.L d 1).length:=of_decide_eq_true hc
  rw[ai1,aA hlt,Option.bind_some]
  refine ay (aFU m _) (fun _ _=>aj (fun _=>au _) (fun _=>?_))
  rw[ai0,aF (show i<9223372036854775807 by omega)]
  exact Ud m d hl M (i+1) (by omega) (by omega)
theorem aFV (m:Nat) (d:Dt) (hl:(Dt.L d 1).length≤1000000000) (hm:(Dt.L d 1).length≤m):Som (zB (m+3) d):=by
 rw[zB]
 refine aj (fun _=>au _) (fun _=>?_)
 exact Ud m d hl (m+3) 0 (Nat.zero_le _) (by omega)
theorem aBp (m:Nat) (n:Int) (l:List Dt) (hl:l.length≤1000000000):∀(M i:Nat),i≤l.length→l.length-i<M→Som (F5 m M n l (i:Int))
 |0,i,_,h=>by omega
 |M+1,i,hi,h=>by
  rw[F5,dlt]
  refine aj (fun hc=>?_) (fun _=>au _)
  have hlt:i<l.length:=of_decide_eq_true hc
  rw[aio,aA hlt,Option.bind_some]
  refine aj (fun _=>au _) (fun _=>?_)
  rw[ain,aF (show i<9223372036854775807 by omega)]
  exact aBp m n l hl M (i+1) (by omega) (by omega)
theorem aBq (m:Nat) (n:Int) (l:List Dt) (hl:l.length≤m) (hm:l.length≤1000000000):Som (zS (m+1) n l):=
 aBp m n l hm (m+1) 0 (Nat.zero_le _) (by omega)
theorem Kc (m:Nat) (a b:List Dt) (ha:a.length≤1000000000) (hab:a.length≤b.length):∀(M i:Nat),i≤a.length→a.length-i<M→Som (uM m M a b (i:Int))
 |0,i,_,h=>by omega
 |M+1,i,hi,h=>by
  rw[uM,dlt]
  refine aj (fun hc=>?_) (fun _=>au _)
  have hlt:i<a.length:=of_decide_eq_true hc
  rw[FP,aA hlt,Option.bind_some,aA (show i<b.length by omega),Option.bind_some]
  refine aj (fun _=>au _) (fun _=>?_)
  rw[FN,aF (show i<9223372036854775807 by omega)]
  exact Kc m a b ha hab M (i+1) (by omega) (by omega)
theorem wD (m:Nat) (a b:List Dt) (ha:a.length≤1000000000) (hm:a.length≤m):Som (zL (m+1) a b):=by
 rw[zL]
 refine aj (fun _=>au _) (fun hc=>?_)
 have hab:=of_decide_eq_false hc
 exact Kc m a b ha (by omega) (m+1) 0 (Nat.zero_le _) (by omega)
theorem Xp (m:Nat) (a b:List Dt) (ha:a.length≤1000000000) (hb:b.length≤1000000000) (ha2:a.length≤m) (hb2:b.length≤m):Som (y7 (m+2) a b):=by
 rw[y7]
 exact ay (wD m a b ha ha2) fun _ _=>aj (fun _=>au _) fun _=>ay (wD m b a hb hb2) fun _ _=>au _
theorem Em (m:Nat) (self:Dt→Int→Int→Option Int) (d:Dt) (x0:Int) (hl:(Dt.L d 8).length≤1000000000) (hs:∀e∈Dt.L d 8,∀a b,Som (self e a b)):∀(M i:Nat) (x1:Int),i≤(Dt.L d 8).length→(Dt.L d 8).length-i<M→Som (Gu m self M x0 x1 (i:Int) d)
 |0,i,_,_,h=>by omega
 |M+1,i,x1,hi,h=>by
  rw[Gu,dlt]
  refine aj (fun hc=>aj (fun _=>?_) (fun _=>au _)) (fun _=>au _)
  have hlt:i<(Dt.L d 8).length:=of_decide_eq_true hc
  rw[aiv,aA hlt,Option.bind_some]
  refine ay (hs _ (List.getElem_mem hlt) _ _) (fun _ _=>?_)
  rw[aiu,aF (show i<9223372036854775807 by omega)]
  exact Em m self d x0 hl hs M (i+1) _ (by omega) (by omega)
theorem En:∀(N:Nat) (d:Dt),d.bulk≤N→N≤10000000→∀m,2*N≤m→∀a b,Som (zT (m+1) d a b)
 |0,d,h,_,_,_,_,_=>by have:=aR d;omega
 |N+1,d,h,hN,m,hm,a,b=>by
  have l8:=aD d 8
  obtain⟨q,rfl⟩:∃q,m=q+1:=⟨m-1,by omega⟩
  have j0:∀x,Som (NJ (q+1) (zT (q+1)) a b x d):=fun x=>by
   rw[NJ]
   refine aj (fun _=>au _) (fun _=>?_)
   exact Em (q+1) (zT (q+1)) d a (by omega) (fun e he x y=>En N e (by have:=aL he;omega) (by omega) q (by omega) x y) (q+2) 0 _ (Nat.zero_le _) (by omega)
  rw[zT]
  exact aj (fun _=>j0 _) (fun _=>j0 _)
end Go.Proofs.YtjnkagkoolbodaaGreatDoor
namespace Go.Proofs.YtjnkagkoolbodaaGreatDoor
open Go.Am
theorem pY (d:Dt) (i:Nat):Dt.bulkL (Dt.L d i)<d.bulk:=by
 have h:=aB d i
 have hp:=aR d
 show Dt.bulkL (Dt.fld d i).toLst<_
 cases hd:Dt.fld d i with
 |lst es=>rw[hd] at h;simp only[Dt.bulk] at h;simp only[Dt.toLst];omega
 |_=>simp[Dt.toLst,Dt.bulkL];omega
def nst (d:Dt):List Dt:=(bif Dt.I d 0==10||Dt.I d 0==15 then[.lst (Dt.L (Dt.fld d 12) 4)] else[])++(bif Dt.I d 0==11 then(Dt.L d 13).map (fun f=> .lst (Dt.L f 1)) else[])
theorem aqM {d e:Dt} (h:e∈nst d):Dt.bulkL e.toLst<d.bulk:=by
 unfold nst at h
 rcases List.mem_append.1 h with h|h
 ·cases hb:(Dt.I d 0==10||Dt.I d 0==15) with
  |false=>rw[hb] at h;cases h
  |true=>
   rw[hb,cond_true] at h
   rw[List.mem_singleton.1 h]
   have:=pY (Dt.fld d 12) 4
   have:=aB d 12
   show Dt.bulkL (Dt.L (Dt.fld d 12) 4)<_
   omega
 ·cases hb:(Dt.I d 0==11) with
  |false=>rw[hb] at h;cases h
  |true=>
   rw[hb,cond_true] at h
   obtain⟨f,hf,rfl⟩:=List.mem_map.1 h
   have:=pY f 1
   have:=aL hf
   show Dt.bulkL (Dt.L f 1)<_
   omega
theorem aqN (d:Dt):(nst d).length≤d.bulk:=by
 have:=aD d 13
 unfold nst
 cases (Dt.I d 0==10||Dt.I d 0==15)<;>cases (Dt.I d 0==11)<;>simp<;>omega
theorem Ke (m:Nat) (d:Dt) (hl:(Dt.L d 13).length≤1000000000):∀(M i:Nat) (acc:List Dt),i≤(Dt.L d 13).length→(Dt.L d 13).length-i<M→acc.length≤i+1→FB m M (i:Int) d acc=some (acc++((Dt.L d 13).drop i).map (fun f=> .lst (Dt.L f 1)))
 |0,i,_,_,h,_=>by omega
 |M+1,i,acc,hi,h,ha=>by
  simp only[FB,dlt]
  by_cases hlt:i<(Dt.L d 13).length
  ·rw[decide_eq_true hlt,cond_true,aif,aA hlt,Option.bind_some,jB (show acc.length+([Dt.lst (Dt.L (Dt.L d 13)[i] 1)]:List Dt).length≤137438953472 by simp;omega),Option.bind_some,aie,aF (show i<9223372036854775807 by omega),Ke m d hl M (i+1) _ (by omega) (by omega) (by simp;omega),List.drop_eq_getElem_cons hlt,List.map_cons,List.append_assoc]
   rfl
  ·have e:i=(Dt.L d 13).length:=by omega
   subst e
   rw[decide_eq_false (Nat.lt_irrefl _),cond_false,List.drop_length,List.map_nil,List.append_nil]
   rfl
theorem Xq (m:Nat) (d:Dt) (hl:(Dt.L d 13).length≤1000000000) (hm:(Dt.L d 13).length≤m):zU (m+1) d=some (nst d):=by
 have j1:∀acc:List Dt,acc.length≤1→MP m d acc=some (acc++bif Dt.I d 0==11 then(Dt.L d 13).map (fun f=> .lst (Dt.L f 1)) else[]):=fun acc ha=>by
  rw[MP]
  cases (Dt.I d 0==11)
  ·rw[cond_false,cond_false,List.append_nil];rfl
  ·rw[cond_true,cond_true]
   exact Ke m d hl (m+1) 0 acc (Nat.zero_le _) (by omega) (by omega)
 have j0:∀b,MQ m b d []=some ((bif b then[.lst (Dt.L (Dt.fld d 12) 4)] else[])++bif Dt.I d 0==11 then(Dt.L d 13).map (fun f=> .lst (Dt.L f 1)) else[]):=fun b=>by
  rw[MQ]
  cases b
  ·rw[cond_false,cond_false];exact j1 [] (by simp)
  ·rw[cond_true,cond_true,jB (show ([]:List Dt).length+([Dt.lst (Dt.L (Dt.fld d 12) 4)]:List Dt).length≤137438953472 by simp),Option.bind_some,List.nil_append]
   exact j1 _ (by simp)
 rw[zU]
 unfold nst
 cases hb:(Dt.I d 0==10)
 ·rw[cond_false,Bool.false_or];exact j0 _
 ·rw[cond_true,Bool.true_or];exact j0 _
theorem wE (m:Nat) (self:List Dt→Int→Option Int) (rec3:List Dt→Int→Int→Int→Option Int) (x0:List Dt) (x1:Int) (i:Nat) (hi:i<1000000000) (L:List Dt) (hl:L.length≤1000000000) (hs:∀e∈L,∀a,Som (self e.toLst a)) (hr:∀n,Som (rec3 x0 x1 n ((i+1:Nat):Int))):∀(M j:Nat) (n:Int),j≤L.length→L.length-j<M→Som (FC m self rec3 M x0 x1 n (i:Int) L (j:Int))
 |0,j,_,_,h=>by omega
 |M+1,j,n,hj,h=>by
  have hend:∀n,Som (MR m self rec3 x0 x1 n (i:Int)):=fun n=>by
   rw[MR,aF (show i<9223372036854775807 by omega)]
   exact hr n
  rw[FC,dlt]
  refine aj (fun hc=>aj (fun _=>?_) (fun _=>hend n)) (fun _=>hend n)
  have hlt:j<L.length:=of_decide_eq_true hc
  rw[aik,aA hlt,Option.bind_some]
  refine ay (hs _ (List.getElem_mem hlt) _) (fun _ _=>?_)
  rw[aij,aF (show j<9223372036854775807 by omega)]
  exact wE m self rec3 x0 x1 i hi L hl hs hr M (j+1) _ (by omega) (by omega)
theorem Eo (m:Nat) (self:List Dt→Int→Option Int) (l:List Dt) (B:Nat) (hB:B≤10000000) (hm:B+10≤m) (hb:Dt.bulkL l≤B) (hs:∀e:Dt,Dt.bulkL e.toLst<B→∀a,Som (self e.toLst a)) (x1:Int):∀(M i:Nat) (n:Int),i≤l.length→l.length-i<M→Som (FD m self M l x1 n (i:Int))
 |0,i,_,_,h=>by omega
 |M+1,i,n,hi,h=>by
  have hl:=bf l
  rw[FD,dlt]
  refine aj (fun hc=>aj (fun _=>?_) (fun _=>au _)) (fun _=>au _)
  have hlt:i<l.length:=of_decide_eq_true hc
  have hbi:=bM (List.getElem_mem hlt)
  have h13:=aD l[i] 13
  have hn:zU m l[i]=some (nst l[i]):=by
   obtain⟨q,rfl⟩:∃q,m=q+1:=⟨m-1,by omega⟩
   exact Xq q l[i] (by omega) (by omega)
  rw[ail,aA hlt,Option.bind_some,hn,Option.bind_some]
  have hnl:=aqN l[i]
  exact wE m self _ l x1 i (by omega) (nst l[i]) (by omega) (fun e he a=>hs e (by have:=aqM he;omega) a) (fun n=>Eo m self l B hB hm hb hs x1 M (i+1) n (by omega) (by omega)) (m+1) 0 n (Nat.zero_le _) (by omega)
theorem Ep:∀(N:Nat) (l:List Dt),Dt.bulkL l≤N→N≤5000000→∀m,2*N+20≤m→∀a,Som (qW (m+1) l a)
 |N,l,h,hN,m,hm,a=>by
  have hl:=bf l
  obtain⟨q,rfl⟩:∃q,m=q+1:=⟨m-1,by omega⟩
  have j0:∀x,Som (FH (q+1) (qW (q+1)) l a x):=fun x=>by
   rw[FH]
   refine aj (fun _=>au _) (fun _=>?_)
   refine Eo (q+1) (qW (q+1)) l N (by omega) (by omega) h (fun e he b=>?_) a (q+2) 0 _ (Nat.zero_le _) (by omega)
   cases N with
   |zero=>omega
   |succ N=>exact Ep N e.toLst (by omega) (by omega) q (by omega) b
  rw[qW]
  exact aj (fun _=>aj (fun _=>j0 _) (fun _=>j0 _)) (fun _=>j0 _)
def kr (d:Dt):List Dt:=Dt.L d 1++(Dt.L d 3).map (fun s=> .lst (Dt.L s 0))++(Dt.L d 4).map (fun c=> .lst (Dt.L c 0))
theorem Kg (m:Nat) (d:Dt) (hl:(Dt.L d 4).length≤1000000000):∀(M i:Nat) (acc:List Dt),i≤(Dt.L d 4).length→(Dt.L d 4).length-i<M→acc.length≤10000000000+i→Gv m M (i:Int) d acc=some (acc++((Dt.L d 4).drop i).map (fun f=> .lst (Dt.L f 0)))
 |0,i,_,_,h,_=>by omega
 |M+1,i,acc,hi,h,ha=>by
  simp only[Gv,dlt]
  by_cases hlt:i<(Dt.L d 4).length
  ·rw[decide_eq_true hlt,cond_true,aiA,aA hlt,Option.bind_some,jB (show acc.length+([Dt.lst (Dt.L (Dt.L d 4)[i] 0)]:List Dt).length≤137438953472 by simp;omega),Option.bind_some,aiz,aF (show i<9223372036854775807 by omega),Kg m d hl M (i+1) _ (by omega) (by omega) (by simp;omega),List.drop_eq_getElem_cons hlt,List.map_cons,List.append_assoc]
   rfl
  ·have e:i=(Dt.L d 4).length:=by omega
   subst e
   rw[decide_eq_false (Nat.lt_irrefl _),cond_false,List.drop_length,List.map_nil,List.append_nil]
   rfl
theorem Kh (m:Nat) (d:Dt) (hl:(Dt.L d 3).length≤1000000000) (hl4:(Dt.L d 4).length≤1000000000) (hm:(Dt.L d 4).length≤m):∀(M i:Nat) (acc:List Dt),i≤(Dt.L d 3).length→(Dt.L d 3).length-i<M→acc.length≤1000000000+i→Gw m M (i:Int) d acc=some (acc++((Dt.L d 3).drop i).map (fun f=> .lst (Dt.L f 0))++(Dt.L d 4).map (fun f=> .lst (Dt.L f 0)))
 |0,i,_,_,h,_=>by omega
 |M+1,i,acc,hi,h,ha=>by
  simp only[Gw,dlt]
  by_cases hlt:i<(Dt.L d 3).length
  ·rw[decide_eq_true hlt,cond_true,aiy,aA hlt,Option.bind_some,jB (show acc.length+([Dt.lst (Dt.L (Dt.L d 3)[i] 0)]:List Dt).length≤137438953472 by simp;omega),Option.bind_some,aix,aF (show i<9223372036854775807 by omega),Kh m d hl hl4 hm M (i+1) _ (by omega) (by omega) (by simp;omega),List.drop_eq_getElem_cons hlt,List.map_cons]
   simp
  ·have e:i=(Dt.L d 3).length:=by omega
   subst e
   rw[decide_eq_false (Nat.lt_irrefl _),cond_false,List.drop_length,List.map_nil,List.append_nil]
   exact Kg m d hl4 (m+1) 0 acc (Nat.zero_le _) (by omega) (by omega)
theorem aaN (m:Nat) (d:Dt) (hb:d.bulk≤10000000) (hm:d.bulk≤m):zP (m+1) d=some (kr d):=by
 have l1:=aD d 1
 have l3:=aD d 3
 have l4:=aD d 4
 rw[zP,jB (show ([]:List Dt).length+(Dt.L d 1).length≤137438953472 by simp;omega),Option.bind_some,List.nil_append]
 exact Kh m d (by omega) (by omega) (by omega) (m+1) 0 _ (Nat.zero_le _) (by omega) (by omega)
theorem Ki (d:Dt):(kr d).length=(Dt.L d 1).length+(Dt.L d 3).length+(Dt.L d 4).length:=by simp[kr];omega
theorem Qo {d e:Dt} (hb:d.bulk≤10000000) (h:e∈kr d):e.toLst.length≤10000000:=by
 unfold kr at h
 rcases List.mem_append.1 h with h|h
 ·rcases List.mem_append.1 h with h|h
  ·have:=aL h;have:=jd e;omega
  ·obtain⟨s,hs,rfl⟩:=List.mem_map.1 h
   have:=aL hs;have:=aD s 0
   show (Dt.L s 0).length≤_;omega
 ·obtain⟨s,hs,rfl⟩:=List.mem_map.1 h
  have:=aL hs;have:=aD s 0
  show (Dt.L s 0).length≤_;omega
end Go.Proofs.YtjnkagkoolbodaaGreatDoor
namespace Go.Proofs.YtjnkagkoolbodaaGreatDoor
open Go.Am
def atH:Dt:= .agg [.int 0,.int 0,.str (ByteArray.mk (List.toArray [])),.lst [],.lst []]
def aqO:Dt:= .agg [.int 0,.lst [],.int 0]
def Xr:Dt:= .agg [.int 0,.lst [],.str (ByteArray.mk (List.toArray [])),.lst [],atH,.int 0,.lst []]
def Qp:Dt:= .agg [.int 0,.lst [],atH,.lst [],.int 0,.int 0,aqO,Xr,.lst []]
def aaO:Dt:= .agg [.bool false,.lst [],.bool false,.lst [],.lst []]
theorem gP {a b:List Dt} (h:(((a.length:Nat):Int) !=((b.length:Nat):Int))=false):a.length=b.length:=by
 have:((a.length:Nat):Int)=((b.length:Nat):Int):=by simpa using h
 omega
theorem lt0 {a:List Dt} (h:a.length=0):decide ((0:Int)<((a.length:Nat):Int))=false:=decide_eq_false (by omega)
theorem aaP (m:Nat) (d:Dt):Som (qH (m+1) d aqO):=by
 have h1:∀b:Bool,(b=false→(Dt.L d 1).length=0)→Som (nM m b d aqO):=fun b hb=>by
  rw[nM]
  refine aj (fun _=>au _) (fun h=>?_)
  simp only[FI,FJ,FK,FL,FM,nM]
  rw[AQ,lt0 (hb h),cond_false]
  exact au _
 rw[qH]
 exact aj (fun _=>h1 _ (fun h=>by cases h)) (fun _=>aj (fun _=>h1 _ (fun h=>by cases h)) (fun _=>h1 _ (fun h=>gP h)))
theorem aaQ (m:Nat) (a b:Dt) (h3:(Dt.L b 3).length=0) (h4:(Dt.L b 4).length=0):Som (qA (m+1) a b):=by
 have j0t:Som (dH m (qA m) true a b):=au _
 rw[qA]
 refine aj (fun _=>j0t) (fun _=>aj (fun _=>j0t) (fun _=>aj (fun _=>j0t) (fun _=>aj (fun _=>j0t) (fun h=>?_))))
 have e3:(Dt.L a 3).length=0:=(gP h).trans h3
 rw[dH]
 refine aj (fun _=>au _) (fun h'=>?_)
 have e4:(Dt.L a 4).length=0:=(gP h').trans h4
 simp only[jH,jI,fG,eP,jJ,fH,jK,jL,jM,jN,dH]
 rw[uN,lt0 e3,cond_false]
 simp only[jH,jI,fG,eP,jJ,fH,jK,jL,jM,jN,dH]
 rw[qx,lt0 e4,cond_false]
 exact au _
theorem aBr (m:Nat) (l:List Dt):Som (y0 (m+2) l []):=by
 rw[y0]
 exact ay (aaQ m _ _ rfl rfl) fun _ _=>au _
theorem aaR (m:Nat) (l:List Dt):Som (yE (m+2) l []):=by
 rw[yE]
 refine aj (fun h=>?_) (fun _=>au _)
 have e:l.length=0:=by
  have:((l.length:Nat):Int)=0:=by simpa using h
  omega
 exact ay (wD m l [] (by omega) (by omega)) fun _ _=>au _
theorem ayp (m:Nat) (l:List Dt):Som (zA (m+1) l []):=by
 rw[zA]
 refine aj (fun _=>au _) (fun h=>?_)
 have e:l.length=0:=gP h
 simp only[FU,FV,FW,FY,FZ]
 rw[AR,lt0 e,cond_false]
 exact au _
theorem aBs (m:Nat) (d:Dt):Som (qC (m+4) d Xr):=by
 have h1:∀b:Bool,(b=false→(Dt.L d 6).length=0)→Som (dR (m+3) (qC (m+3)) b d Xr):=fun b hb=>by
  rw[dR]
  refine aj (fun _=>au _) (fun h=>?_)
  simp only[F8,F9,Ga,Bn,Bo,dR]
  rw[uO,lt0 (hb h),cond_false]
  exact au _
 have ht:=h1 true (fun h=>by cases h)
 have p1:Som (yE (m+3) (Dt.L d 1) (Dt.L Xr 1)):=aaR (m+1) _
 have p3:Som (yE (m+3) (Dt.L d 3) (Dt.L Xr 3)):=aaR (m+1) _
 have p4:Som (qA (m+3) (Dt.fld d 4) (Dt.fld Xr 4)):=aaQ (m+2) _ _ rfl rfl
 rw[qC]
 exact aj (fun _=>ht) (fun _=>ay p1 fun _ _=>aj (fun _=>ht) fun _=>aj (fun _=>ht) fun _=>ay p3 fun _ _=>aj (fun _=>ht) fun _=>ay p4 fun _ _=>aj (fun _=>ht) fun _=>aj (fun _=>ht) fun _=>h1 _ fun h=>gP h)
theorem aBt (m:Nat) (d:Dt):Som (qU (m+5) d Qp):=by
 have p1:Som (yE (m+4) (Dt.L d 1) (Dt.L Qp 1)):=aaR (m+2) _
 have p2:Som (qA (m+4) (Dt.fld d 2) (Dt.fld Qp 2)):=aaQ (m+3) _ _ rfl rfl
 have p3:Som (y0 (m+4) (Dt.L d 3) (Dt.L Qp 3)):=aBr (m+2) _
 have p6:Som (qH (m+4) (Dt.fld d 6) (Dt.fld Qp 6)):=aaP (m+3) _
 have p7:Som (qC (m+4) (Dt.fld d 7) (Dt.fld Qp 7)):=aBs m _
 rw[qU]
 refine aj (fun _=>au _) (fun _=>ay p1 fun _ _=>aj (fun _=>au _) fun _=>ay p2 fun _ _=>aj (fun _=>au _) fun _=>ay p3 fun _ _=>aj (fun _=>au _) fun _=>aj (fun _=>au _) fun _=>aj (fun _=>au _) fun _=>ay p6 fun _ _=>aj (fun _=>au _) fun _=>ay p7 fun _ _=>aj (fun _=>au _) fun _=>aj (fun _=>au _) fun h=>?_)
 have e:(Dt.L d 8).length=0:=gP h
 simp only[Gf,Gg,Gh,Gi,Gj]
 rw[Bq,lt0 e,cond_false]
 exact au _
theorem aBu (m:Nat) (d:Dt):Som (qB (m+4) d aaO):=by
 have hc:Som (qI (m+3) (Dt.L d 4) (Dt.L aaO 4)):=by
  rw[qI]
  refine aj (fun _=>au _) (fun h=>?_)
  have e:(Dt.L d 4).length=0:=gP h
  simp only[Gl,Br,Gm,Gn,Gp,Gq]
  rw[Bt,lt0 e,cond_false]
  exact au _
 have h1:∀b:Bool,(b=false→(Dt.L d 3).length=0)→Som (jO (m+3) b d aaO):=fun b hb=>by
  rw[jO]
  refine aj (fun _=>au _) (fun h=>?_)
  simp only[Bu,qz,Bv,Bw,BD,BF,jO]
  rw[Bz,lt0 (hb h),cond_false]
  simp only[Bu,qz,Bv,Bw,BD,BF,jO]
  exact ay hc fun _ _=>au _
 have ht:=h1 true (fun h=>by cases h)
 have p1:Som (zA (m+3) (Dt.L d 1) (Dt.L aaO 1)):=ayp (m+2) _
 rw[qB]
 exact aj (fun _=>ht) (fun _=>aj (fun _=>ht) fun _=>ay p1 fun _ _=>aj (fun _=>ht) fun _=>h1 _ fun h=>gP h)
end Go.Proofs.YtjnkagkoolbodaaGreatDoor
