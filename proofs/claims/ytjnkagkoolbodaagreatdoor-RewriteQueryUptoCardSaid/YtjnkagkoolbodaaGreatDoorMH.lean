/- Ends: a function hands something back.
Validity of parts of stages:these functions end.
Nested pipelines and their count;the paths of a projection.
Comparing with nothing:these functions end. -/
import Derived.Test.YtjnkagkoolbodaaGreatDoorMA
import Derived.Test.YtjnkagkoolbodaaGreatDoorMC
import Derived.Test.YtjnkagkoolbodaaGreatDoorMG
set_option linter.unusedVariables false
set_option linter.unusedSimpArgs false
namespace Go.Proofs.YtjnkagkoolbodaaGreatDoor
open Go.Am
def Som {A:Type} (o:Option A):Prop:=∃r,o=some r
theorem ak {A:Type} (r:A):Som (some r):=⟨r,rfl⟩
theorem Ab {A:Type} {o:Option A} {r:A} (h:o=some r):Som o:=⟨r,h⟩
theorem au {A B:Type} {o:Option A} {k:A→Option B} (h:Som o) (hk:∀r,o=some r→Som (k r)):Som (o.bind k):=by
 obtain⟨r,e⟩:=h
 rw[e,Option.bind_some]
 exact hk r e
theorem aj {A:Type} {b:Bool} {x y:Option A} (hx:b=true→Som x) (hy:b=false→Som y):Som (bif b then x else y):=by
 cases b
 ·exact hy rfl
 ·exact hx rfl
end Go.Proofs.YtjnkagkoolbodaaGreatDoor
namespace Go.Proofs.YtjnkagkoolbodaaGreatDoor
open Go.Am
theorem QC (m:Nat) (n:Int):Som (bX (m+1) n):=by
 rw[bX]
 repeat' (first|exact ak _|refine aj (fun _=>?_) (fun _=>?_))
theorem SF (m:Nat) (n:Int):Som (iY (m+1) n):=by
 rw[iY]
 repeat' (first|exact ak _|refine aj (fun _=>?_) (fun _=>?_))
theorem QD (m:Nat) (n:Int):Som (fZ (m+1) n):=by
 rw[fZ]
 repeat' (first|exact ak _|refine aj (fun _=>?_) (fun _=>?_))
theorem QE (m:Nat) (d:Dt):Som (gq (m+1) d):=by
 rw[gq]
 repeat' (first|exact ak _|refine aj (fun _=>?_) (fun _=>?_))
theorem ajB (m:Nat) (d:Dt):Som (jd (m+1) d):=by
 rw[jd]
 repeat' (first|exact ak _|refine aj (fun _=>?_) (fun _=>?_))
theorem Y6 (m:Nat) (d:Dt):Som (bL (m+1) d):=by
 rw[bL]
 repeat' (first|exact ak _|refine aj (fun _=>?_) (fun _=>?_))
theorem acy (m:Nat) (d:Dt):Som (fA (m+1) d):=by
 rw[fA]
 repeat' (first|exact ak _|refine aj (fun _=>?_) (fun _=>?_))
theorem arf (m:Nat) (d:Dt):Som (vo (m+1) d):=by
 simp only[vo,K4,xI,DK,DL,Ak]
 repeat' (first|exact ak _|refine aj (fun _=>?_) (fun _=>?_))
theorem ajC (m:Nat) (d:Dt):Som (iZ (m+1) d):=by
 simp only[iZ,Al,Cz]
 repeat' (first|exact ak _|refine aj (fun _=>?_) (fun _=>?_))
theorem SG (m:Nat) (n:Int):Som (gP (m+2) n):=by
 rw[gP]
 repeat' (first|exact ak _|refine aj (fun _=>?_) (fun _=>?_)|refine au (QD m n) (fun _ _=>?_))
theorem ald (m:Nat) (d:Dt):Som (je (m+2) d):=by
 rw[je]
 repeat' (first|exact ak _|refine aj (fun _=>?_) (fun _=>?_)|refine au (QE m _) (fun _ _=>?_))
theorem ale (m:Nat) (d:Dt):Som (jX (m+3) d):=by
 rw[jX]
 repeat' (first|exact ak _|refine aj (fun _=>?_) (fun _=>?_)|refine au (ald (m+1) _) (fun _ _=>?_)|refine au (ajB (m+2) _) (fun _ _=>?_))
theorem alf (m:Nat) (b:Bool) (d:Dt):Som (tu (m+3) b d):=by
 rw[tu]
 exact aj (fun _=>ak _) (fun _=>ale m d)
theorem alg (m:Nat) (b:Bool) (d:Dt):Som (tF (m+3) b d):=by
 rw[tF,tC,wG]
 repeat' (first|exact ak _|exact alf m _ d|refine aj (fun _=>?_) (fun _=>?_))
theorem alh (m:Nat) (d:Dt):Som (l5 (m+4) d):=by
 rw[l5,DR]
 repeat' (first|exact alg m _ d|refine aj (fun _=>?_) (fun _=>?_)|refine au (SF (m+2) _) (fun _ _=>?_)|refine au (SG (m+1) _) (fun _ _=>?_)|refine au (QC (m+2) _) (fun _ _=>?_)|refine au (QE (m+2) _) (fun _ _=>?_))
theorem ali (m:Nat) (n:Int):Som (qx (m+1) n):=by
 rw[qx]
 repeat' (first|exact ak _|refine aj (fun _=>?_) (fun _=>?_))
theorem awv (m:Nat) (d:Dt):Som (xW (m+2) d):=by
 rw[xW]
 repeat' (first|exact ak _|refine aj (fun _=>?_) (fun _=>?_)|refine au (ali m _) (fun _ _=>?_))
theorem aMr (m:Nat) (b:Bool):Som (vO m b):=by
 rw[vO,AX]
 repeat' (first|exact ak _|refine aj (fun _=>?_) (fun _=>?_))
theorem aMs (m:Nat) (n:Int) (d:Dt):Som (qy (m+1) n d):=by
 rw[qy,yH]
 repeat' (first|exact aMr _ _|refine aj (fun _=>?_) (fun _=>?_)|refine au (ali m _) (fun _ _=>?_))
theorem azf (m:Nat) (d:Dt) (hl:(Dt.L d 1).length≤1000000000):∀(M i:Nat),i≤(Dt.L d 1).length→(Dt.L d 1).length-i<M→Som (jm (m+2) M ((Dt.L d 1).length:Int) (i:Int) d)
 |0,i,_,h=>by omega
 |M+1,i,hi,h=>by
  rw[jm,dlt]
  refine aj (fun hc=>?_) (fun _=>aMs (m+1) _ d)
  have hlt:i<(Dt.L d 1).length:=of_decide_eq_true hc
  rw[vN,ay hlt,Option.bind_some]
  refine au (awv m _) (fun _ _=>aj (fun _=>ak _) (fun _=>?_))
  rw[vM,aT (show i<9223372036854775807 by omega)]
  exact azf m d hl M (i+1) (by omega) (by omega)
theorem aoT (m:Nat) (d:Dt) (hl:(Dt.L d 1).length≤1000000000) (hm:(Dt.L d 1).length≤m):Som (iG (m+3) d):=by
 rw[iG]
 refine aj (fun _=>ak _) (fun _=>?_)
 exact azf m d hl (m+3) 0 (Nat.zero_le _) (by omega)
theorem acz (m:Nat) (n:Int) (l:List Dt) (hl:l.length≤1000000000):∀(M i:Nat),i≤l.length→l.length-i<M→Som (uj m M n l (i:Int))
 |0,i,_,h=>by omega
 |M+1,i,hi,h=>by
  rw[uj,dlt]
  refine aj (fun hc=>?_) (fun _=>ak _)
  have hlt:i<l.length:=of_decide_eq_true hc
  rw[Mc,ay hlt,Option.bind_some]
  refine aj (fun _=>ak _) (fun _=>?_)
  rw[Ma,aT (show i<9223372036854775807 by omega)]
  exact acz m n l hl M (i+1) (by omega) (by omega)
theorem acA (m:Nat) (n:Int) (l:List Dt) (hl:l.length≤m) (hm:l.length≤1000000000):Som (bY (m+1) n l):=
 acz m n l hm (m+1) 0 (Nat.zero_le _) (by omega)
theorem atu (m:Nat) (a b:List Dt) (ha:a.length≤1000000000) (hab:a.length≤b.length):∀(M i:Nat),i≤a.length→a.length-i<M→Som (iE m M a b (i:Int))
 |0,i,_,h=>by omega
 |M+1,i,hi,h=>by
  rw[iE,dlt]
  refine aj (fun hc=>?_) (fun _=>ak _)
  have hlt:i<a.length:=of_decide_eq_true hc
  rw[nZ,mI,ay hlt,Option.bind_some,ay (show i<b.length by omega),Option.bind_some]
  refine aj (fun _=>ak _) (fun _=>?_)
  rw[nY,aT (show i<9223372036854775807 by omega)]
  exact atu m a b ha hab M (i+1) (by omega) (by omega)
theorem alj (m:Nat) (a b:List Dt) (ha:a.length≤1000000000) (hm:a.length≤m):Som (jc (m+1) a b):=by
 rw[jc]
 refine aj (fun _=>ak _) (fun hc=>?_)
 have hab:=of_decide_eq_false hc
 exact atu m a b ha (by omega) (m+1) 0 (Nat.zero_le _) (by omega)
theorem aBs (m:Nat) (a b:List Dt) (ha:a.length≤1000000000) (hb:b.length≤1000000000) (ha2:a.length≤m) (hb2:b.length≤m):Som (gM (m+2) a b):=by
 rw[gM]
 exact au (alj m a b ha ha2) fun _ _=>aj (fun _=>ak _) fun _=>au (alj m b a hb hb2) fun _ _=>ak _
theorem aqa (m:Nat) (self:Dt→Int→Int→Option Int) (d:Dt) (x0:Int) (hl:(Dt.L d 8).length≤1000000000) (hs:∀e∈Dt.L d 8,∀a b,Som (self e a b)):∀(M i:Nat) (x1:Int),i≤(Dt.L d 8).length→(Dt.L d 8).length-i<M→Som (gN m self M x0 x1 (i:Int) d)
 |0,i,_,_,h=>by omega
 |M+1,i,x1,hi,h=>by
  rw[gN,dlt]
  refine aj (fun hc=>aj (fun _=>?_) (fun _=>ak _)) (fun _=>ak _)
  have hlt:i<(Dt.L d 8).length:=of_decide_eq_true hc
  rw[Aj,ay hlt,Option.bind_some]
  refine au (hs _ (List.getElem_mem hlt) _ _) (fun _ _=>?_)
  rw[vk,aT (show i<9223372036854775807 by omega)]
  exact aqa m self d x0 hl hs M (i+1) _ (by omega) (by omega)
theorem aqb:∀(N:Nat) (d:Dt),d.bulk≤N→N≤10000000→∀m,2*N≤m→∀a b,Som (bF (m+1) d a b)
 |0,d,h,_,_,_,_,_=>by have:=bQ d;omega
 |N+1,d,h,hN,m,hm,a,b=>by
  have l8:=aO d 8
  obtain⟨q,rfl⟩:∃q,m=q+1:=⟨m-1,by omega⟩
  have j0:∀x,Som (ql (q+1) (bF (q+1)) a b x d):=fun x=>by
   rw[ql]
   refine aj (fun _=>ak _) (fun _=>?_)
   exact aqa (q+1) (bF (q+1)) d a (by omega) (fun e he x y=>aqb N e (by have:=bA he;omega) (by omega) q (by omega) x y) (q+2) 0 _ (Nat.zero_le _) (by omega)
  rw[bF]
  exact aj (fun _=>j0 _) (fun _=>j0 _)
end Go.Proofs.YtjnkagkoolbodaaGreatDoor
namespace Go.Proofs.YtjnkagkoolbodaaGreatDoor
open Go.Am
theorem acB (d:Dt) (i:Nat):Dt.bulkL (Dt.L d i)<d.bulk:=by
 have h:=aA d i
 have hp:=bQ d
 show Dt.bulkL (Dt.fld d i).toLst<_
 cases hd:Dt.fld d i with
 |lst es=>rw[hd] at h;simp only[Dt.bulk] at h;simp only[Dt.toLst];omega
 |_=>simp[Dt.toLst,Dt.bulkL];omega
def nst (d:Dt):List Dt:=(bif Dt.I d 0==10||Dt.I d 0==15 then[.lst (Dt.L (Dt.fld d 12) 4)] else[])++(bif Dt.I d 0==11 then(Dt.L d 13).map (fun f=> .lst (Dt.L f 1)) else[])
theorem aMt {d e:Dt} (h:e∈nst d):Dt.bulkL e.toLst<d.bulk:=by
 unfold nst at h
 rcases List.mem_append.1 h with h|h
 ·cases hb:(Dt.I d 0==10||Dt.I d 0==15) with
  |false=>rw[hb] at h;cases h
  |true=>
   rw[hb,cond_true] at h
   rw[List.mem_singleton.1 h]
   have:=acB (Dt.fld d 12) 4
   have:=aA d 12
   show Dt.bulkL (Dt.L (Dt.fld d 12) 4)<_
   omega
 ·cases hb:(Dt.I d 0==11) with
  |false=>rw[hb] at h;cases h
  |true=>
   rw[hb,cond_true] at h
   obtain⟨f,hf,rfl⟩:=List.mem_map.1 h
   have:=acB f 1
   have:=bA hf
   show Dt.bulkL (Dt.L f 1)<_
   omega
theorem aMu (d:Dt):(nst d).length≤d.bulk:=by
 have:=aO d 13
 unfold nst
 cases (Dt.I d 0==10||Dt.I d 0==15)<;>cases (Dt.I d 0==11)<;>simp<;>omega
theorem atv (m:Nat) (d:Dt) (hl:(Dt.L d 13).length≤1000000000):∀(M i:Nat) (acc:List Dt),i≤(Dt.L d 13).length→(Dt.L d 13).length-i<M→acc.length≤i+1→nX m M (i:Int) d acc=some (acc++((Dt.L d 13).drop i).map (fun f=> .lst (Dt.L f 1)))
 |0,i,_,_,h,_=>by omega
 |M+1,i,acc,hi,h,ha=>by
  simp only[nX,dlt]
  by_cases hlt:i<(Dt.L d 13).length
  ·rw[decide_eq_true hlt,cond_true,EL,ay hlt,Option.bind_some,J8 (show acc.length+([Dt.lst (Dt.L (Dt.L d 13)[i] 1)]:List Dt).length≤137438953472 by simp;omega),Option.bind_some,EK,aT (show i<9223372036854775807 by omega),atv m d hl M (i+1) _ (by omega) (by omega) (by simp;omega),List.drop_eq_getElem_cons hlt,List.map_cons,List.append_assoc]
   rfl
  ·have e:i=(Dt.L d 13).length:=by omega
   subst e
   rw[decide_eq_false (Nat.lt_irrefl _),cond_false,List.drop_length,List.map_nil,List.append_nil]
   rfl
theorem aBt (m:Nat) (d:Dt) (hl:(Dt.L d 13).length≤1000000000) (hm:(Dt.L d 13).length≤m):oI (m+1) d=some (nst d):=by
 have j1:∀acc:List Dt,acc.length≤1→yA m d acc=some (acc++bif Dt.I d 0==11 then(Dt.L d 13).map (fun f=> .lst (Dt.L f 1)) else[]):=fun acc ha=>by
  rw[yA]
  cases (Dt.I d 0==11)
  ·rw[cond_false,cond_false,List.append_nil];rfl
  ·rw[cond_true,cond_true]
   exact atv m d hl (m+1) 0 acc (Nat.zero_le _) (by omega) (by omega)
 have j0:∀b,sS m b d []=some ((bif b then[.lst (Dt.L (Dt.fld d 12) 4)] else[])++bif Dt.I d 0==11 then(Dt.L d 13).map (fun f=> .lst (Dt.L f 1)) else[]):=fun b=>by
  rw[sS,Cy]
  cases b
  ·rw[cond_false,cond_false];exact j1 [] (by simp)
  ·rw[cond_true,cond_true,J8 (show ([]:List Dt).length+([Dt.lst (Dt.L (Dt.fld d 12) 4)]:List Dt).length≤137438953472 by simp),Option.bind_some,List.nil_append]
   exact j1 _ (by simp)
 rw[oI]
 unfold nst
 cases hb:(Dt.I d 0==10)
 ·rw[cond_false,Bool.false_or];exact j0 _
 ·rw[cond_true,Bool.true_or];exact j0 _
theorem alk (m:Nat) (self:List Dt→Int→Option Int) (rec3:List Dt→Int→Int→Int→Option Int) (x0:List Dt) (x1:Int) (i:Nat) (hi:i<1000000000) (L:List Dt) (hl:L.length≤1000000000) (hs:∀e∈L,∀a,Som (self e.toLst a)) (hr:∀n,Som (rec3 x0 x1 n ((i+1:Nat):Int))):∀(M j:Nat) (n:Int),j≤L.length→L.length-j<M→Som (qh m self rec3 M x0 x1 n (i:Int) L (j:Int))
 |0,j,_,_,h=>by omega
 |M+1,j,n,hj,h=>by
  have hend:∀n,Som (vg m self rec3 x0 x1 n (i:Int)):=fun n=>by
   rw[vg,aT (show i<9223372036854775807 by omega)]
   exact hr n
  rw[qh,dlt]
  refine aj (fun hc=>aj (fun _=>?_) (fun _=>hend n)) (fun _=>hend n)
  have hlt:j<L.length:=of_decide_eq_true hc
  rw[Ip,ay hlt,Option.bind_some]
  refine au (hs _ (List.getElem_mem hlt) _) (fun _ _=>?_)
  rw[Io,aT (show j<9223372036854775807 by omega)]
  exact alk m self rec3 x0 x1 i hi L hl hs hr M (j+1) _ (by omega) (by omega)
theorem aqc (m:Nat) (self:List Dt→Int→Option Int) (l:List Dt) (B:Nat) (hB:B≤10000000) (hm:B+10≤m) (hb:Dt.bulkL l≤B) (hs:∀e:Dt,Dt.bulkL e.toLst<B→∀a,Som (self e.toLst a)) (x1:Int):∀(M i:Nat) (n:Int),i≤l.length→l.length-i<M→Som (qj m self M l x1 n (i:Int))
 |0,i,_,_,h=>by omega
 |M+1,i,n,hi,h=>by
  have hl:=gK l
  rw[qj,dlt]
  refine aj (fun hc=>aj (fun _=>?_) (fun _=>ak _)) (fun _=>ak _)
  have hlt:i<l.length:=of_decide_eq_true hc
  have hbi:=oP (List.getElem_mem hlt)
  have h13:=aO l[i] 13
  have hn:oI m l[i]=some (nst l[i]):=by
   obtain⟨q,rfl⟩:∃q,m=q+1:=⟨m-1,by omega⟩
   exact aBt q l[i] (by omega) (by omega)
  rw[Iq,ay hlt,Option.bind_some,hn,Option.bind_some]
  have hnl:=aMu l[i]
  exact alk m self _ l x1 i (by omega) (nst l[i]) (by omega) (fun e he a=>hs e (by have:=aMt he;omega) a) (fun n=>aqc m self l B hB hm hb hs x1 M (i+1) n (by omega) (by omega)) (m+1) 0 n (Nat.zero_le _) (by omega)
theorem aqd:∀(N:Nat) (l:List Dt),Dt.bulkL l≤N→N≤5000000→∀m,2*N+20≤m→∀a,Som (bB (m+1) l a)
 |N,l,h,hN,m,hm,a=>by
  have hl:=gK l
  obtain⟨q,rfl⟩:∃q,m=q+1:=⟨m-1,by omega⟩
  have j0:∀x,Som (Ai (q+1) (bB (q+1)) l a x):=fun x=>by
   rw[Ai]
   refine aj (fun _=>ak _) (fun _=>?_)
   refine aqc (q+1) (bB (q+1)) l N (by omega) (by omega) h (fun e he b=>?_) a (q+2) 0 _ (Nat.zero_le _) (by omega)
   cases N with
   |zero=>omega
   |succ N=>exact aqd N e.toLst (by omega) (by omega) q (by omega) b
  rw[bB,P5]
  exact aj (fun _=>aj (fun _=>j0 _) (fun _=>j0 _)) (fun _=>j0 _)
def SH (d:Dt):List Dt:=Dt.L d 1++(Dt.L d 3).map (fun s=> .lst (Dt.L s 0))++(Dt.L d 4).map (fun c=> .lst (Dt.L c 0))
theorem atw (m:Nat) (d:Dt) (hl:(Dt.L d 4).length≤1000000000):∀(M i:Nat) (acc:List Dt),i≤(Dt.L d 4).length→(Dt.L d 4).length-i<M→acc.length≤10000000000+i→qm m M (i:Int) d acc=some (acc++((Dt.L d 4).drop i).map (fun f=> .lst (Dt.L f 0)))
 |0,i,_,_,h,_=>by omega
 |M+1,i,acc,hi,h,ha=>by
  simp only[qm,dlt]
  by_cases hlt:i<(Dt.L d 4).length
  ·rw[decide_eq_true hlt,cond_true,IK,ay hlt,Option.bind_some,J8 (show acc.length+([Dt.lst (Dt.L (Dt.L d 4)[i] 0)]:List Dt).length≤137438953472 by simp;omega),Option.bind_some,IJ,aT (show i<9223372036854775807 by omega),atw m d hl M (i+1) _ (by omega) (by omega) (by simp;omega),List.drop_eq_getElem_cons hlt,List.map_cons,List.append_assoc]
   rfl
  ·have e:i=(Dt.L d 4).length:=by omega
   subst e
   rw[decide_eq_false (Nat.lt_irrefl _),cond_false,List.drop_length,List.map_nil,List.append_nil]
   rfl
theorem atx (m:Nat) (d:Dt) (hl:(Dt.L d 3).length≤1000000000) (hl4:(Dt.L d 4).length≤1000000000) (hm:(Dt.L d 4).length≤m):∀(M i:Nat) (acc:List Dt),i≤(Dt.L d 3).length→(Dt.L d 3).length-i<M→acc.length≤1000000000+i→qo m M (i:Int) d acc=some (acc++((Dt.L d 3).drop i).map (fun f=> .lst (Dt.L f 0))++(Dt.L d 4).map (fun f=> .lst (Dt.L f 0)))
 |0,i,_,_,h,_=>by omega
 |M+1,i,acc,hi,h,ha=>by
  simp only[qo,dlt]
  by_cases hlt:i<(Dt.L d 3).length
  ·rw[decide_eq_true hlt,cond_true,II,ay hlt,Option.bind_some,J8 (show acc.length+([Dt.lst (Dt.L (Dt.L d 3)[i] 0)]:List Dt).length≤137438953472 by simp;omega),Option.bind_some,IG,aT (show i<9223372036854775807 by omega),atx m d hl hl4 hm M (i+1) _ (by omega) (by omega) (by simp;omega),List.drop_eq_getElem_cons hlt,List.map_cons]
   simp
  ·have e:i=(Dt.L d 3).length:=by omega
   subst e
   rw[decide_eq_false (Nat.lt_irrefl _),cond_false,List.drop_length,List.map_nil,List.append_nil]
   exact atw m d hl4 (m+1) 0 acc (Nat.zero_le _) (by omega) (by omega)
theorem aDU (m:Nat) (d:Dt) (hb:d.bulk≤10000000) (hm:d.bulk≤m):qY (m+1) d=some (SH d):=by
 have l1:=aO d 1
 have l3:=aO d 3
 have l4:=aO d 4
 rw[qY,J8 (show ([]:List Dt).length+(Dt.L d 1).length≤137438953472 by simp;omega),Option.bind_some,List.nil_append]
 exact atx m d (by omega) (by omega) (by omega) (m+1) 0 _ (Nat.zero_le _) (by omega) (by omega)
theorem aty (d:Dt):(SH d).length=(Dt.L d 1).length+(Dt.L d 3).length+(Dt.L d 4).length:=by simp[SH];omega
theorem aww {d e:Dt} (hb:d.bulk≤10000000) (h:e∈SH d):e.toLst.length≤10000000:=by
 unfold SH at h
 rcases List.mem_append.1 h with h|h
 ·rcases List.mem_append.1 h with h|h
  ·have:=bA h;have:=Oa e;omega
  ·obtain⟨s,hs,rfl⟩:=List.mem_map.1 h
   have:=bA hs;have:=aO s 0
   show (Dt.L s 0).length≤_;omega
 ·obtain⟨s,hs,rfl⟩:=List.mem_map.1 h
  have:=bA hs;have:=aO s 0
  show (Dt.L s 0).length≤_;omega
end Go.Proofs.YtjnkagkoolbodaaGreatDoor
namespace Go.Proofs.YtjnkagkoolbodaaGreatDoor
open Go.Am
def aOs:Dt:= .agg [.int 0,.int 0,.str (ByteArray.mk (List.toArray [])),.lst [],.lst []]
def aMv:Dt:= .agg [.int 0,.lst [],.int 0]
def aBu:Dt:= .agg [.int 0,.lst [],.str (ByteArray.mk (List.toArray [])),.lst [],aOs,.int 0,.lst []]
def awx:Dt:= .agg [.int 0,.lst [],aOs,.lst [],.int 0,.int 0,aMv,aBu,.lst []]
def aDV:Dt:= .agg [.bool false,.lst [],.bool false,.lst [],.lst []]
theorem Kz {a b:List Dt} (h:(((a.length:Nat):Int) !=((b.length:Nat):Int))=false):a.length=b.length:=by
 have:((a.length:Nat):Int)=((b.length:Nat):Int):=by simpa using h
 omega
theorem lt0 {a:List Dt} (h:a.length=0):decide ((0:Int)<((a.length:Nat):Int))=false:=decide_eq_false (by omega)
theorem aDW (m:Nat) (d:Dt):Som (aW (m+1) d aMv):=by
 have h1:∀b:Bool,(b=false→(Dt.L d 1).length=0)→Som (dW m b d aMv):=fun b hb=>by
  rw[dW]
  refine aj (fun _=>ak _) (fun h=>?_)
  simp only[iJ,iK,ig,iL,iM,iN,dW]
  rw[gB,lt0 (hb h),cond_false]
  exact ak _
 rw[aW,wF]
 exact aj (fun _=>h1 _ (fun h=>by cases h)) (fun _=>aj (fun _=>h1 _ (fun h=>by cases h)) (fun _=>h1 _ (fun h=>Kz h)))
theorem aDX (m:Nat) (a b:Dt) (h3:(Dt.L b 3).length=0) (h4:(Dt.L b 4).length=0):Som (aC (m+1) a b):=by
 have j0t:Som (bI m (aC m) true a b):=ak _
 rw[aC,Er]
 refine aj (fun _=>j0t) (fun _=>aj (fun _=>j0t) (fun _=>aj (fun _=>j0t) (fun _=>aj (fun _=>j0t) (fun h=>?_))))
 have e3:(Dt.L a 3).length=0:=(Kz h).trans h3
 rw[bI]
 refine aj (fun _=>ak _) (fun h'=>?_)
 have e4:(Dt.L a 4).length=0:=(Kz h').trans h4
 simp only[eP,eU,dL,dM,dN,eX,dO,dP,eY,eZ,fq,fu,bI]
 rw[mD,lt0 e3,cond_false]
 simp only[eP,eU,dL,dM,dN,eX,dO,dP,eY,eZ,fq,fu,bI]
 rw[iX,lt0 e4,cond_false]
 exact ak _
theorem aVU (m:Nat) (l:List Dt):Som (cu (m+2) l []):=by
 rw[cu]
 exact au (aDX m _ _ rfl rfl) fun _ _=>ak _
theorem aDY (m:Nat) (l:List Dt):Som (aL (m+2) l []):=by
 rw[aL]
 refine aj (fun h=>?_) (fun _=>ak _)
 have e:l.length=0:=by
  have:((l.length:Nat):Int)=0:=by simpa using h
  omega
 exact au (alj m l [] (by omega) (by omega)) fun _ _=>ak _
theorem aTU (m:Nat) (l:List Dt):Som (cB (m+1) l []):=by
 rw[cB]
 refine aj (fun _=>ak _) (fun h=>?_)
 have e:l.length=0:=Kz h
 simp only[jE,jF,iP,jG,jH,jI]
 rw[gQ,lt0 e,cond_false]
 exact ak _
theorem aVV (m:Nat) (d:Dt):Som (aD (m+4) d aBu):=by
 have h1:∀b:Bool,(b=false→(Dt.L d 6).length=0)→Som (bq (m+3) (aD (m+3)) b d aBu):=fun b hb=>by
  rw[bq]
  refine aj (fun _=>ak _) (fun h=>?_)
  simp only[jJ,jK,iQ,jL,gT,gU,bq]
  rw[fI,lt0 (hb h),cond_false]
  exact ak _
 have ht:=h1 true (fun h=>by cases h)
 have p1:Som (aL (m+3) (Dt.L d 1) (Dt.L aBu 1)):=aDY (m+1) _
 have p3:Som (aL (m+3) (Dt.L d 3) (Dt.L aBu 3)):=aDY (m+1) _
 have p4:Som (aC (m+3) (Dt.fld d 4) (Dt.fld aBu 4)):=aDX (m+2) _ _ rfl rfl
 rw[aD,sZ]
 exact aj (fun _=>ht) (fun _=>au p1 fun _ _=>aj (fun _=>ht) fun _=>aj (fun _=>ht) fun _=>au p3 fun _ _=>aj (fun _=>ht) fun _=>au p4 fun _ _=>aj (fun _=>ht) fun _=>aj (fun _=>ht) fun _=>h1 _ fun h=>Kz h)
theorem aVW (m:Nat) (d:Dt):Som (aY (m+5) d awx):=by
 have p1:Som (aL (m+4) (Dt.L d 1) (Dt.L awx 1)):=aDY (m+2) _
 have p2:Som (aC (m+4) (Dt.fld d 2) (Dt.fld awx 2)):=aDX (m+3) _ _ rfl rfl
 have p3:Som (cu (m+4) (Dt.L d 3) (Dt.L awx 3)):=aVU (m+2) _
 have p6:Som (aW (m+4) (Dt.fld d 6) (Dt.fld awx 6)):=aDW (m+3) _
 have p7:Som (aD (m+4) (Dt.fld d 7) (Dt.fld awx 7)):=aVV m _
 rw[aY,yB]
 refine aj (fun _=>ak _) (fun _=>au p1 fun _ _=>aj (fun _=>ak _) fun _=>au p2 fun _ _=>aj (fun _=>ak _) fun _=>au p3 fun _ _=>aj (fun _=>ak _) fun _=>aj (fun _=>ak _) fun _=>aj (fun _=>ak _) fun _=>au p6 fun _ _=>aj (fun _=>ak _) fun _=>au p7 fun _ _=>aj (fun _=>ak _) fun _=>aj (fun _=>ak _) fun h=>?_)
 have e:(Dt.L d 8).length=0:=Kz h
 simp only[jM,jN,iR,jO,jP,jQ]
 rw[gV,lt0 e,cond_false]
 exact ak _
theorem aVX (m:Nat) (d:Dt):Som (bM (m+4) d aDV):=by
 have hc:Som (cO (m+3) (Dt.L d 4) (Dt.L aDV 4)):=by
  rw[cO]
  refine aj (fun _=>ak _) (fun h=>?_)
  have e:(Dt.L d 4).length=0:=Kz h
  simp only[fK,fM,fO,fB,fP,fQ,fT]
  rw[dS,lt0 e,cond_false]
  exact ak _
 have h1:∀b:Bool,(b=false→(Dt.L d 3).length=0)→Som (cK (m+3) b d aDV):=fun b hb=>by
  rw[cK]
  refine aj (fun _=>ak _) (fun h=>?_)
  simp only[dX,dY,dZ,dU,dI,eB,eD,cK]
  rw[eu,lt0 (hb h),cond_false]
  simp only[dX,dY,dZ,dU,dI,eB,eD,cK]
  exact au hc fun _ _=>ak _
 have ht:=h1 true (fun h=>by cases h)
 have p1:Som (cB (m+3) (Dt.L d 1) (Dt.L aDV 1)):=aTU (m+2) _
 rw[bM,rP]
 exact aj (fun _=>ht) (fun _=>aj (fun _=>ht) fun _=>au p1 fun _ _=>aj (fun _=>ht) fun _=>h1 _ fun h=>Kz h)
end Go.Proofs.YtjnkagkoolbodaaGreatDoor
