/- Validity of a stage's parts: these functions end.
Validity of pipelines:the function ends. -/
import Derived.Test.YtjnkagkoolbodaaGreatDoorMH
import Derived.Test.YtjnkagkoolbodaaGreatDoorME
import Derived.Test.YtjnkagkoolbodaaGreatDoorMD
set_option linter.unusedVariables false
set_option linter.unusedSimpArgs false
namespace Go.Proofs.YtjnkagkoolbodaaGreatDoor
open Go.Am
structure Mf (m:Nat):Prop where
 lo:100000000≤m
 hi:m<800000000000
section
variable {m:Nat} (h:Mf m)
include h
theorem v04 (l:List Dt):bG m l=some (vld l):=by
 have:=h.lo
 obtain⟨q,rfl⟩:∃q,m=q+1:=⟨m-1,by omega⟩
 exact KC q (by omega) l
omit h in
theorem aDy {l:List Dt} (h:vld l=true):0<l.length:=by
 unfold vld at h
 simp only[Bool.and_eq_true,decide_eq_true_eq] at h
 omega
theorem n01 (s:ByteArray):Som (eF m s):=by
 have:=h.lo
 obtain⟨q,rfl⟩:∃q,m=q+1:=⟨m-1,by omega⟩
 exact Ab (Wz q (by omega) s)
theorem o31 (s:ByteArray):Som (bR m s):=by
 have:=h.lo
 obtain⟨q,rfl⟩:∃q,m=q+2:=⟨m-2,by omega⟩
 exact Ab (ayU q (by omega) s)
theorem z31 (d:Dt):Som (dB m d):=by
 have:=h.lo
 obtain⟨q,rfl⟩:∃q,m=q+4:=⟨m-4,by omega⟩
 exact Ab (aq7 q d)
theorem v12 (l:List Dt):Som (mE m l):=by
 have:=h.lo
 have:=h.hi
 obtain⟨q,rfl⟩:∃q,m=q+2:=⟨m-2,by omega⟩
 exact Ab (ayT q (by omega) (by omega) l)
theorem v08 {d:Dt} (hb:d.bulk≤2000000) (ht:HasTy Tryz.prog 36 d):Som (aV m d):=by
 have:=h.lo
 have:=h.hi
 obtain⟨q,rfl⟩:∃q,m=q+23:=⟨m-23,by omega⟩
 exact Ab (aco 2000000 (by omega) q (by omega) (by omega) d (akZ d.bulk d (Nat.le_refl _) ht) hb)
theorem v01 {d:Dt} (hb:d.bulk≤2000000) (ht:HasTy Tryz.prog 30 d):Som (dJ m d):=by
 have:=h.lo
 have:=h.hi
 obtain⟨q,rfl⟩:∃q,m=q+4:=⟨m-4,by omega⟩
 exact Ab (ahd (ajx ht) q (by omega) (by omega) (by omega))
theorem c01 (a b:Dt) (hb:a.bulk≤2000000):Som (aJ m a b):=by
 have:=h.lo
 have:=h.hi
 obtain⟨q,rfl⟩:∃q,m=q+3:=⟨m-3,by omega⟩
 exact Ab (aTZ a b q (by omega) (by omega))
theorem w31 {d:Dt} (hb:d.bulk≤2000000) (ht:HasTy Tryz.prog 64 d):Som (oN m d):=by
 have:=h.lo
 have:=h.hi
 obtain⟨q,rfl⟩:∃q,m=q+30:=⟨m-30,by omega⟩
 refine Ab (aL8 (B:=2000000) (by omega) (.mk ?_ fun o ho=>?_) hb q (by omega) (by omega))
 ·exact akZ _ _ (Nat.le_refl _) (aaJ ht)
 ·exact akZ _ _ (Nat.le_refl _) (arY (aaK ht o ho))
theorem g10 (d:Dt) (hb:d.bulk≤2000000):Som (iG m d):=by
 have:=h.lo
 have:=aO d 1
 obtain⟨q,rfl⟩:∃q,m=q+3:=⟨m-3,by omega⟩
 exact aoT q d (by omega) (by omega)
theorem aTG (a b:List Dt) (ha:a.length≤10000000) (hb:b.length≤10000000):Som (gM m a b):=by
 have:=h.lo
 obtain⟨q,rfl⟩:∃q,m=q+2:=⟨m-2,by omega⟩
 exact aBs q a b (by omega) (by omega) (by omega) (by omega)
end
theorem aDz {m:Nat} (h:Mf m) {d:Dt} (hb:d.bulk≤2000000) (ht:HasTy Tryz.prog 71 d):Som (oM (m+1) d):=by
 have e9:Som (aV m (Dt.fld d 9)):=v08 h (by have:=aA d 9;omega) (Wd ht)
 have e4:=v12 h (Dt.L d 4)
 have e7:=o31 h (Dt.S d 7)
 have e6:Som (bG m (Dt.L d 6)):=Ab (v04 h _)
 simp only[oM,M0,yN,tO,FN,FP,Dj,FR]
 repeat' (first|exact ak _|refine aj (fun _=>?_) (fun _=>?_)|refine au e9 (fun _ _=>?_)|refine au e4 (fun _ _=>?_)|refine au e7 (fun _ _=>?_)|refine au e6 (fun _ _=>?_))
theorem aTH {m:Nat} (h:Mf m) (d:Dt):Som (iF (m+1) d):=by
 rw[iF]
 exact au (z31 h _) fun _ _=>aj (fun _=>ak _) (fun _=>ak _)
theorem aTI {m:Nat} (h:Mf m) (d:Dt):Som (dQ (m+1) d):=by
 rw[dQ]
 exact au (z31 h _) fun _ _=>aj (fun _=>aj (fun _=>ak _) (fun _=>ak _)) (fun _=>ak _)
section
variable {m:Nat} (h:Mf m) (d:Dt)
include h
theorem aW7:Som (vB (m+1) d):=by
 have:=h.lo
 have e1:=acy m (Dt.fld d 15)
 have e2:Som (aW (m+1) (Dt.fld d 16) aMv):=aDW m _
 rw[vB]
 repeat' (first|exact ak _|refine aj (fun _=>?_) (fun _=>?_)|refine au e1 (fun _ _=>?_)|refine au e2 (fun _ _=>?_))
theorem aW8 (b:Bool):Som (AB (m+1) b d):=by
 rw[AB]
 exact aj (fun _=>ak _) (fun _=>aW7 h d)
theorem aW9:Som (AJ (m+1) d):=by
 have hm:Mf (m+1)→True:=fun _=>trivial
 have e1:∀n (l:List Dt),l.length≤10→Som (bY (m+1) n l):=fun n l hl=>acA m n l (by have:=h.lo;omega) (by omega)
 have e2:Som (dB (m+1) (Dt.fld d 9)):=by
  have:=h.lo
  obtain⟨q,rfl⟩:∃q,m=q+3:=⟨m-3,by omega⟩
  exact Ab (aq7 q _)
 have e3:=aTH h (Dt.fld d 10)
 have e4:=aTI h (Dt.fld d 11)
 have e5:=Y6 m (Dt.fld d 12)
 rw[AJ,ER]
 repeat' (first|exact aW8 h d _|refine aj (fun _=>?_) (fun _=>?_)|refine au e2 (fun _ _=>?_)|refine au e3 (fun _ _=>?_)|refine au e4 (fun _ _=>?_)|refine au e5 (fun _ _=>?_)|refine au (e1 _ _ (by simp)) (fun _ _=>?_))
theorem aXa (b:Bool):Som (AL (m+1) b d):=by
 rw[AL]
 exact aj (fun _=>ak _) (fun _=>aW9 h d)
theorem ext1:Som (AO (m+1) d):=by
 have e1:∀n (l:List Dt),l.length≤10→Som (bY (m+1) n l):=fun n l hl=>acA m n l (by have:=h.lo;omega) (by omega)
 rw[AO,ES]
 repeat' (first|exact aXa h d _|refine aj (fun _=>?_) (fun _=>?_)|refine au (e1 _ _ (by simp)) (fun _ _=>?_))
theorem aXb (b:Bool):Som (AP (m+1) b d):=by
 rw[AP]
 exact aj (fun _=>ak _) (fun _=>ext1 h d)
theorem aMe:Som (qX (m+2) d):=by
 have e1:Som (aY (m+1) (Dt.fld d 1) awx):=by
  have:=h.lo
  obtain⟨q,rfl⟩:∃q,m=q+4:=⟨m-4,by omega⟩
  exact aVW q _
 have e2:Som (bM (m+1) (Dt.fld d 2) aDV):=by
  have:=h.lo
  obtain⟨q,rfl⟩:∃q,m=q+3:=⟨m-3,by omega⟩
  exact aVX q _
 rw[qX,P6]
 repeat' (first|exact aXb h d _|refine aj (fun _=>?_) (fun _=>?_)|refine au e1 (fun _ _=>?_)|refine au e2 (fun _ _=>?_))
end
theorem ay0 {m:Nat} (h:Mf m) (rec3:List Dt→Int→Option Int) (l:List Dt) (hl:∀e∈l,e.bulk≤2000000) (i:Nat) (hi:i<l.length) (hll:l.length≤1000000) (hE:Som (aV m (Dt.fld l[i] 1))) (hr:Som (rec3 l ((i+1:Nat):Int))):∀(M k:Nat),k≤i→i-k<M→Som (uF m rec3 M l (i:Int) (k:Int))
 |0,k,_,h=>by omega
 |M+1,k,hk,hM=>by
  rw[uF,dlt]
  refine aj (fun hc=>?_) (fun _=>?_)
  ·have hlt:k<i:=of_decide_eq_true hc
   have hkl:k<l.length:=by omega
   have b1:=hl _ (List.getElem_mem hi)
   have b2:=hl _ (List.getElem_mem hkl)
   have l1:=aO l[i] 0
   have l2:=aO l[k] 0
   rw[MW,JU,ay hi,Option.bind_some,ay hkl,Option.bind_some]
   refine au (aTG h _ _ (by omega) (by omega)) (fun _ _=>aj (fun _=>ak _) (fun _=>?_))
   rw[JR,aT (show k<9223372036854775807 by omega)]
   exact ay0 h rec3 l hl i hi hll hE hr M (k+1) (by omega) (by omega)
  ·rw[JW,ay hi,Option.bind_some]
   refine au hE (fun _ _=>aj (fun _=>ak _) (fun _=>?_))
   rw[JV,aT (show i<9223372036854775807 by omega)]
   exact hr
theorem aDA {m:Nat} (h:Mf m) (l:List Dt) (hl:∀e∈l,e.bulk≤2000000) (hll:l.length≤1000000) (ht:∀e∈l,HasTy Tryz.prog 110 e):∀(M i:Nat),i≤l.length→l.length-i<M→Som (uG m M l (i:Int))
 |0,i,_,h=>by omega
 |M+1,i,hi,hM=>by
  rw[uG,dlt]
  refine aj (fun hc=>?_) (fun _=>ak _)
  have hlt:i<l.length:=of_decide_eq_true hc
  have b1:=hl _ (List.getElem_mem hlt)
  have hE:Som (aV m (Dt.fld l[i] 1)):=v08 h (by have:=aA l[i] 1;omega) (Ah (ht _ (List.getElem_mem hlt)))
  rw[MZ,JY,ay hlt,Option.bind_some,v04 h,Option.bind_some]
  refine aj (fun _=>ak _) (fun hv=>?_)
  have hne:0<(Dt.L l[i] 0).length:=aDy (by simpa using hv)
  have e0:idx (Dt.L l[i] 0) 0=some (Dt.L l[i] 0)[0]:=ay hne
  rw[MX,JX,ay hlt,Option.bind_some,e0,Option.bind_some]
  refine aj (fun _=>ak _) (fun _=>?_)
  have hlo:=h.lo
  exact ay0 h _ l hl i hlt hll hE (aDA h l hl hll ht M (i+1) (by omega) (by omega)) (m+1) 0 (Nat.zero_le _) (by omega)
theorem aTJ {m:Nat} (h:Mf m) (l:List Dt) (hl:∀e∈l,e.bulk≤2000000) (hll:l.length≤1000000) (ht:∀e∈l,HasTy Tryz.prog 110 e):Som (vZ (m+1) l):=by
 have j0:∀b,Som (D6 m l b):=fun b=>by
  rw[D6]
  refine aj (fun _=>ak _) (fun _=>?_)
  have hlo:=h.lo
  exact aDA h l hl hll ht (m+1) 0 (Nat.zero_le _) (by omega)
 rw[vZ,K8]
 exact aj (fun _=>j0 _) (fun _=>j0 _)
theorem aVD {m:Nat} (h:Mf m) {d:Dt} (hb:d.bulk≤2000000) (ht:HasTy Tryz.prog 114 d):Som (zY (m+1) d):=by
 have e2:Som (aV m (Dt.fld d 2)):=v08 h (by have:=aA d 2;omega) (arX ht)
 have e3:=v12 h (Dt.L d 3)
 have e4:=z31 h (Dt.fld d 2)
 have j4:Som (GL m d):=by
  simp only[GL,Qf,Na,Qe,Qd]
  repeat' (first|exact ak _|refine aj (fun _=>?_) (fun _=>?_)|refine au e3 (fun _ _=>?_))
 have j2:∀b,Som (GN m b d):=fun b=>by
  rw[GN,Qg,Nb]
  repeat' (first|exact j4|exact ak _|refine aj (fun _=>?_) (fun _=>?_)|refine au e2 (fun _ _=>?_))
 have j0:∀b,Som (GQ m b d):=fun b=>by
  rw[GQ,Qh,Nc]
  repeat' (first|exact j2 _|exact ak _|refine aj (fun _=>?_) (fun _=>?_)|refine au e4 (fun _ _=>?_))
 rw[zY,aa9]
 exact aj (fun _=>j0 _) (fun _=>j0 _)
theorem as6 {m:Nat} (rec3:Int→Dt→Option Int) (d:Dt) (i:Nat) (hi:i<(Dt.L d 1).length) (hll:(Dt.L d 1).length≤10000000) (hA:Som (zY m (Dt.L d 1)[i])) (hr:Som (rec3 ((i+1:Nat):Int) d)):∀(M k:Nat) (b:Bool),k≤i→i-k<M→Som (nJ m rec3 M (i:Int) b (k:Int) d)
 |0,k,_,_,h=>by omega
 |M+    1,k,b,hk,hM=>by
  rw[nJ,dlt]
  refine aj (fun hc=>?_) (fun _=>?_)
  ·have hlt:k<i:=of_decide_eq_true hc
   have ih:∀b,Som (BH m rec3 (nJ m rec3 M) (i:Int) b (k:Int) d):=fun b=>by
        rw[BH,aT (show k<9223372036854775807 by omega)]
        exact as6 rec3 d i hi hll hA hr M (k+1) b (by omega) (by omega)
   rw[JZ,FT,ay hi,ay (show k<(Dt.L d 1).length by omega)]
   exact aj (fun _=>ih _) (fun _=>ih _)
  ·rw[J2,FV,ay hi,Option.bind_some]
   refine aj (fun _=>ak _) (fun _=>au hA (fun _ _=>aj (fun _=>ak _) (fun _=>?_)))
   rw[FU,aT (show i<9223372036854775807 by omega)]
   exact hr
theorem as7 {m:Nat} (h:Mf m) (h':Mf (m+1)) (d:Dt) (hb:d.bulk≤2000000) (ht:HasTy Tryz.prog 61 d):∀(M i:Nat),i≤(Dt.L d 1).length→(Dt.L d 1).length-i<M→Som (qN (m+1) M (i:Int) d)
 |0,i,_,h=>by omega
 |M+1,i,hi,hM=>by
  have hl:=aO d 1
  rw[qN,dlt]
  refine aj (fun hc=>?_) (fun _=>ak _)
  have hlt:i<(Dt.L d 1).length:=of_decide_eq_true hc
  have hm:=bA (List.getElem_mem hlt)
  rw[J3,ay hlt,Option.bind_some]
  refine au (o31 h' _) (fun b _=>?_)
  have hlo:=h.lo
  exact as6 _ d i hlt (by omega) (aVD h (by omega) (ahK ht _ (List.getElem_mem hlt))) (as7 h h' d hb ht M (i+1) (by omega) (by omega)) (m+2) 0 b (Nat.zero_le _) (by omega)
theorem aMf {m:Nat} (h:Mf m) (h':Mf (m+1)) {d:Dt} (hb:d.bulk≤2000000) (ht:HasTy Tryz.prog 61 d):Som (wh (m+2) d):=by
 have hl:=aO d 1
 have f0:=aA d 0
 have hlo:=h.lo
 rw[wh]
 refine au (v08 h' (by omega) (ahJ ht)) (fun _ _=>aj (fun _=>ak _) (fun _=>?_))
 rw[J4]
 refine aj (fun _=>ak _) (fun _=>?_)
 exact as7 h h' d hb ht (m+2) 0 (Nat.zero_le _) (by omega)
theorem as8 {m:Nat} (h:Mf m) (d:Dt) (hb:d.bulk≤2000000) (ht:∀e∈Dt.L d 14,HasTy Tryz.prog 30 e):∀(M i:Nat),i≤(Dt.L d 14).length→(Dt.L d 14).length-i<M→Som (kH m M (i:Int) d)
 |0,i,_,h=>by omega
 |M+1,i,hi,hM=>by
  have hl:=aO d 14
  rw[kH,dlt]
  refine aj (fun hc=>?_) (fun _=>ak _)
  have hlt:i<(Dt.L d 14).length:=of_decide_eq_true hc
  have hm:=bA (List.getElem_mem hlt)
  have j6:∀b,Som (yM m (kH m M) (i:Int) b d):=fun b=>by
   rw[yM,FJ,aT (show i<9223372036854775807 by omega)]
   exact aj (fun _=>ak _) (fun _=>as8 h d hb ht M (i+1) (by omega) (by omega))
  rw[FL,ay hlt,Option.bind_some]
  refine au (v01 h (by omega) (ht _ (List.getElem_mem hlt))) (fun _ _=>aj (fun _=>ak _) (fun _=>?_))
  rw[FK,Di]
  refine aj (fun h0=>?_) (fun _=>j6 _)
  have hp:0<i:=by have:=of_decide_eq_true h0;omega
  have hw:IntKind.wrap IntKind.i64 ((i:Int)-1)=((i-1:Nat):Int):=by rw[wrap64 (by omega) (by omega)];omega
  have hlt':i-1<(Dt.L d 14).length:=by omega
  have hm':=bA (List.getElem_mem hlt')
  rw[hw,ay hlt',Option.bind_some,ay hlt,Option.bind_some]
  exact au (c01 h _ _ (by omega)) (fun _ _=>j6 _)
theorem aDB {m:Nat} (h:Mf m) {d:Dt} (hb:d.bulk≤2000000) (ht:HasTy Tryz.prog 71 d):Som (rZ (m+1) d):=by
 have hl:=aO d 14
 have f9:=aA d 9
 have hlo:=h.lo
 rw[rZ]
 refine au (v08 h (by omega) (Wd ht)) (fun _ _=>aj (fun _=>ak _) (fun _=>?_))
 rw[FM]
 refine aj (fun _=>ak _) (fun _=>?_)
 exact as8 h d hb (aaQ ht) (m+1) 0 (Nat.zero_le _) (by omega)
theorem aTK {m:Nat} (h:Mf m) {d:Dt} (hb:d.bulk≤2000000):Som (zy (m+1) d):=by
 have f16:=aA d 16
 have j0:∀b,Som (DN m b d):=fun b=>by
  rw[DN,Mq,Ml]
  exact aj (fun _=>ak _) (fun _=>au (Ab (v04 h _)) fun _ _=>aj (fun _=>ak _) fun _=>au (o31 h _) fun _ _=>aj (fun _=>ak _) fun _=>ak _)
 rw[zy,UU]
 exact au (g10 h _ (by omega)) fun _ _=>aj (fun _=>j0 _) (fun _=>j0 _)
theorem as9 {m:Nat} (h:Mf m) (rec4:Int→Dt→Option Int) (d:Dt) (hb:d.bulk≤2000000) (i:Nat) (hi:i<(Dt.L d 1).length) (hr:Som (rec4 ((i+1:Nat):Int) d)):∀(M k:Nat),k≤i→i-k<M→Som (qp m rec4 M (i:Int) (k:Int) d)
 |0,k,_,h=>by omega
 |M+1,k,hk,hM=>by
  have hl:=aO d 1
  rw[qp,dlt]
  refine aj (fun hc=>?_) (fun _=>?_)
  ·have hlt:k<i:=of_decide_eq_true hc
   have hkl:k<(Dt.L d 1).length:=by omega
   have b1:=bA (List.getElem_mem hi)
   have b2:=bA (List.getElem_mem hkl)
   have l1:=Oa (Dt.L d 1)[i]
   have l2:=Oa (Dt.L d 1)[k]
   rw[AQ,yD,ay hi,Option.bind_some,ay hkl,Option.bind_some]
   refine au (aTG h _ _ (by omega) (by omega)) (fun _ _=>aj (fun _=>ak _) (fun _=>?_))
   rw[yC,aT (show k<9223372036854775807 by omega)]
   exact as9 h rec4 d hb i hi hr M (k+1) (by omega) (by omega)
  ·rw[yE,aT (show i<9223372036854775807 by omega)]
   exact hr
theorem ata {m:Nat} (h:Mf m) (d:Dt) (hb:d.bulk≤2000000):∀(M i:Nat),i≤(Dt.L d 1).length→(Dt.L d 1).length-i<M→Som (qw m M (i:Int) d)
 |0,i,_,h=>by omega
 |M+1,i,hi,hM=>by
  have hl:=aO d 1
  rw[qw,dlt]
  refine aj (fun hc=>?_) (fun _=>?_)
  ·have hlt:i<(Dt.L d 1).length:=of_decide_eq_true hc
   rw[AR,yF,ay hlt,Option.bind_some]
   refine au (Ab (v04 h _)) (fun _ _=>aj (fun _=>ak _) (fun _=>?_))
   have hlo:=h.lo
   exact as9 h _ d hb i hlt (ata h d hb M (i+1) (by omega) (by omega)) (m+1) 0 (Nat.zero_le _) (by omega)
  ·simp only[yC,AQ,yD,yE,IL,IQ,AR,yF,ET,EU,EW,CJ,IU,IV,vI,AU,yG]
   repeat' (first|exact ak _|refine aj (fun _=>?_) (fun _=>?_))
theorem aMg {m:Nat} (h:Mf m) (d:Dt) (hb:d.bulk≤2000000):Som (vJ (m+1) d):=by
 have hl:=aO d 1
 have hlo:=h.lo
 have j1:∀b,Som (vI m b d):=fun b=>by
  rw[vI]
  exact aj (fun _=>ak _) (fun _=>ata h d hb (m+1) 0 (Nat.zero_le _) (by omega))
 rw[vJ,AU,yG]
 exact au (n01 h _) fun _ _=>aj (fun _=>ak _) fun _=>aj (fun _=>j1 _) (fun _=>j1 _)
end Go.Proofs.YtjnkagkoolbodaaGreatDoor
namespace Go.Proofs.YtjnkagkoolbodaaGreatDoor
open Go.Am
theorem aMh {m:Nat} (h:Mf m) (rec2:List Dt→Int→Dt→Option Int) (P:List Dt) (d:Dt) (hb:d.bulk≤2000000) (ht:HasTy Tryz.prog 45 d) (i:Nat) (hi:i<(Dt.L d 1).length+(Dt.L d 3).length+(Dt.L d 4).length) (hr:Som (rec2 P ((i+1:Nat):Int) d)):Som (tN m rec2 P (i:Int) d):=by
 have l1:=aO d 1
 have l3:=aO d 3
 have l4:=aO d 4
 have w1:IntKind.wrap IntKind.i64 ((i:Int)-((Dt.L d 1).length:Int))=(i:Int)-((Dt.L d 1).length:Int):=wrap64 (by omega) (by omega)
 have w2:IntKind.wrap IntKind.i64 (((i:Int)-((Dt.L d 1).length:Int))-((Dt.L d 3).length:Int))=(i:Int)-((Dt.L d 1).length:Int)-((Dt.L d 3).length:Int):=wrap64 (by omega) (by omega)
 have j13:Som (yK m rec2 P (i:Int) d):=by
  rw[yK,aT (show i<9223372036854775807 by omega)]
  exact hr
 have j11:∀b,Som (yL m rec2 P (i:Int) ((i:Int)-((Dt.L d 1).length:Int)-((Dt.L d 3).length:Int)) b d):=fun b=>by
  rw[yL,FH,Dg]
  refine aj (fun _=>ak _) (fun _=>aj (fun hc=>?_) (fun _=>j13))
  have hc:=of_decide_eq_true hc
  have e:(i:Int)-((Dt.L d 1).length:Int)-((Dt.L d 3).length:Int)=((i-(Dt.L d 1).length-(Dt.L d 3).length:Nat):Int):=by omega
  have hlt:i-(Dt.L d 1).length-(Dt.L d 3).length<(Dt.L d 4).length:=by omega
  have hm:=bA (List.getElem_mem hlt)
  have hf:=aA (Dt.L d 4)[i-(Dt.L d 1).length-(Dt.L d 3).length] 1
  rw[e,ay hlt,Option.bind_some]
  exact au (v08 h (by omega) (Ah (KX ht _ (List.getElem_mem hlt)))) (fun _ _=>aj (fun _=>ak _) (fun _=>j13))
 rw[tN,Dh,w1,w2]
 refine aj (fun h0=>aj (fun h1=>?_) (fun _=>j11 _)) (fun _=>j11 _)
 have h0:=of_decide_eq_true h0
 have h1:=of_decide_eq_true h1
 have e:(i:Int)-((Dt.L d 1).length:Int)=((i-(Dt.L d 1).length:Nat):Int):=by omega
 have hlt:i-(Dt.L d 1).length<(Dt.L d 3).length:=by omega
 have hx:idx (Dt.L d 3) ((i:Int)-((Dt.L d 1).length:Int))=some (Dt.L d 3)[i-(Dt.L d 1).length]:=by rw[e];exact ay hlt
 rw[hx,Option.bind_some]
 exact j11 _
theorem ay1 {m:Nat} (h:Mf m) (rec2:List Dt→Int→Dt→Option Int) (P:List Dt) (hP:∀e∈P,e.toLst.length≤10000000) (hPl:P.length≤10000000) (d:Dt) (i:Nat) (hi:i<P.length) (hr:Som (tN m rec2 P (i:Int) d)):∀(M k:Nat),k≤i→i-k<M→Som (qM m rec2 M P (i:Int) (k:Int) d)
 |0,k,_,h=>by omega
 |M+1,k,hk,hM=>by
  rw[qM,dlt]
  refine aj (fun hc=>?_) (fun _=>hr)
  have hlt:k<i:=of_decide_eq_true hc
  have hkl:k<P.length:=by omega
  rw[JO,FD,ay hkl,Option.bind_some,ay hi,Option.bind_some]
  refine au (aTG h _ _ (hP _ (List.getElem_mem hkl)) (hP _ (List.getElem_mem hi))) (fun _ _=>aj (fun _=>ak _) (fun _=>?_))
  rw[JN,aT (show k<9223372036854775807 by omega)]
  exact ay1 h rec2 P hP hPl d i hi hr M (k+1) (by omega) (by omega)
theorem aDC {m:Nat} (h:Mf m) (d:Dt) (hb:d.bulk≤2000000) (ht:HasTy Tryz.prog 45 d):∀(M i:Nat),i≤(SH d).length→(SH d).length-i<M→Som (nI m M (SH d) (i:Int) d)
 |0,i,_,h=>by omega
 |M+1,i,hi,hM=>by
  have l1:=aO d 1
  have l3:=aO d 3
  have l4:=aO d 4
  have hpl:=aty d
  have hlo:=h.lo
  rw[nI,dlt]
  refine aj (fun hc=>?_) (fun _=>ak _)
  have hlt:i<(SH d).length:=of_decide_eq_true hc
  have hP:∀e∈SH d,e.toLst.length≤10000000:=fun e he=>aww (by omega) he
  have j4:∀b,Som (BG m (nI m M) (SH d) (i:Int) b d):=fun b=>by
   rw[BG]
   refine aj (fun _=>ak _) (fun _=>?_)
   exact ay1 h _ (SH d) hP (by omega) d i hlt (aMh h _ (SH d) d hb ht i (by omega) (aDC h d hb ht M (i+1) (by omega) (by omega))) (m+1) 0 (Nat.zero_le _) (by omega)
  rw[JQ,FI,ay hlt,Option.bind_some,v04 h,Option.bind_some]
  refine aj (fun _=>j4 _) (fun hv=>?_)
  have hne:0<((SH d)[i]).toLst.length:=aDy (by simpa using hv)
  have e0:idx ((SH d)[i]).toLst 0=some ((SH d)[i]).toLst[0]:=ay hne
  rw[Option.bind_some,e0,Option.bind_some]
  exact j4 _
theorem aTL {m:Nat} (h:Mf m) {d:Dt} (hb:d.bulk≤2000000) (ht:HasTy Tryz.prog 45 d):Som (vY (m+1) d):=by
 have hlo:=h.lo
 have l1:=aO d 1
 have l3:=aO d 3
 have l4:=aO d 4
 have hpl:=aty d
 have hp:qY m d=some (SH d):=by
  obtain⟨q,rfl⟩:∃q,m=q+1:=⟨m-1,by omega⟩
  exact aDU q d (by omega) (by omega)
 rw[vY,hp,Option.bind_some]
 refine aj (fun _=>ak _) (fun _=>?_)
 exact aDC h d hb ht (m+1) 0 (Nat.zero_le _) (by omega)
theorem aDD {m:Nat} (self:Dt→Bool→Option Int) (d:Dt) (hl:(Dt.L d 8).length≤10000000) (x0:Bool) (hs:∀e∈Dt.L d 8,∀b,Som (self e b)):∀(M i:Nat),i≤(Dt.L d 8).length→(Dt.L d 8).length-i<M→Som (gu m self M x0 (i:Int) d)
 |0,i,_,h=>by omega
 |M+1,i,hi,hM=>by
  rw[gu,dlt]
  refine aj (fun hc=>?_) (fun _=>ak _)
  have hlt:i<(Dt.L d 8).length:=of_decide_eq_true hc
  have j17:∀n,Som (qJ m self (gu m self M) x0 (i:Int) n d):=fun n=>by
   rw[qJ,Bq,aT (show i<9223372036854775807 by omega)]
   exact aj (fun _=>ak _) (fun _=>aDD self d hl x0 hs M (i+1) (by omega) (by omega))
  rw[Br,yI,ay hlt,Option.bind_some]
  exact aj (fun _=>au (hs _ (List.getElem_mem hlt) _) fun _ _=>j17 _) (fun _=>au (hs _ (List.getElem_mem hlt) _) fun _ _=>j17 _)
theorem aDE {m:Nat} (self:Dt→Bool→Option Int) (d:Dt) (hl:(Dt.L d 3).length≤10000000) (x0:Bool) (hA:Som (bX m (Dt.I d 0))) (hv:∀e∈Dt.L d 3,Som (dJ m e)) (hend:Som (nH m self x0 d)):∀(M i:Nat),i≤(Dt.L d 3).length→(Dt.L d 3).length-i<M→Som (mF m self M x0 (i:Int) d)
 |0,i,_,h=>by omega
 |M+1,i,hi,hM=>by
  rw[mF,Bt,dlt]
  refine aj (fun hc=>au hA fun _ _=>aj (fun _=>?_) (fun _=>hend)) (fun _=>hend)
  have hlt:i<(Dt.L d 3).length:=of_decide_eq_true hc
  rw[D5,ay hlt,Option.bind_some]
  refine au (hv _ (List.getElem_mem hlt)) (fun _ _=>aj (fun _=>ak _) (fun _=>?_))
  rw[DZ,aT (show i<9223372036854775807 by omega)]
  exact aDE self d hl x0 hA hv hend M (i+1) (by omega) (by omega)
theorem aDF:∀(N:Nat) (d:Dt),d.bulk≤N→N≤2000000→HasTy Tryz.prog 39 d→∀m,100000000+2*N≤m→m<800000000000→∀b,Som (aN (m+1) d b)
 |0,d,h,_,_,_,_,_,_=>by have:=bQ d;omega
 |N+    1,d,hd,hN,ht,m,hm,hm2,b=>by
  have h:Mf m:=⟨by omega,hm2⟩
  have l3:=aO d 3
  have l8:=aO d 8
  have f2:=aA d 2
  have f6:=aA d 6
  have f7:=aA d 7
  have e7:Som (aV m (Dt.fld d 7)):=v08 h (by omega) (aeE ht)
  have e2:Som (dJ m (Dt.fld d 2)):=v01 h (by omega) (aeC ht)
  have e3:∀e∈Dt.L d 3,Som (dJ m e):=fun e he=>v01 h (by have:=bA he;omega) (aeD ht e he)
  have e6:Som (iG m (Dt.fld d 6)):=g10 h _ (by omega)
  have e4:Som (bG m (Dt.L d 1)):=Ab (v04 h _)
  obtain⟨q,rfl⟩:∃q,m=q+4:=⟨m-4,by omega⟩
  have sOn:=SF (q+3) (Dt.I d 0)
  have sArg:=SG (q+2) (Dt.I d 0)
  have sTxt:=QD (q+3) (Dt.I d 0)
  have sArgs:=QC (q+3) (Dt.I d 0)
  have sKids:=arf (q+3) d
  have sNum:=ajC (q+3) d
  have sUn:=alh q d
  have hk:=aDD (m:=q+4) (aN (q+4)) d (by omega) b (fun e he c=>aDF N e (by have:=bA he;omega) (by omega) (aeF ht e he) (q+3) (by omega) (by omega) c) (q+5) 0 (Nat.zero_le _) (by omega)
  have j10:Som (nH (q+4) (aN (q+4)) b d):=by
   have j11:Som (qK (q+4) (aN (q+4)) b d):=by
        rw[qK,vU]
        refine au sUn (fun _ _=>aj (fun _=>ak _) (fun _=>aj (fun _=>au e7 fun _ _=>ak _) (fun _=>?_)))
        exact hk
   rw[nH,yJ]
   exact aj (fun _=>au e6 fun _ _=>aj (fun _=>ak _) (fun _=>j11)) (fun _=>j11)
  have j4:∀x,Som (yj (q+4) (aN (q+4)) b x d):=fun x=>by
   rw[yj]
   refine aj (fun _=>ak _) (fun _=>?_)
   exact aDE (m:=q+4) (aN (q+4)) d (by omega) b sArgs e3 j10 (q+5) 0 (Nat.zero_le _) (by omega)
  have j3:Som (uD (q+4) (aN (q+4)) b d):=by
   rw[uD,Bu]
   repeat' (first|exact j4 _|refine aj (fun _=>?_) (fun _=>?_)|refine au sArg (fun _ _=>?_)|refine au e2 (fun _ _=>?_)|refine au sTxt (fun _ _=>?_))
  have j2:∀x,Som (yt (q+4) (aN (q+4)) b x d):=fun x=>by
   rw[yt]
   exact aj (fun _=>ak _) (fun _=>j3)
  have j0:∀x,Som (uE (q+4) (aN (q+4)) b x d):=fun x=>by
   rw[uE,yu,Bv]
   repeat' (first|exact j2 _|exact ak _|refine aj (fun _=>?_) (fun _=>?_)|refine au sOn (fun _ _=>?_)|refine au e4 (fun _ _=>?_))
  rw[aN,K7]
  repeat' (first|exact j0 _|refine aj (fun _=>?_) (fun _=>?_)|refine au sKids (fun _ _=>?_)|refine au sArgs (fun _ _=>?_)|refine au sNum (fun _ _=>?_))
theorem aTM {m:Nat} (hm:200000000≤m) (hm2:m<800000000000) {d:Dt} (hb:d.bulk≤2000000) (ht:HasTy Tryz.prog 39 d):Som (mG (m+1) d):=by
 obtain⟨q,rfl⟩:∃q,m=q+1:=⟨m-1,by omega⟩
 rw[mG,vV]
 exact au (aqb 2000000 d hb (by omega) q (by omega) _ _) fun _ _=>aj (fun _=>ak _) (fun _=>au (aDF 2000000 d hb (by omega) ht q (by omega) (by omega) _) fun _ _=>ak _)
theorem aDG {m:Nat} (h:Mf m) {d:Dt} (hs:∀b,Som (aF m (Dt.L (Dt.fld d 12) 4) b)):Som (gY (m+1) d):=by
 have e1:∀l,Som (bG m l):=fun l=>Ab (v04 h l)
 have j2:Som (tQ m (aF m) (Dt.fld d 12)):=by
  rw[tQ]
  exact au (hs _) fun _ _=>ak _
 have j1:∀b,Som (yQ m (aF m) b (Dt.fld d 12)):=fun b=>by
  rw[yQ]
  exact aj (fun _=>ak _) (fun _=>j2)
 have j4:∀b,Som (yS m (aF m) b (Dt.fld d 12)):=fun b=>by
  rw[yS,Gc,yR]
  exact aj (fun _=>ak _) (fun _=>au (o31 h _) fun _ _=>aj (fun _=>ak _) (fun _=>au (hs _) fun _ _=>ak _))
 rw[gY,Gf,Du,Gd,Dr]
 refine au (n01 h _) (fun _ _=>aj (fun _=>ak _) (fun _=>?_))
 repeat' (first|exact j1 _|exact j4 _|refine aj (fun _=>?_) (fun _=>?_)|refine au (e1 _) (fun _ _=>?_))
theorem ap2 {m:Nat} (self:List Dt→Bool→Option Int) (rec3:List Dt→Int→Option Int) (l:List Dt) (i:Nat) (hi:i<l.length) (hll:l.length≤10000000) (hA:Som (self (Dt.L l[i] 1) false)) (hr:Som (rec3 l ((i+1:Nat):Int))):∀(M k:Nat) (b:Bool),k≤i→i-k<M→Som (kK m self rec3 M l (i:Int) b (k:Int))
 |0,k,_,_,h=>by omega
 |M+    1,k,b,hk,hM=>by
  rw[kK,dlt]
  refine aj (fun hc=>?_) (fun _=>?_)
  ·have hlt:k<i:=of_decide_eq_true hc
   have ih:∀b,Som (yT m self rec3 (kK m self rec3 M) l (i:Int) b (k:Int)):=fun b=>by
        rw[yT,aT (show k<9223372036854775807 by omega)]
        exact ap2 self rec3 l i hi hll hA hr M (k+1) b (by omega) (by omega)
   rw[Gg,Dv,ay hi,ay (show k<l.length by omega)]
   exact aj (fun _=>ih _) (fun _=>ih _)
  ·rw[Gh,Dx,ay hi,Option.bind_some]
   refine aj (fun _=>ak _) (fun _=>au hA (fun _ _=>aj (fun _=>ak _) (fun _=>?_)))
   rw[Dw,aT (show i<9223372036854775807 by omega)]
   exact hr
theorem atb {m:Nat} (h:Mf m) (self:List Dt→Bool→Option Int) (l:List Dt) (hll:l.length≤10000000) (hs:∀f∈l,Som (self (Dt.L f 1) false)):∀(M i:Nat),i≤l.length→l.length-i<M→Som (oF m self M l (i:Int))
 |0,i,_,h=>by omega
 |M+1,i,hi,hM=>by
  have hlo:=h.lo
  rw[oF,dlt]
  refine aj (fun hc=>?_) (fun _=>ak _)
  have hlt:i<l.length:=of_decide_eq_true hc
  rw[Gi,ay hlt,Option.bind_some]
  refine au (o31 h _) (fun b _=>?_)
  exact ap2 self _ l i hlt hll (hs _ (List.getElem_mem hlt)) (atb h self l hll hs M (i+1) (by omega) (by omega)) (m+1) 0 b (Nat.zero_le _) (by omega)
theorem aDH {m:Nat} (h:Mf m) (l:List Dt) (hll:l.length≤10000000) (hs:∀f∈l,Som (aF m (Dt.L f 1) false)):Som (gZ (m+1) l):=by
 have hlo:=h.lo
 have j0:∀b,Som (yU m (aF m) l b):=fun b=>by
  rw[yU]
  refine aj (fun _=>ak _) (fun _=>?_)
  exact atb h (aF m) l hll hs (m+1) 0 (Nat.zero_le _) (by omega)
 rw[gZ,Nl]
 exact aj (fun _=>j0 _) (fun _=>j0 _)
theorem aMi {m:Nat} (hm:300000000≤m) (hm2:m<700000000000) {d:Dt} (hb:d.bulk≤2000000) (ht:HasTy Tryz.prog 71 d) (hs:∀l,Dt.bulkL l<d.bulk→(∀e∈l,HasTy Tryz.prog 71 e)→∀b,Som (aF m l b)):Som (dR (m+2) d):=by
 have h0:Mf m:=⟨by omega,by omega⟩
 have h1:Mf (m+1):=⟨by omega,by omega⟩
 have f1:=aA d 1
 have f2:=aA d 2
 have f10:=aA d 10
 have f11:=aA d 11
 have f12:=aA d 12
 have f15:=aA d 15
 have l3:=aO d 3
 have l13:=aO d 13
 have b12:=acB (Dt.fld d 12) 4
 have e1:Som (mG (m+1) (Dt.fld d 1)):=aTM (by omega) (by omega) (by omega) (OL ht)
 have e2:Som (vY (m+1) (Dt.fld d 2)):=aTL h0 (by omega) (OM ht)
 have e3:Som (vZ (m+1) (Dt.L d 3)):=by
  by_cases hl:(Dt.L d 3).length≤1000000
  ·exact aTJ h0 _ (fun e he=>by have:=bA he;omega) hl (ahM ht)
  ·rw[vZ,K8,decide_eq_false (show ¬(((Dt.L d 3).length:Nat):Int)<1 by omega),cond_false,decide_eq_true (show (32:Int)<(((Dt.L d 3).length:Nat):Int) by omega)]
   exact ak _
 have e4:Som (wh (m+1) (Dt.fld d 10)):=by
  obtain⟨q,rfl⟩:∃q,m=q+1:=⟨m-1,by omega⟩
  exact aMf (m:=q) ⟨by omega,by omega⟩ ⟨by omega,by omega⟩ (by omega) (aaM ht)
 have e5:Som (oN (m+1) (Dt.fld d 11)):=w31 h1 (by omega) (aaN ht)
 have e6:Som (gY (m+1) d):=aDG h0 (hs _ (by omega) (aaL (aaO ht)))
 have e7:Som (gZ (m+1) (Dt.L d 13)):=aDH h0 _ (by omega) fun f hf=>hs _ (by have:=acB f 1;have:=bA hf;omega) (ahL (aaP ht f hf)) _
 have e8:Som (rZ (m+1) d):=aDB h0 hb ht
 have e9:Som (zy (m+1) d):=aTK h0 hb
 have e10:Som (vJ (m+1) (Dt.fld d 15)):=aMg h0 _ (by omega)
 have e11:Som (oM (m+1) d):=aDz h0 hb ht
 have j0:∀n b,Som (BI (m+1) (gY (m+1)) (gZ (m+1)) n b d):=fun n b=>by
  rw[BI,Gb,J5]
  repeat' (first|exact ak _|refine aj (fun _=>?_) (fun _=>?_)|refine au e6 (fun _ _=>?_)|refine au e7 (fun _ _=>?_)|refine au e8 (fun _ _=>?_)|refine au e9 (fun _ _=>?_)|refine au e10 (fun _ _=>?_)|refine au e11 (fun _ _=>?_))
 rw[dR,Qo]
 repeat' (first|exact ak _|exact j0 _ _|refine aj (fun _=>?_) (fun _=>?_)|refine au e1 (fun _ _=>?_)|refine au e2 (fun _ _=>?_)|refine au e3 (fun _ _=>?_)|refine au e4 (fun _ _=>?_)|refine au e5 (fun _ _=>?_))
theorem ap3 {m:Nat} (hm:100000002≤m) (hm2:m<800000000000) (self:Dt→Option Int) (l:List Dt) (hl:l.length≤10000000) (hs:∀e∈l,Som (self e)) (x1:Bool):∀(M i:Nat),i≤l.length→l.length-i<M→Som (kJ m self M l x1 (i:Int))
 |0,i,_,h=>by omega
 |M+1,i,hi,hM=>by
  rw[kJ,dlt]
  refine aj (fun hc=>?_) (fun _=>ak _)
  have hlt:i<l.length:=of_decide_eq_true hc
  have j3:∀b,Som (yP m self (kJ m self M) l x1 (i:Int) b l[i]):=fun b=>by
   rw[yP,F9,F8,aT (show i<9223372036854775807 by omega)]
   exact aj (fun _=>ak _) (fun _=>au (hs _ (List.getElem_mem hlt)) fun _ _=>aj (fun _=>ak _) (fun _=>ap3 hm hm2 self l hl hs x1 M (i+1) (by omega) (by omega)))
  have ex:Som (qX m l[i]):=by
   obtain⟨q,rfl⟩:∃q,m=q+2:=⟨m-2,by omega⟩
   exact aMe (m:=q) ⟨by omega,by omega⟩ _
  rw[Ga,Dq,ay hlt,Option.bind_some]
  repeat' (first|exact j3 _|refine aj (fun _=>?_) (fun _=>?_)|refine au ex (fun _ _=>?_))
theorem atc:∀(N:Nat) (l:List Dt),Dt.bulkL l≤N→N≤2000000→(∀e∈l,HasTy Tryz.prog 71 e)→∀m,300000010+4*N≤m→m<700000000000→∀b,Som (aF (m+1) l b)
 |N,l,hl,hN,ht,m,hm,hm2,b=>by
  have hll:=gK l
  refine ap3 (m:=m) (by omega) (by omega) (dR m) l (by omega) (fun e he=>?_) b (m+1) 0 (Nat.zero_le _) (by omega)
  have hb:=oP he
  obtain⟨q,rfl⟩:∃q,m=q+3:=⟨m-3,by omega⟩
  refine aMi (m:=q+1) (by omega) (by omega) (by omega) (ht e he) (fun k hk hkt c=>?_)
  cases N with
  |zero=>have:=bQ e;omega
  |succ N=>exact atc N k (by omega) (by omega) hkt q (by omega) (by omega) c
theorem aBj (l:List Dt) (hb:Dt.bulkL l≤1048576) (ht:∀e∈l,HasTy Tryz.prog 71 e) (m:Nat) (hm:400000000≤m) (hm2:m<600000000000):Som (rJ (m+1) l):=by
 have h1:Som (bB m l 1):=by
  have hb':Dt.bulkL l≤1000000∨1000000<Dt.bulkL l:=by omega
  obtain⟨q,rfl⟩:∃q,m=q+1:=⟨m-1,by omega⟩
  exact aqd 2000000 l (by omega) (by omega) q (by omega) _
 obtain⟨q,rfl⟩:∃q,m=q+1:=⟨m-1,by omega⟩
 rw[rJ,BJ]
 exact au h1 fun _ _=>aj (fun _=>ak _) (fun _=>au (atc 2000000 l (by omega) (by omega) ht q (by omega) (by omega) _) fun _ _=>ak _)
end Go.Proofs.YtjnkagkoolbodaaGreatDoor
