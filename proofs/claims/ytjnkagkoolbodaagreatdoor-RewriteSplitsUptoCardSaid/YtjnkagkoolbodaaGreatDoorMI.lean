/- Validity of a stage's parts: these functions end.
Validity of pipelines:the function ends. -/
import Derived.Test.YtjnkagkoolbodaaGreatDoorMH
import Derived.Test.YtjnkagkoolbodaaGreatDoorME
import Derived.Test.YtjnkagkoolbodaaGreatDoorMD
set_option linter.unusedVariables false
set_option linter.unusedSimpArgs false
namespace Go.Proofs.YtjnkagkoolbodaaGreatDoor
open Go.Am
structure Mf (m:Nat):Prop where
 lo:100000000≤m
 hi:m<800000000000
section
variable {m:Nat} (h:Mf m)
include h
theorem v04 (l:List Dt):zC m l=some (vld l):=by
 have:=h.lo
 obtain⟨q,rfl⟩:∃q,m=q+1:=⟨m-1,by omega⟩
 exact ku q (by omega) l
omit h in
theorem aan {l:List Dt} (h:vld l=true):0<l.length:=by
 unfold vld at h
 simp only[Bool.and_eq_true,decide_eq_true_eq] at h
 omega
theorem n01 (s:ByteArray):Som (zE m s):=by
 have:=h.lo
 obtain⟨q,rfl⟩:∃q,m=q+1:=⟨m-1,by omega⟩
 exact dZ (lS q (by omega) s)
theorem o31 (s:ByteArray):Som (yV m s):=by
 have:=h.lo
 obtain⟨q,rfl⟩:∃q,m=q+2:=⟨m-2,by omega⟩
 exact dZ (Tm q (by omega) s)
theorem z31 (d:Dt):Som (yS m d):=by
 have:=h.lo
 obtain⟨q,rfl⟩:∃q,m=q+4:=⟨m-4,by omega⟩
 exact dZ (H9 q d)
theorem v12 (l:List Dt):Som (zG m l):=by
 have:=h.lo
 have:=h.hi
 obtain⟨q,rfl⟩:∃q,m=q+2:=⟨m-2,by omega⟩
 exact dZ (Tk q (by omega) (by omega) l)
theorem v08 {d:Dt} (hb:d.bulk≤2000000) (ht:HasTy Tryz.prog 36 d):Som (yG m d):=by
 have:=h.lo
 have:=h.hi
 obtain⟨q,rfl⟩:∃q,m=q+23:=⟨m-23,by omega⟩
 exact dZ (vW 2000000 (by omega) q (by omega) (by omega) d (Tf d.bulk d (Nat.le_refl _) ht) hb)
theorem v01 {d:Dt} (hb:d.bulk≤2000000) (ht:HasTy Tryz.prog 30 d):Som (y3 m d):=by
 have:=h.lo
 have:=h.hi
 obtain⟨q,rfl⟩:∃q,m=q+4:=⟨m-4,by omega⟩
 exact dZ (Fg (OC ht) q (by omega) (by omega) (by omega))
theorem c01 (a b:Dt) (hb:a.bulk≤2000000):Som (qD m a b):=by
 have:=h.lo
 have:=h.hi
 obtain⟨q,rfl⟩:∃q,m=q+3:=⟨m-3,by omega⟩
 exact dZ (ays a b q (by omega) (by omega))
theorem w31 {d:Dt} (hb:d.bulk≤2000000) (ht:HasTy Tryz.prog 64 d):Som (qM m d):=by
 have:=h.lo
 have:=h.hi
 obtain⟨q,rfl⟩:∃q,m=q+30:=⟨m-30,by omega⟩
 refine dZ (aqn (B:=2000000) (by omega) (.mk ?_ fun o ho=>?_) hb q (by omega) (by omega))
 ·exact Tf _ _ (Nat.le_refl _) (oF ht)
 ·exact Tf _ _ (Nat.le_refl _) (IK (oG ht o ho))
theorem g10 (d:Dt) (hb:d.bulk≤2000000):Som (zB m d):=by
 have:=h.lo
 have:=aD d 1
 obtain⟨q,rfl⟩:∃q,m=q+3:=⟨m-3,by omega⟩
 exact aFV q d (by omega) (by omega)
theorem ayc (a b:List Dt) (ha:a.length≤10000000) (hb:b.length≤10000000):Som (y7 m a b):=by
 have:=h.lo
 obtain⟨q,rfl⟩:∃q,m=q+2:=⟨m-2,by omega⟩
 exact Xp q a b (by omega) (by omega) (by omega) (by omega)
end
theorem aao {m:Nat} (h:Mf m) {d:Dt} (hb:d.bulk≤2000000) (ht:HasTy Tryz.prog 71 d):Som (z6 (m+1) d):=by
 have e9:Som (yG m (Dt.fld d 9)):=v08 h (by have:=aB d 9;omega) (lV ht)
 have e4:=v12 h (Dt.L d 4)
 have e7:=o31 h (Dt.S d 7)
 have e6:Som (zC m (Dt.L d 6)):=dZ (v04 h _)
 simp only[z6,ajH,CJ,V3,ajI,V4]
 repeat' (first|exact au _|refine aj (fun _=>?_) (fun _=>?_)|refine ay e9 (fun _ _=>?_)|refine ay e4 (fun _ _=>?_)|refine ay e7 (fun _ _=>?_)|refine ay e6 (fun _ _=>?_))
theorem ayd {m:Nat} (h:Mf m) (d:Dt):Som (y8 (m+1) d):=by
 rw[y8]
 exact ay (z31 h _) fun _ _=>aj (fun _=>au _) (fun _=>au _)
theorem aye {m:Nat} (h:Mf m) (d:Dt):Som (yU (m+1) d):=by
 rw[yU]
 exact ay (z31 h _) fun _ _=>aj (fun _=>aj (fun _=>au _) (fun _=>au _)) (fun _=>au _)
section
variable {m:Nat} (h:Mf m) (d:Dt)
include h
theorem aFB:Som (Vx (m+1) d):=by
 have:=h.lo
 have e1:=aFM m (Dt.fld d 15)
 have e2:Som (qH (m+1) (Dt.fld d 16) aqO):=aaP m _
 rw[Vx]
 repeat' (first|exact au _|refine aj (fun _=>?_) (fun _=>?_)|refine ay e1 (fun _ _=>?_)|refine ay e2 (fun _ _=>?_))
theorem aFC (b:Bool):Som (bX (m+1) b d):=by
 rw[bX]
 exact aj (fun _=>au _) (fun _=>aFB h d)
theorem aFD:Som (Vy (m+1) d):=by
 have hm:Mf (m+1)→True:=fun _=>trivial
 have e1:∀n (l:List Dt),l.length≤10→Som (zS (m+1) n l):=fun n l hl=>aBq m n l (by have:=h.lo;omega) (by omega)
 have e2:Som (yS (m+1) (Dt.fld d 9)):=by
  have:=h.lo
  obtain⟨q,rfl⟩:∃q,m=q+3:=⟨m-3,by omega⟩
  exact dZ (H9 q _)
 have e3:=ayd h (Dt.fld d 10)
 have e4:=aye h (Dt.fld d 11)
 have e5:=aFL m (Dt.fld d 12)
 rw[Vy]
 repeat' (first|exact aFC h d _|refine aj (fun _=>?_) (fun _=>?_)|refine ay e2 (fun _ _=>?_)|refine ay e3 (fun _ _=>?_)|refine ay e4 (fun _ _=>?_)|refine ay e5 (fun _ _=>?_)|refine ay (e1 _ _ (by simp)) (fun _ _=>?_))
theorem aFE (b:Bool):Som (bY (m+1) b d):=by
 rw[bY]
 exact aj (fun _=>au _) (fun _=>aFD h d)
theorem ext1:Som (Vz (m+1) d):=by
 have e1:∀n (l:List Dt),l.length≤10→Som (zS (m+1) n l):=fun n l hl=>aBq m n l (by have:=h.lo;omega) (by omega)
 rw[Vz]
 repeat' (first|exact aFE h d _|refine aj (fun _=>?_) (fun _=>?_)|refine ay (e1 _ _ (by simp)) (fun _ _=>?_))
theorem aFF (b:Bool):Som (bZ (m+1) b d):=by
 rw[bZ]
 exact aj (fun _=>au _) (fun _=>ext1 h d)
theorem aqu:Som (qO (m+2) d):=by
 have e1:Som (qU (m+1) (Dt.fld d 1) Qp):=by
  have:=h.lo
  obtain⟨q,rfl⟩:∃q,m=q+4:=⟨m-4,by omega⟩
  exact aBt q _
 have e2:Som (qB (m+1) (Dt.fld d 2) aaO):=by
  have:=h.lo
  obtain⟨q,rfl⟩:∃q,m=q+3:=⟨m-3,by omega⟩
  exact aBu q _
 rw[qO]
 repeat' (first|exact aFF h d _|refine aj (fun _=>?_) (fun _=>?_)|refine ay e1 (fun _ _=>?_)|refine ay e2 (fun _ _=>?_))
end
theorem Tz {m:Nat} (h:Mf m) (rec3:List Dt→Int→Option Int) (l:List Dt) (hl:∀e∈l,e.bulk≤2000000) (i:Nat) (hi:i<l.length) (hll:l.length≤1000000) (hE:Som (yG m (Dt.fld l[i] 1))) (hr:Som (rec3 l ((i+1:Nat):Int))):∀(M k:Nat),k≤i→i-k<M→Som (Hg m rec3 M l (i:Int) (k:Int))
 |0,k,_,h=>by omega
 |M+1,k,hk,hM=>by
  rw[Hg,dlt]
  refine aj (fun hc=>?_) (fun _=>?_)
  ·have hlt:k<i:=of_decide_eq_true hc
   have hkl:k<l.length:=by omega
   have b1:=hl _ (List.getElem_mem hi)
   have b2:=hl _ (List.getElem_mem hkl)
   have l1:=aD l[i] 0
   have l2:=aD l[k] 0
   rw[ajz,aA hi,Option.bind_some,aA hkl,Option.bind_some]
   refine ay (ayc h _ _ (by omega) (by omega)) (fun _ _=>aj (fun _=>au _) (fun _=>?_))
   rw[Rw,aF (show k<9223372036854775807 by omega)]
   exact Tz h rec3 l hl i hi hll hE hr M (k+1) (by omega) (by omega)
  ·rw[Ry,aA hi,Option.bind_some]
   refine ay hE (fun _ _=>aj (fun _=>au _) (fun _=>?_))
   rw[Rx,aF (show i<9223372036854775807 by omega)]
   exact hr
theorem aap {m:Nat} (h:Mf m) (l:List Dt) (hl:∀e∈l,e.bulk≤2000000) (hll:l.length≤1000000) (ht:∀e∈l,HasTy Tryz.prog 110 e):∀(M i:Nat),i≤l.length→l.length-i<M→Som (Hl m M l (i:Int))
 |0,i,_,h=>by omega
 |M+1,i,hi,hM=>by
  rw[Hl,dlt]
  refine aj (fun hc=>?_) (fun _=>au _)
  have hlt:i<l.length:=of_decide_eq_true hc
  have b1:=hl _ (List.getElem_mem hlt)
  have hE:Som (yG m (Dt.fld l[i] 1)):=v08 h (by have:=aB l[i] 1;omega) (fQ (ht _ (List.getElem_mem hlt)))
  rw[ajB,aA hlt,Option.bind_some,v04 h,Option.bind_some]
  refine aj (fun _=>au _) (fun hv=>?_)
  have hne:0<(Dt.L l[i] 0).length:=aan (by simpa using hv)
  have e0:idx (Dt.L l[i] 0) 0=some (Dt.L l[i] 0)[0]:=aA hne
  rw[ajA,aA hlt,Option.bind_some,e0,Option.bind_some]
  refine aj (fun _=>au _) (fun _=>?_)
  have hlo:=h.lo
  exact Tz h _ l hl i hlt hll hE (aap h l hl hll ht M (i+1) (by omega) (by omega)) (m+1) 0 (Nat.zero_le _) (by omega)
theorem ayf {m:Nat} (h:Mf m) (l:List Dt) (hl:∀e∈l,e.bulk≤2000000) (hll:l.length≤1000000) (ht:∀e∈l,HasTy Tryz.prog 110 e):Som (zH (m+1) l):=by
 have j0:∀b,Som (Oh m l b):=fun b=>by
  rw[Oh]
  refine aj (fun _=>au _) (fun _=>?_)
  have hlo:=h.lo
  exact aap h l hl hll ht (m+1) 0 (Nat.zero_le _) (by omega)
 rw[zH]
 exact aj (fun _=>j0 _) (fun _=>j0 _)
theorem aA2 {m:Nat} (h:Mf m) {d:Dt} (hb:d.bulk≤2000000) (ht:HasTy Tryz.prog 114 d):Som (zZ (m+1) d):=by
 have e2:Som (yG m (Dt.fld d 2)):=v08 h (by have:=aB d 2;omega) (IJ ht)
 have e3:=v12 h (Dt.L d 3)
 have e4:=z31 h (Dt.fld d 2)
 have j4:Som (Ol m d):=by
  simp only[Ol,ajR,Oj,ajQ]
  repeat' (first|exact au _|refine aj (fun _=>?_) (fun _=>?_)|refine ay e3 (fun _ _=>?_))
 have j2:∀b,Som (nP m b d):=fun b=>by
  rw[nP,ajS]
  repeat' (first|exact j4|exact au _|refine aj (fun _=>?_) (fun _=>?_)|refine ay e2 (fun _ _=>?_))
 have j0:∀b,Som (Om m b d):=fun b=>by
  rw[Om,ajT]
  repeat' (first|exact j2 _|exact au _|refine aj (fun _=>?_) (fun _=>?_)|refine ay e4 (fun _ _=>?_))
 rw[zZ]
 exact aj (fun _=>j0 _) (fun _=>j0 _)
theorem JH {m:Nat} (rec3:Int→Dt→Option Int) (d:Dt) (i:Nat) (hi:i<(Dt.L d 1).length) (hll:(Dt.L d 1).length≤10000000) (hA:Som (zZ m (Dt.L d 1)[i])) (hr:Som (rec3 ((i+1:Nat):Int) d)):∀(M k:Nat) (b:Bool),k≤i→i-k<M→Som (CS m rec3 M (i:Int) b (k:Int) d)
 |0,k,_,_,h=>by omega
 |M+    1,k,b,hk,hM=>by
  rw[CS,dlt]
  refine aj (fun hc=>?_) (fun _=>?_)
  ·have hlt:k<i:=of_decide_eq_true hc
   have ih:∀b,Som (Oo m rec3 (CS m rec3 M) (i:Int) b (k:Int) d):=fun b=>by
        rw[Oo,aF (show k<9223372036854775807 by omega)]
        exact JH rec3 d i hi hll hA hr M (k+1) b (by omega) (by omega)
   rw[ajU,aA hi,aA (show k<(Dt.L d 1).length by omega)]
   exact aj (fun _=>ih _) (fun _=>ih _)
  ·rw[ajV,RH,aA hi,Option.bind_some]
   refine aj (fun _=>au _) (fun _=>ay hA (fun _ _=>aj (fun _=>au _) (fun _=>?_)))
   rw[RG,aF (show i<9223372036854775807 by omega)]
   exact hr
theorem JJ {m:Nat} (h:Mf m) (h':Mf (m+1)) (d:Dt) (hb:d.bulk≤2000000) (ht:HasTy Tryz.prog 61 d):∀(M i:Nat),i≤(Dt.L d 1).length→(Dt.L d 1).length-i<M→Som (Hq (m+1) M (i:Int) d)
 |0,i,_,h=>by omega
 |M+1,i,hi,hM=>by
  have hl:=aD d 1
  rw[Hq,dlt]
  refine aj (fun hc=>?_) (fun _=>au _)
  have hlt:i<(Dt.L d 1).length:=of_decide_eq_true hc
  have hm:=aL (List.getElem_mem hlt)
  rw[ajW,aA hlt,Option.bind_some]
  refine ay (o31 h' _) (fun b _=>?_)
  have hlo:=h.lo
  exact JH _ d i hlt (by omega) (aA2 h (by omega) (sP ht _ (List.getElem_mem hlt))) (JJ h h' d hb ht M (i+1) (by omega) (by omega)) (m+2) 0 b (Nat.zero_le _) (by omega)
theorem aqv {m:Nat} (h:Mf m) (h':Mf (m+1)) {d:Dt} (hb:d.bulk≤2000000) (ht:HasTy Tryz.prog 61 d):Som (zD (m+2) d):=by
 have hl:=aD d 1
 have f0:=aB d 0
 have hlo:=h.lo
 rw[zD]
 refine ay (v08 h' (by omega) (sO ht)) (fun _ _=>aj (fun _=>au _) (fun _=>?_))
 rw[ajY]
 refine aj (fun _=>au _) (fun _=>?_)
 exact JJ h h' d hb ht (m+2) 0 (Nat.zero_le _) (by omega)
theorem JK {m:Nat} (h:Mf m) (d:Dt) (hb:d.bulk≤2000000) (ht:∀e∈Dt.L d 14,HasTy Tryz.prog 30 e):∀(M i:Nat),i≤(Dt.L d 14).length→(Dt.L d 14).length-i<M→Som (CG m M (i:Int) d)
 |0,i,_,h=>by omega
 |M+1,i,hi,hM=>by
  have hl:=aD d 14
  rw[CG,dlt]
  refine aj (fun hc=>?_) (fun _=>au _)
  have hlt:i<(Dt.L d 14).length:=of_decide_eq_true hc
  have hm:=aL (List.getElem_mem hlt)
  have j6:∀b,Som (Oi m (CG m M) (i:Int) b d):=fun b=>by
   rw[Oi,ajD,aF (show i<9223372036854775807 by omega)]
   exact aj (fun _=>au _) (fun _=>JK h d hb ht M (i+1) (by omega) (by omega))
  rw[ajF,aA hlt,Option.bind_some]
  refine ay (v01 h (by omega) (ht _ (List.getElem_mem hlt))) (fun _ _=>aj (fun _=>au _) (fun _=>?_))
  rw[ajE]
  refine aj (fun h0=>?_) (fun _=>j6 _)
  have hp:0<i:=by have:=of_decide_eq_true h0;omega
  have hw:IntKind.wrap IntKind.i64 ((i:Int)-1)=((i-1:Nat):Int):=by rw[wrap64 (by omega) (by omega)];omega
  have hlt':i-1<(Dt.L d 14).length:=by omega
  have hm':=aL (List.getElem_mem hlt')
  rw[hw,aA hlt',Option.bind_some,aA hlt,Option.bind_some]
  exact ay (c01 h _ _ (by omega)) (fun _ _=>j6 _)
theorem aaq {m:Nat} (h:Mf m) {d:Dt} (hb:d.bulk≤2000000) (ht:HasTy Tryz.prog 71 d):Som (zO (m+1) d):=by
 have hl:=aD d 14
 have f9:=aB d 9
 have hlo:=h.lo
 rw[zO]
 refine ay (v08 h (by omega) (lV ht)) (fun _ _=>aj (fun _=>au _) (fun _=>?_))
 rw[ajG]
 refine aj (fun _=>au _) (fun _=>?_)
 exact JK h d hb (oM ht) (m+1) 0 (Nat.zero_le _) (by omega)
theorem ayg {m:Nat} (h:Mf m) {d:Dt} (hb:d.bulk≤2000000):Som (yL (m+1) d):=by
 have f16:=aB d 16
 have j0:∀b,Som (NY m b d):=fun b=>by
  rw[NY,ai4,ai3]
  exact aj (fun _=>au _) (fun _=>ay (dZ (v04 h _)) fun _ _=>aj (fun _=>au _) fun _=>ay (o31 h _) fun _ _=>aj (fun _=>au _) fun _=>au _)
 rw[yL]
 exact ay (g10 h _ (by omega)) fun _ _=>aj (fun _=>j0 _) (fun _=>j0 _)
theorem JL {m:Nat} (h:Mf m) (rec4:Int→Dt→Option Int) (d:Dt) (hb:d.bulk≤2000000) (i:Nat) (hi:i<(Dt.L d 1).length) (hr:Som (rec4 ((i+1:Nat):Int) d)):∀(M k:Nat),k≤i→i-k<M→Som (Gy m rec4 M (i:Int) (k:Int) d)
 |0,k,_,h=>by omega
 |M+1,k,hk,hM=>by
  have hl:=aD d 1
  rw[Gy,dlt]
  refine aj (fun hc=>?_) (fun _=>?_)
  ·have hlt:k<i:=of_decide_eq_true hc
   have hkl:k<(Dt.L d 1).length:=by omega
   have b1:=aL (List.getElem_mem hi)
   have b2:=aL (List.getElem_mem hkl)
   have l1:=jd (Dt.L d 1)[i]
   have l2:=jd (Dt.L d 1)[k]
   rw[VA,aA hi,Option.bind_some,aA hkl,Option.bind_some]
   refine ay (ayc h _ _ (by omega) (by omega)) (fun _ _=>aj (fun _=>au _) (fun _=>?_))
   rw[I6,aF (show k<9223372036854775807 by omega)]
   exact JL h rec4 d hb i hi hr M (k+1) (by omega) (by omega)
  ·rw[I7,aF (show i<9223372036854775807 by omega)]
   exact hr
theorem JM {m:Nat} (h:Mf m) (d:Dt) (hb:d.bulk≤2000000):∀(M i:Nat),i≤(Dt.L d 1).length→(Dt.L d 1).length-i<M→Som (Gz m M (i:Int) d)
 |0,i,_,h=>by omega
 |M+1,i,hi,hM=>by
  have hl:=aD d 1
  rw[Gz,dlt]
  refine aj (fun hc=>?_) (fun _=>?_)
  ·have hlt:i<(Dt.L d 1).length:=of_decide_eq_true hc
   rw[VB,aA hlt,Option.bind_some]
   refine ay (dZ (v04 h _)) (fun _ _=>aj (fun _=>au _) (fun _=>?_))
   have hlo:=h.lo
   exact JL h _ d hb i hlt (JM h d hb M (i+1) (by omega) (by omega)) (m+1) 0 (Nat.zero_le _) (by omega)
  ·simp only[I6,VA,I7,aiB,aiC,VB,Rk,tN,Rl,aiD,aiE,GA,VD]
   repeat' (first|exact au _|refine aj (fun _=>?_) (fun _=>?_))
theorem aqw {m:Nat} (h:Mf m) (d:Dt) (hb:d.bulk≤2000000):Som (qQ (m+1) d):=by
 have hl:=aD d 1
 have hlo:=h.lo
 have j1:∀b,Som (GA m b d):=fun b=>by
  rw[GA]
  exact aj (fun _=>au _) (fun _=>JM h d hb (m+1) 0 (Nat.zero_le _) (by omega))
 rw[qQ,VD]
 exact ay (n01 h _) fun _ _=>aj (fun _=>au _) fun _=>aj (fun _=>j1 _) (fun _=>j1 _)
end Go.Proofs.YtjnkagkoolbodaaGreatDoor
namespace Go.Proofs.YtjnkagkoolbodaaGreatDoor
open Go.Am
theorem aqx {m:Nat} (h:Mf m) (rec2:List Dt→Int→Dt→Option Int) (P:List Dt) (d:Dt) (hb:d.bulk≤2000000) (ht:HasTy Tryz.prog 45 d) (i:Nat) (hi:i<(Dt.L d 1).length+(Dt.L d 3).length+(Dt.L d 4).length) (hr:Som (rec2 P ((i+1:Nat):Int) d)):Som (CB m rec2 P (i:Int) d):=by
 have l1:=aD d 1
 have l3:=aD d 3
 have l4:=aD d 4
 have w1:IntKind.wrap IntKind.i64 ((i:Int)-((Dt.L d 1).length:Int))=(i:Int)-((Dt.L d 1).length:Int):=wrap64 (by omega) (by omega)
 have w2:IntKind.wrap IntKind.i64 (((i:Int)-((Dt.L d 1).length:Int))-((Dt.L d 3).length:Int))=(i:Int)-((Dt.L d 1).length:Int)-((Dt.L d 3).length:Int):=wrap64 (by omega) (by omega)
 have j13:Som (Cz m rec2 P (i:Int) d):=by
  rw[Cz,aF (show i<9223372036854775807 by omega)]
  exact hr
 have j11:∀b,Som (tQ m rec2 P (i:Int) ((i:Int)-((Dt.L d 1).length:Int)-((Dt.L d 3).length:Int)) b d):=fun b=>by
  rw[tQ,Rv]
  refine aj (fun _=>au _) (fun _=>aj (fun hc=>?_) (fun _=>j13))
  have hc:=of_decide_eq_true hc
  have e:(i:Int)-((Dt.L d 1).length:Int)-((Dt.L d 3).length:Int)=((i-(Dt.L d 1).length-(Dt.L d 3).length:Nat):Int):=by omega
  have hlt:i-(Dt.L d 1).length-(Dt.L d 3).length<(Dt.L d 4).length:=by omega
  have hm:=aL (List.getElem_mem hlt)
  have hf:=aB (Dt.L d 4)[i-(Dt.L d 1).length-(Dt.L d 3).length] 1
  rw[e,aA hlt,Option.bind_some]
  exact ay (v08 h (by omega) (fQ (kJ ht _ (List.getElem_mem hlt)))) (fun _ _=>aj (fun _=>au _) (fun _=>j13))
 rw[CB,w1,w2]
 refine aj (fun h0=>aj (fun h1=>?_) (fun _=>j11 _)) (fun _=>j11 _)
 have h0:=of_decide_eq_true h0
 have h1:=of_decide_eq_true h1
 have e:(i:Int)-((Dt.L d 1).length:Int)=((i-(Dt.L d 1).length:Nat):Int):=by omega
 have hlt:i-(Dt.L d 1).length<(Dt.L d 3).length:=by omega
 have hx:idx (Dt.L d 3) ((i:Int)-((Dt.L d 1).length:Int))=some (Dt.L d 3)[i-(Dt.L d 1).length]:=by rw[e];exact aA hlt
 rw[hx,Option.bind_some]
 exact j11 _
theorem TA {m:Nat} (h:Mf m) (rec2:List Dt→Int→Dt→Option Int) (P:List Dt) (hP:∀e∈P,e.toLst.length≤10000000) (hPl:P.length≤10000000) (d:Dt) (i:Nat) (hi:i<P.length) (hr:Som (CB m rec2 P (i:Int) d)):∀(M k:Nat),k≤i→i-k<M→Som (Hf m rec2 M P (i:Int) (k:Int) d)
 |0,k,_,h=>by omega
 |M+1,k,hk,hM=>by
  rw[Hf,dlt]
  refine aj (fun hc=>?_) (fun _=>hr)
  have hlt:k<i:=of_decide_eq_true hc
  have hkl:k<P.length:=by omega
  rw[ajw,aA hkl,Option.bind_some,aA hi,Option.bind_some]
  refine ay (ayc h _ _ (hP _ (List.getElem_mem hkl)) (hP _ (List.getElem_mem hi))) (fun _ _=>aj (fun _=>au _) (fun _=>?_))
  rw[ajv,aF (show k<9223372036854775807 by omega)]
  exact TA h rec2 P hP hPl d i hi hr M (k+1) (by omega) (by omega)
theorem aar {m:Nat} (h:Mf m) (d:Dt) (hb:d.bulk≤2000000) (ht:HasTy Tryz.prog 45 d):∀(M i:Nat),i≤(kr d).length→(kr d).length-i<M→Som (CF m M (kr d) (i:Int) d)
 |0,i,_,h=>by omega
 |M+1,i,hi,hM=>by
  have l1:=aD d 1
  have l3:=aD d 3
  have l4:=aD d 4
  have hpl:=Ki d
  have hlo:=h.lo
  rw[CF,dlt]
  refine aj (fun hc=>?_) (fun _=>au _)
  have hlt:i<(kr d).length:=of_decide_eq_true hc
  have hP:∀e∈kr d,e.toLst.length≤10000000:=fun e he=>Qo (by omega) he
  have j4:∀b,Som (Og m (CF m M) (kr d) (i:Int) b d):=fun b=>by
   rw[Og]
   refine aj (fun _=>au _) (fun _=>?_)
   exact TA h _ (kr d) hP (by omega) d i hlt (aqx h _ (kr d) d hb ht i (by omega) (aar h d hb ht M (i+1) (by omega) (by omega))) (m+1) 0 (Nat.zero_le _) (by omega)
  rw[ajx,aA hlt,Option.bind_some,v04 h,Option.bind_some]
  refine aj (fun _=>j4 _) (fun hv=>?_)
  have hne:0<((kr d)[i]).toLst.length:=aan (by simpa using hv)
  have e0:idx ((kr d)[i]).toLst 0=some ((kr d)[i]).toLst[0]:=aA hne
  rw[Option.bind_some,e0,Option.bind_some]
  exact j4 _
theorem ayh {m:Nat} (h:Mf m) {d:Dt} (hb:d.bulk≤2000000) (ht:HasTy Tryz.prog 45 d):Som (qS (m+1) d):=by
 have hlo:=h.lo
 have l1:=aD d 1
 have l3:=aD d 3
 have l4:=aD d 4
 have hpl:=Ki d
 have hp:zP m d=some (kr d):=by
  obtain⟨q,rfl⟩:∃q,m=q+1:=⟨m-1,by omega⟩
  exact aaN q d (by omega) (by omega)
 rw[qS,hp,Option.bind_some]
 refine aj (fun _=>au _) (fun _=>?_)
 exact aar h d hb ht (m+1) 0 (Nat.zero_le _) (by omega)
theorem aas {m:Nat} (self:Dt→Bool→Option Int) (d:Dt) (hl:(Dt.L d 8).length≤10000000) (x0:Bool) (hs:∀e∈Dt.L d 8,∀b,Som (self e b)):∀(M i:Nat),i≤(Dt.L d 8).length→(Dt.L d 8).length-i<M→Som (pJ m self M x0 (i:Int) d)
 |0,i,_,h=>by omega
 |M+1,i,hi,hM=>by
  rw[pJ,dlt]
  refine aj (fun hc=>?_) (fun _=>au _)
  have hlt:i<(Dt.L d 8).length:=of_decide_eq_true hc
  have j17:∀n,Som (CK m self (pJ m self M) x0 (i:Int) n d):=fun n=>by
   rw[CK,Rz,aF (show i<9223372036854775807 by omega)]
   exact aj (fun _=>au _) (fun _=>aas self d hl x0 hs M (i+1) (by omega) (by omega))
  rw[RB,aA hlt,Option.bind_some]
  exact aj (fun _=>ay (hs _ (List.getElem_mem hlt) _) fun _ _=>j17 _) (fun _=>ay (hs _ (List.getElem_mem hlt) _) fun _ _=>j17 _)
theorem aat {m:Nat} (self:Dt→Bool→Option Int) (d:Dt) (hl:(Dt.L d 3).length≤10000000) (x0:Bool) (hA:Som (yP m (Dt.I d 0))) (hv:∀e∈Dt.L d 3,Som (y3 m e)) (hend:Som (tT m self x0 d)):∀(M i:Nat),i≤(Dt.L d 3).length→(Dt.L d 3).length-i<M→Som (Ho m self M x0 (i:Int) d)
 |0,i,_,h=>by omega
 |M+1,i,hi,hM=>by
  rw[Ho,dlt]
  refine aj (fun hc=>ay hA fun _ _=>aj (fun _=>?_) (fun _=>hend)) (fun _=>hend)
  have hlt:i<(Dt.L d 3).length:=of_decide_eq_true hc
  rw[ajK,aA hlt,Option.bind_some]
  refine ay (hv _ (List.getElem_mem hlt)) (fun _ _=>aj (fun _=>au _) (fun _=>?_))
  rw[ajJ,aF (show i<9223372036854775807 by omega)]
  exact aat self d hl x0 hA hv hend M (i+1) (by omega) (by omega)
theorem aau:∀(N:Nat) (d:Dt),d.bulk≤N→N≤2000000→HasTy Tryz.prog 39 d→∀m,100000000+2*N≤m→m<800000000000→∀b,Som (qF (m+1) d b)
 |0,d,h,_,_,_,_,_,_=>by have:=aR d;omega
 |N+    1,d,hd,hN,ht,m,hm,hm2,b=>by
  have h:Mf m:=⟨by omega,hm2⟩
  have l3:=aD d 3
  have l8:=aD d 8
  have f2:=aB d 2
  have f6:=aB d 6
  have f7:=aB d 7
  have e7:Som (yG m (Dt.fld d 7)):=v08 h (by omega) (xL ht)
  have e2:Som (y3 m (Dt.fld d 2)):=v01 h (by omega) (xJ ht)
  have e3:∀e∈Dt.L d 3,Som (y3 m e):=fun e he=>v01 h (by have:=aL he;omega) (xK ht e he)
  have e6:Som (zB m (Dt.fld d 6)):=g10 h _ (by omega)
  have e4:Som (zC m (Dt.L d 1)):=dZ (v04 h _)
  obtain⟨q,rfl⟩:∃q,m=q+4:=⟨m-4,by omega⟩
  have sOn:=aBk (q+3) (Dt.I d 0)
  have sArg:=aBn (q+2) (Dt.I d 0)
  have sTxt:=aBl (q+3) (Dt.I d 0)
  have sArgs:=aBj (q+3) (Dt.I d 0)
  have sKids:=aFN (q+3) d
  have sNum:=aFO (q+3) d
  have sUn:=aFT q d
  have hk:=aas (m:=q+4) (qF (q+4)) d (by omega) b (fun e he c=>aau N e (by have:=aL he;omega) (by omega) (xM ht e he) (q+3) (by omega) (by omega) c) (q+5) 0 (Nat.zero_le _) (by omega)
  have j10:Som (tT (q+4) (qF (q+4)) b d):=by
   have j11:Som (CO (q+4) (qF (q+4)) b d):=by
        rw[CO,RF]
        refine ay sUn (fun _ _=>aj (fun _=>au _) (fun _=>aj (fun _=>ay e7 fun _ _=>au _) (fun _=>?_)))
        exact hk
   rw[tT]
   exact aj (fun _=>ay e6 fun _ _=>aj (fun _=>au _) (fun _=>j11)) (fun _=>j11)
  have j4:∀x,Som (CP (q+4) (qF (q+4)) b x d):=fun x=>by
   rw[CP]
   refine aj (fun _=>au _) (fun _=>?_)
   exact aat (m:=q+4) (qF (q+4)) d (by omega) b sArgs e3 j10 (q+5) 0 (Nat.zero_le _) (by omega)
  have j3:Som (V6 (q+4) (qF (q+4)) b d):=by
   rw[V6]
   repeat' (first|exact j4 _|refine aj (fun _=>?_) (fun _=>?_)|refine ay sArg (fun _ _=>?_)|refine ay e2 (fun _ _=>?_)|refine ay sTxt (fun _ _=>?_))
  have j2:∀x,Som (CQ (q+4) (qF (q+4)) b x d):=fun x=>by
   rw[CQ]
   exact aj (fun _=>au _) (fun _=>j3)
  have j0:∀x,Som (rH (q+4) (qF (q+4)) b x d):=fun x=>by
   rw[rH,ajO]
   repeat' (first|exact j2 _|exact au _|refine aj (fun _=>?_) (fun _=>?_)|refine ay sOn (fun _ _=>?_)|refine ay e4 (fun _ _=>?_))
  rw[qF]
  repeat' (first|exact j0 _|refine aj (fun _=>?_) (fun _=>?_)|refine ay sKids (fun _ _=>?_)|refine ay sArgs (fun _ _=>?_)|refine ay sNum (fun _ _=>?_))
theorem ayi {m:Nat} (hm:200000000≤m) (hm2:m<800000000000) {d:Dt} (hb:d.bulk≤2000000) (ht:HasTy Tryz.prog 39 d):Som (vA (m+1) d):=by
 obtain⟨q,rfl⟩:∃q,m=q+1:=⟨m-1,by omega⟩
 rw[vA,ajP]
 exact ay (En 2000000 d hb (by omega) q (by omega) _ _) fun _ _=>aj (fun _=>au _) (fun _=>ay (aau 2000000 d hb (by omega) ht q (by omega) (by omega) _) fun _ _=>au _)
theorem aav {m:Nat} (h:Mf m) {d:Dt} (hs:∀b,Som (qV m (Dt.L (Dt.fld d 12) 4) b)):Som (zR (m+1) d):=by
 have e1:∀l,Som (zC m l):=fun l=>dZ (v04 h l)
 have j2:Som (V9 m (qV m) (Dt.fld d 12)):=by
  rw[V9]
  exact ay (hs _) fun _ _=>au _
 have j1:∀b,Som (Ht m (qV m) b (Dt.fld d 12)):=fun b=>by
  rw[Ht]
  exact aj (fun _=>au _) (fun _=>j2)
 have j4:∀b,Som (Ox m (qV m) b (Dt.fld d 12)):=fun b=>by
  rw[Ox,ake,akd]
  exact aj (fun _=>au _) (fun _=>ay (o31 h _) fun _ _=>aj (fun _=>au _) (fun _=>ay (hs _) fun _ _=>au _))
 rw[zR,akg,akf]
 refine ay (n01 h _) (fun _ _=>aj (fun _=>au _) (fun _=>?_))
 repeat' (first|exact j1 _|exact j4 _|refine aj (fun _=>?_) (fun _=>?_)|refine ay (e1 _) (fun _ _=>?_))
theorem Ed {m:Nat} (self:List Dt→Bool→Option Int) (rec3:List Dt→Int→Option Int) (l:List Dt) (i:Nat) (hi:i<l.length) (hll:l.length≤10000000) (hA:Som (self (Dt.L l[i] 1) false)) (hr:Som (rec3 l ((i+1:Nat):Int))):∀(M k:Nat) (b:Bool),k≤i→i-k<M→Som (CZ m self rec3 M l (i:Int) b (k:Int))
 |0,k,_,_,h=>by omega
 |M+    1,k,b,hk,hM=>by
  rw[CZ,dlt]
  refine aj (fun hc=>?_) (fun _=>?_)
  ·have hlt:k<i:=of_decide_eq_true hc
   have ih:∀b,Som (Oy m self rec3 (CZ m self rec3 M) l (i:Int) b (k:Int)):=fun b=>by
        rw[Oy,aF (show k<9223372036854775807 by omega)]
        exact Ed self rec3 l i hi hll hA hr M (k+1) b (by omega) (by omega)
   rw[akh,aA hi,aA (show k<l.length by omega)]
   exact aj (fun _=>ih _) (fun _=>ih _)
  ·rw[aki,RN,aA hi,Option.bind_some]
   refine aj (fun _=>au _) (fun _=>ay hA (fun _ _=>aj (fun _=>au _) (fun _=>?_)))
   rw[RL,aF (show i<9223372036854775807 by omega)]
   exact hr
theorem JN {m:Nat} (h:Mf m) (self:List Dt→Bool→Option Int) (l:List Dt) (hll:l.length≤10000000) (hs:∀f∈l,Som (self (Dt.L f 1) false)):∀(M i:Nat),i≤l.length→l.length-i<M→Som (Hu m self M l (i:Int))
 |0,i,_,h=>by omega
 |M+1,i,hi,hM=>by
  have hlo:=h.lo
  rw[Hu,dlt]
  refine aj (fun hc=>?_) (fun _=>au _)
  have hlt:i<l.length:=of_decide_eq_true hc
  rw[akj,aA hlt,Option.bind_some]
  refine ay (o31 h _) (fun b _=>?_)
  exact Ed self _ l i hlt hll (hs _ (List.getElem_mem hlt)) (JN h self l hll hs M (i+1) (by omega) (by omega)) (m+1) 0 b (Nat.zero_le _) (by omega)
theorem aaw {m:Nat} (h:Mf m) (l:List Dt) (hll:l.length≤10000000) (hs:∀f∈l,Som (qV m (Dt.L f 1) false)):Som (qT (m+1) l):=by
 have hlo:=h.lo
 have j0:∀b,Som (Oz m (qV m) l b):=fun b=>by
  rw[Oz]
  refine aj (fun _=>au _) (fun _=>?_)
  exact JN h (qV m) l hll hs (m+1) 0 (Nat.zero_le _) (by omega)
 rw[qT]
 exact aj (fun _=>j0 _) (fun _=>j0 _)
theorem aqy {m:Nat} (hm:300000000≤m) (hm2:m<700000000000) {d:Dt} (hb:d.bulk≤2000000) (ht:HasTy Tryz.prog 71 d) (hs:∀l,Dt.bulkL l<d.bulk→(∀e∈l,HasTy Tryz.prog 71 e)→∀b,Som (qV m l b)):Som (yK (m+2) d):=by
 have h0:Mf m:=⟨by omega,by omega⟩
 have h1:Mf (m+1):=⟨by omega,by omega⟩
 have f1:=aB d 1
 have f2:=aB d 2
 have f10:=aB d 10
 have f11:=aB d 11
 have f12:=aB d 12
 have f15:=aB d 15
 have l3:=aD d 3
 have l13:=aD d 13
 have b12:=pY (Dt.fld d 12) 4
 have e1:Som (vA (m+1) (Dt.fld d 1)):=ayi (by omega) (by omega) (by omega) (sS ht)
 have e2:Som (qS (m+1) (Dt.fld d 2)):=ayh h0 (by omega) (sU ht)
 have e3:Som (zH (m+1) (Dt.L d 3)):=by
  by_cases hl:(Dt.L d 3).length≤1000000
  ·exact ayf h0 _ (fun e he=>by have:=aL he;omega) hl (sV ht)
  ·rw[zH,decide_eq_false (show ¬(((Dt.L d 3).length:Nat):Int)<1 by omega),cond_false,decide_eq_true (show (32:Int)<(((Dt.L d 3).length:Nat):Int) by omega)]
   exact au _
 have e4:Som (zD (m+1) (Dt.fld d 10)):=by
  obtain⟨q,rfl⟩:∃q,m=q+1:=⟨m-1,by omega⟩
  exact aqv (m:=q) ⟨by omega,by omega⟩ ⟨by omega,by omega⟩ (by omega) (oI ht)
 have e5:Som (qM (m+1) (Dt.fld d 11)):=w31 h1 (by omega) (oJ ht)
 have e6:Som (zR (m+1) d):=aav h0 (hs _ (by omega) (oH (oK ht)))
 have e7:Som (qT (m+1) (Dt.L d 13)):=aaw h0 _ (by omega) fun f hf=>hs _ (by have:=pY f 1;have:=aL hf;omega) (sQ (oL ht f hf)) _
 have e8:Som (zO (m+1) d):=aaq h0 hb ht
 have e9:Som (yL (m+1) d):=ayg h0 hb
 have e10:Som (qQ (m+1) (Dt.fld d 15)):=aqw h0 _ (by omega)
 have e11:Som (z6 (m+1) d):=aao h0 hb ht
 have j0:∀n b,Som (Ow (m+1) (zR (m+1)) (qT (m+1)) n b d):=fun n b=>by
  rw[Ow,akc]
  repeat' (first|exact au _|refine aj (fun _=>?_) (fun _=>?_)|refine ay e6 (fun _ _=>?_)|refine ay e7 (fun _ _=>?_)|refine ay e8 (fun _ _=>?_)|refine ay e9 (fun _ _=>?_)|refine ay e10 (fun _ _=>?_)|refine ay e11 (fun _ _=>?_))
 rw[yK]
 repeat' (first|exact au _|exact j0 _ _|refine aj (fun _=>?_) (fun _=>?_)|refine ay e1 (fun _ _=>?_)|refine ay e2 (fun _ _=>?_)|refine ay e3 (fun _ _=>?_)|refine ay e4 (fun _ _=>?_)|refine ay e5 (fun _ _=>?_))
theorem Ee {m:Nat} (hm:100000002≤m) (hm2:m<800000000000) (self:Dt→Option Int) (l:List Dt) (hl:l.length≤10000000) (hs:∀e∈l,Som (self e)) (x1:Bool):∀(M i:Nat),i≤l.length→l.length-i<M→Som (CY m self M l x1 (i:Int))
 |0,i,_,h=>by omega
 |M+1,i,hi,hM=>by
  rw[CY,dlt]
  refine aj (fun hc=>?_) (fun _=>au _)
  have hlt:i<l.length:=of_decide_eq_true hc
  have j3:∀b,Som (rJ m self (CY m self M) l x1 (i:Int) b l[i]):=fun b=>by
   rw[rJ,aj9,aj8,aF (show i<9223372036854775807 by omega)]
   exact aj (fun _=>au _) (fun _=>ay (hs _ (List.getElem_mem hlt)) fun _ _=>aj (fun _=>au _) (fun _=>Ee hm hm2 self l hl hs x1 M (i+1) (by omega) (by omega)))
  have ex:Som (qO m l[i]):=by
   obtain⟨q,rfl⟩:∃q,m=q+2:=⟨m-2,by omega⟩
   exact aqu (m:=q) ⟨by omega,by omega⟩ _
  rw[akb,aA hlt,Option.bind_some]
  repeat' (first|exact j3 _|refine aj (fun _=>?_) (fun _=>?_)|refine ay ex (fun _ _=>?_))
theorem JO:∀(N:Nat) (l:List Dt),Dt.bulkL l≤N→N≤2000000→(∀e∈l,HasTy Tryz.prog 71 e)→∀m,300000010+4*N≤m→m<700000000000→∀b,Som (qV (m+1) l b)
 |N,l,hl,hN,ht,m,hm,hm2,b=>by
  have hll:=bf l
  refine Ee (m:=m) (by omega) (by omega) (yK m) l (by omega) (fun e he=>?_) b (m+1) 0 (Nat.zero_le _) (by omega)
  have hb:=bM he
  obtain⟨q,rfl⟩:∃q,m=q+3:=⟨m-3,by omega⟩
  refine aqy (m:=q+1) (by omega) (by omega) (by omega) (ht e he) (fun k hk hkt c=>?_)
  cases N with
  |zero=>have:=aR e;omega
  |succ N=>exact JO N k (by omega) (by omega) hkt q (by omega) (by omega) c
theorem Xc (l:List Dt) (hb:Dt.bulkL l≤1048576) (ht:∀e∈l,HasTy Tryz.prog 71 e) (m:Nat) (hm:400000000≤m) (hm2:m<600000000000):Som (y9 (m+1) l):=by
 have h1:Som (qW m l 1):=by
  have hb':Dt.bulkL l≤1000000∨1000000<Dt.bulkL l:=by omega
  obtain⟨q,rfl⟩:∃q,m=q+1:=⟨m-1,by omega⟩
  exact Ep 2000000 l (by omega) (by omega) q (by omega) _
 obtain⟨q,rfl⟩:∃q,m=q+1:=⟨m-1,by omega⟩
 rw[y9,akl]
 exact ay h1 fun _ _=>aj (fun _=>au _) (fun _=>ay (JO 2000000 l (by omega) (by omega) ht q (by omega) (by omega) _) fun _ _=>au _)
end Go.Proofs.YtjnkagkoolbodaaGreatDoor
