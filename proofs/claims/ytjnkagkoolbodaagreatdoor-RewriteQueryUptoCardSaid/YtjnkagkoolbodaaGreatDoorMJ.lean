/- Shapes: their error, program and reference.
Predicates:what an operator uses;a node's first error,in stages;program and reference.
Predicates:a node's first error;program and reference.
Predicates:the first error of a tree;program and reference.
Queries are the same as themselves:expressions,predicates,projections (the references of layers 8,11 and 21).
The query of the first stages:program and reference. -/
import Derived.Test.YtjnkagkoolbodaaGreatDoorMA
import Derived.Test.YtjnkagkoolbodaaGreatDoorFx
import Derived.Test.YtjnkagkoolbodaaGreatDoorME
import Derived.Test.YtjnkagkoolbodaaGreatDoorMF
import Derived.Test.YtjnkagkoolbodaaGreatDoorMG
set_option linter.unusedVariables false
set_option linter.unusedSimpArgs false
namespace Go.Proofs.YtjnkagkoolbodaaGreatDoor
open Go.Am
def inB (n:Int):Bool:=decide (0≤n)&&decide (n<65536)
def ptB (p:Dt):Bool:=inB (Dt.I p 0)&&inB (Dt.I p 1)
def aNo (d:Dt):Bool:=
 bif Dt.I d 0==1 then((Dt.L d 1).length:Int)==2&&Dt.I d 2==0 else
 bif Dt.I d 0==2 then((Dt.L d 1).length:Int)==1&&inB (Dt.I d 2) else
 bif Dt.I d 0==3 then decide ((3:Int)≤((Dt.L d 1).length:Int))&&(decide (((Dt.L d 1).length:Int)≤64)&&Dt.I d 2==0) else false
def al8 (d:Dt):Int:=bif aNo d then(bif (Dt.L d 1).all ptB then 0 else 18) else 18
theorem ze (m:Nat) (n:Int):fC (m+1) n=some (inB n):=by
 rw[fC]
 unfold inB
 cases decide (0≤n)<;>rfl
theorem aaI (m:Nat) (n:Int):qx (m+1) n=some (inB n):=by
 rw[qx]
 unfold inB
 cases decide (0≤n)<;>rfl
theorem aWD (m:Nat) (d:Dt):qZ (m+2) d=some (ptB d):=by
 rw[qZ,ze,Option.bind_some]
 unfold ptB
 cases inB (Dt.I d 0)
 ·rfl
 ·rw[cond_true,ze];rfl
theorem aUT (m:Nat) (d:Dt):xW (m+2) d=some (ptB d):=by
 rw[xW,aaI,Option.bind_some]
 unfold ptB
 cases inB (Dt.I d 0)
 ·rfl
 ·rw[cond_true,aaI];rfl
theorem avb (m:Nat) (l:List Dt) (hl:l.length≤1000000000):∀(M i:Nat),i≤l.length→l.length-i<M→wK (m+2) M l (l.length:Int) (i:Int)=some (bif (l.drop i).all ptB then 0 else 18)
 |0,i,_,h=>by omega
 |M+1,i,hi,h=>by
  rw[wK,dlt]
  by_cases hlt:i<l.length
  ·simp only[hlt,decide_true,cond_true,GA,GD,GH,GI,GJ,Bg,ay hlt,Option.bind_some,aWD,aT (show i<9223372036854775807 by omega),avb m l hl M (i+1) (by omega) (by omega)]
   rw[List.drop_eq_getElem_cons hlt,List.all_cons]
   cases ptB l[i]<;>rfl
  ·have e:i=l.length:=by omega
   subst e
   simp[GA,GD,GH,GI,GJ,Bg]
theorem aWE (m:Nat) (d:Dt) (hl:(Dt.L d 1).length≤m) (hm:(Dt.L d 1).length≤1000000000):CU (m+3) d=some (al8 d):=by
 have key:=avb m (Dt.L d 1) (by omega) (m+3) 0 (Nat.zero_le _) (by omega)
 rw[List.drop_zero] at key
 have j0:∀b:Bool,Bg (m+2) b d=some (bif b then(bif (Dt.L d 1).all ptB then 0 else 18) else 18):=fun b=>by
  cases b with
  |false=>rfl
  |true=>exact key
 unfold al8 aNo
 simp only[CU,aa8,ze,Option.bind_some,j0]
 cases (Dt.I d 0==1)
 ·cases (Dt.I d 0==2)
  ·cases (Dt.I d 0==3)
   ·rfl
   ·    cases decide ((3:Int)≤((Dt.L d 1).length:Int))
        ·rfl
        ·cases decide (((Dt.L d 1).length:Int)≤64)<;>rfl
  ·cases (((Dt.L d 1).length:Int)==1)<;>rfl
 ·cases (((Dt.L d 1).length:Int)==2)<;>rfl
theorem al9 (m:Nat) (d:Dt) (hl:(Dt.L d 1).length≤1000000000):∀(M i:Nat),i≤(Dt.L d 1).length→(Dt.L d 1).length-i<M→jm (m+2) M ((Dt.L d 1).length:Int) (i:Int) d=bif ((Dt.L d 1).drop i).all ptB then qy (m+2) ((Dt.L d 1).length:Int) d else some 18
 |0,i,_,h=>by omega
 |M+    1,i,hi,h=>by
  rw[jm,dlt]
  by_cases hlt:i<(Dt.L d 1).length
  ·rw[decide_eq_true hlt,cond_true,vN,ay hlt,Option.bind_some,aUT,Option.bind_some,List.drop_eq_getElem_cons hlt,List.all_cons]
   cases ptB (Dt.L d 1)[i]
   ·rfl
   ·    have ih:=al9 m d hl M (i+1) (by omega) (by omega)
        rw[←aT (show i<9223372036854775807 by omega)] at ih
        simpa [vM] using ih
  ·have e:i=(Dt.L d 1).length:=by omega
   subst e
   simp
theorem aNp (m:Nat) (d:Dt) (hl:(Dt.L d 1).length≤m) (hm:(Dt.L d 1).length≤1000000000):iG (m+3) d=some (al8 d):=by
 rw[iG]
 by_cases h64:64<(Dt.L d 1).length
 ·rw[decide_eq_true (by omega),cond_true]
  unfold al8 aNo
  have e1:(((Dt.L d 1).length:Int)==1)=false:=by rw[beq_eq_false_iff_ne];omega
  have e2:(((Dt.L d 1).length:Int)==2)=false:=by rw[beq_eq_false_iff_ne];omega
  have e3:decide (((Dt.L d 1).length:Int)≤64)=false:=decide_eq_false (by omega)
  rw[e1,e2,e3]
  cases (Dt.I d 0==1)<;>cases (Dt.I d 0==2)<;>cases (Dt.I d 0==3)<;>cases decide ((3:Int)≤((Dt.L d 1).length:Int))<;>rfl
 ·rw[   decide_eq_false (by omega),cond_false]
  have key:=al9 m d (by omega) (m+3) 0 (Nat.zero_le _) (by omega)
  rw[List.drop_zero] at key
  have key:AY (m+2) ((Dt.L d 1).length:Int) d=_:=key
  rw[key]
  have e3:decide (((Dt.L d 1).length:Int)≤64)=true:=decide_eq_true (by omega)
  unfold al8 aNo
  rw[e3]
  cases (Dt.L d 1).all ptB
  ·cases (Dt.I d 0==1)<;>cases (Dt.I d 0==2)<;>cases (Dt.I d 0==3)<;>cases decide ((3:Int)≤((Dt.L d 1).length:Int))<;>cases (((Dt.L d 1).length:Int)==1)<;>cases (((Dt.L d 1).length:Int)==2)<;>cases (Dt.I d 2==0)<;>cases inB (Dt.I d 2)<;>rfl
  ·rw[   cond_true]
   have ke:∀a b:Int,a≠b→(Dt.I d 0==a)=true→(Dt.I d 0==b)=false:=fun a b hab h=>by
        rw[beq_iff_eq] at h
        rw[beq_eq_false_iff_ne,h]
        exact hab
   simp only[vM,vN,AX,vO,qy,yH,IW,AY,aaI,Option.bind_some]
   cases h1:(Dt.I d 0==1)
   ·    simp only[cond_false]
        cases h2:(Dt.I d 0==2)
        ·simp only[cond_false]
         cases h3:(Dt.I d 0==3)
         ·rfl
         ·cases decide ((3:Int)≤((Dt.L d 1).length:Int))<;>cases (Dt.I d 2==0)<;>rfl
        ·have h3:=ke 2 3 (by decide) h2
         rw[h3]
         cases (((Dt.L d 1).length:Int)==1)<;>cases inB (Dt.I d 2)<;>rfl
   ·    have h2:=ke 1 2 (by decide) h1
        have h3:=ke 1 3 (by decide) h1
        rw[h2,h3]
        cases (((Dt.L d 1).length:Int)==2)<;>cases (Dt.I d 2==0)<;>rfl
end Go.Proofs.YtjnkagkoolbodaaGreatDoor
namespace Go.Proofs.YtjnkagkoolbodaaGreatDoor
open Go.Am
inductive WP:Dt→Prop where
 |mk {d:Dt} (h2:WV (Dt.fld d 2)) (h3:∀v∈Dt.L d 3,WV v) (h7:WE (Dt.fld d 7)) (h8:∀e∈Dt.L d 8,WP e):WP d
theorem aSE:∀(N:Nat) (d:Dt),d.bulk≤N→HasTy Tryz.prog 39 d→WP d
 |0,d,h,_=>by have:=bQ d;omega
 |N+1,d,h,ht=> .mk (ajx (aeC ht)) (fun v hv=>ajx (aeD ht v hv)) (akZ _ _ (Nat.le_refl _) (aeE ht)) fun e he=>aSE N e (by have:=bA he;omega) (aeF ht e he)
def onP (op:Int):Bool:=decide (2≤op)&&decide (op≤19)
def txt (op:Int):Bool:=op==16||(op==17||op==19)
def ama (op:Int):Bool:=(decide (2≤op)&&decide (op≤7))||txt op
def Ep (op:Int):Bool:=op==8||(op==9||op==14)
def uN (op:Int):Bool:=op==10||(op==11||(op==12||op==13))
def kdB (op n:Int):Bool:=bif op==15||op==23 then n==1 else bif op==20||(op==21||op==22) then decide (1≤n) else n==0
def axg (d:Dt):Bool:=bif Dt.I d 0==10 then Dt.I d 4==0||Dt.I d 4==1 else bif Dt.I d 0==11 then decide (1≤Dt.I d 4)&&decide (Dt.I d 4≤11) else
 bif Dt.I d 0==12 then decide (1≤Dt.I d 4)&&(decide (0≤Dt.I d 5)&&decide (Dt.I d 5<Dt.I d 4)) else bif Dt.I d 0==13 then decide (0≤Dt.I d 4) else true
def zsh (d:Dt):Bool:=Dt.I d 0==0&&(((Dt.L d 1).length:Int)==0&&Dt.I d 2==0)
def c6 (d:Dt):Bool:=bif Dt.I d 0 !=24&&!zex (Dt.fld d 7) then false else true
def c5 (d:Dt):Bool:=bif Dt.I d 0 !=18&&!zsh (Dt.fld d 6) then false else c6 d
def c4 (d:Dt):Bool:=bif Dt.I d 0 !=12&&Dt.I d 5 !=0 then false else c5 d
def c3 (d:Dt):Bool:=bif !uN (Dt.I d 0)&&Dt.I d 4 !=0 then false else c4 d
def c2 (d:Dt):Bool:=bif !Ep (Dt.I d 0)&&!(((Dt.L d 3).length:Int)==0) then false else c3 d
def c1 (d:Dt):Bool:=bif !ama (Dt.I d 0)&&!zvl (Dt.fld d 2) then false else c2 d
def clB (d:Dt):Bool:=bif !onP (Dt.I d 0)&&!(((Dt.L d 1).length:Int)==0) then false else c1 d
theorem V9 (l:List Dt):decide ((0:Int)<(l.length:Int))=!((l.length:Int)==0):=by
 cases l with
 |nil=>rfl
 |cons a r=>
  rw[show (((a::r).length:Int)==0)=false by rw[beq_eq_false_iff_ne,List.length_cons];omega]
  exact decide_eq_true (by rw[List.length_cons];omega)
theorem Ic (m:Nat) (op:Int):gG (m+1) op=some (onP op):=by
 rw[gG,onP]
 cases decide (2≤op)<;>rfl
theorem Uw (m:Nat) (op:Int):iY (m+1) op=some (onP op):=by
 rw[iY,onP]
 cases decide (2≤op)<;>rfl
theorem Gu (m:Nat) (op:Int):dF (m+1) op=some (txt op):=by
 rw[dF,txt]
 cases (op==16)<;>cases (op==17)<;>rfl
theorem QJ (m:Nat) (op:Int):fZ (m+1) op=some (txt op):=by
 rw[fZ,txt]
 cases (op==16)<;>cases (op==17)<;>rfl
theorem u6 (m:Nat) (op:Int):cZ (m+1) op=some (Ep op):=by
 rw[cZ,Ep]
 cases (op==8)<;>cases (op==9)<;>rfl
theorem EC (m:Nat) (op:Int):bX (m+1) op=some (Ep op):=by
 rw[bX,Ep]
 cases (op==8)<;>cases (op==9)<;>rfl
theorem aey (m:Nat) (op:Int):jZ (m+1) op=some (uN op):=by
 rw[jZ,uN]
 cases (op==10)<;>cases (op==11)<;>cases (op==12)<;>rfl
theorem Gv (m:Nat) (op:Int):fJ (m+2) op=some (ama op):=by
 rw[fJ,ama,Gu]
 cases decide (2≤op)<;>cases decide (op≤7)<;>rfl
theorem Ux (m:Nat) (op:Int):gP (m+2) op=some (ama op):=by
 rw[gP,ama,QJ]
 cases decide (2≤op)<;>cases decide (op≤7)<;>rfl
theorem Xf (m:Nat) (d:Dt):gW (m+1) d=some (axg d):=by
 rw[gW,zx,axg]
 cases (Dt.I d 0==10)
 ·cases (Dt.I d 0==11)
  ·cases (Dt.I d 0==12)
   ·cases (Dt.I d 0==13)<;>rfl
   ·cases decide (1≤Dt.I d 4)<;>cases decide (0≤Dt.I d 5)<;>rfl
  ·cases decide (1≤Dt.I d 4)<;>rfl
 ·cases (Dt.I d 4==0)<;>rfl
theorem aj8 (m:Nat) (d:Dt):iZ (m+1) d=some (axg d):=by
 rw[iZ,Al,axg]
 cases (Dt.I d 0==10)
 ·cases (Dt.I d 0==11)
  ·cases (Dt.I d 0==12)
   ·cases (Dt.I d 0==13)<;>rfl
   ·cases decide (1≤Dt.I d 4)<;>cases decide (0≤Dt.I d 5)<;>rfl
  ·cases decide (1≤Dt.I d 4)<;>rfl
 ·cases (Dt.I d 4==0)<;>rfl
theorem Xg (m:Nat) (op n:Int):jR (m+1) op n=some (kdB op n):=by
 simp only[jR,vK,vL,oJ,uI,kdB]
 cases (op==15)<;>cases (op==23)<;>cases (op==20)<;>cases (op==21)<;>cases (op==22)<;>rfl
theorem aez (m:Nat) (d:Dt):vo (m+1) d=some (kdB (Dt.I d 0) ((Dt.L d 8).length:Int)):=by
 have e:decide ((0:Int)<((Dt.L d 8).length:Int))=decide ((1:Int)≤((Dt.L d 8).length:Int)):=rfl
 simp only[vo,K4,xI,DK,DL,Ak,kdB]
 cases (Dt.I d 0==15)<;>cases (Dt.I d 0==23)<;>cases (Dt.I d 0==20)<;>cases (Dt.I d 0==21)<;>cases (Dt.I d 0==22)<;>first|rfl|exact congrArg some e
theorem Gw (m:Nat) (d:Dt):gH (m+1) d=some (zvl d):=by
 rw[gH,zvl]
 cases (Dt.I d 0==0)<;>cases (Dt.I d 1==0)<;>cases (ByteArray.toList (Dt.S d 2)==[])<;>cases (((Dt.L d 3).length:Int)==0)<;>rfl
theorem OJ (m:Nat) (d:Dt):gq (m+1) d=some (zvl d):=by
 rw[gq,zvl]
 cases (Dt.I d 0==0)<;>cases (Dt.I d 1==0)<;>cases (ByteArray.toList (Dt.S d 2)==[])<;>cases (((Dt.L d 3).length:Int)==0)<;>rfl
theorem PX (m:Nat) (d:Dt):eG (m+2) d=some (zex d):=by
 rw[eG,Gw,Option.bind_some,zex]
 cases (Dt.I d 0==0)<;>cases (((Dt.L d 1).length:Int)==0)<;>cases (ByteArray.toList (Dt.S d 2)==[])<;>cases (((Dt.L d 3).length:Int)==0)<;>cases zvl (Dt.fld d 4)<;>cases (Dt.I d 5==0)<;>rfl
theorem amb (m:Nat) (d:Dt):je (m+2) d=some (zex d):=by
 rw[je,OJ,Option.bind_some,zex]
 cases (Dt.I d 0==0)<;>cases (((Dt.L d 1).length:Int)==0)<;>cases (ByteArray.toList (Dt.S d 2)==[])<;>cases (((Dt.L d 3).length:Int)==0)<;>cases zvl (Dt.fld d 4)<;>cases (Dt.I d 5==0)<;>rfl
theorem aj9 (m:Nat) (d:Dt):jd (m+1) d=some (zsh d):=by
 rw[jd,zsh]
 cases (Dt.I d 0==0)<;>cases (((Dt.L d 1).length:Int)==0)<;>rfl
section
variable (m:Nat) (d:Dt)
theorem pc6 (b:Bool):rR (m+2) b d=some (bif b then false else c6 d):=by
 rw[rR,w9,PX,Option.bind_some,c6]
 cases b<;>cases (Dt.I d 0 !=24)<;>cases zex (Dt.fld d 7)<;>rfl
theorem pc5 (b:Bool):rT (m+2) b d=some (bif b then false else c5 d):=by
 rw[rT,xg,c5,zsh,V9]
 simp only[pc6,acj]
 cases b<;>cases (Dt.I d 0==18)<;>cases (Dt.I (Dt.fld d 6) 0==0)<;>cases (((Dt.L (Dt.fld d 6) 1).length:Int)==0)<;>cases (Dt.I (Dt.fld d 6) 2==0)<;>rfl
theorem pc4 (b:Bool):rU (m+2) b d=some (bif b then false else c4 d):=by
 rw[rU,xk,c4]
 simp only[pc5]
 cases b<;>cases (Dt.I d 0 !=12)<;>cases (Dt.I d 5 !=0)<;>rfl
theorem pc3 (b:Bool):rV (m+2) b d=some (bif b then false else c3 d):=by
 rw[rV,xq,aey,Option.bind_some,c3]
 simp only[pc4]
 cases b<;>cases uN (Dt.I d 0)<;>cases (Dt.I d 4 !=0)<;>rfl
theorem pc2 (b:Bool):rW (m+2) b d=some (bif b then false else c2 d):=by
 rw[rW,xu,u6,Option.bind_some,c2,V9]
 simp only[pc3]
 cases b<;>cases Ep (Dt.I d 0)<;>cases (((Dt.L d 3).length:Int)==0)<;>rfl
theorem pc0 (b:Bool):rX (m+2) b d=some (bif b then false else c1 d):=by
 rw[rX,xw,Gv,Option.bind_some,Gw,Option.bind_some,c1]
 simp only[pc2]
 cases b<;>cases ama (Dt.I d 0)<;>cases zvl (Dt.fld d 2)<;>rfl
theorem aNq:j5 (m+3) d=some (clB d):=by
 rw[j5,CV,Ic,Option.bind_some,clB,V9]
 simp only[pc0]
 cases onP (Dt.I d 0)<;>cases (((Dt.L d 1).length:Int)==0)<;>rfl
theorem ru3:jX (m+2) d=some (c5 d):=by
 rw[jX,amb,aj9,c5,c6]
 simp only[acj,Option.bind_some]
 cases (Dt.I d 0==18)<;>cases (Dt.I d 0==24)<;>cases zsh (Dt.fld d 6)<;>cases zex (Dt.fld d 7)<;>rfl
theorem ru1:tC (m+2) d=some (c3 d):=by
 rw[tC,wG,c3,c4,uN]
 simp only[tu,ru3,acj]
 cases (Dt.I d 0==10)<;>cases (Dt.I d 0==11)<;>cases (Dt.I d 0==12)<;>cases (Dt.I d 0==13)<;>cases (Dt.I d 4==0)<;>cases (Dt.I d 5==0)<;>rfl
theorem aIz:l5 (m+3) d=some (clB d):=by
 rw[l5,DR,Uw,Ux,OJ,EC,clB,c1,c2,V9,V9]
 simp only[tF,ru1,Option.bind_some]
 cases onP (Dt.I d 0)<;>cases (((Dt.L d 1).length:Int)==0)<;>cases ama (Dt.I d 0)<;>cases zvl (Dt.fld d 2)<;>cases Ep (Dt.I d 0)<;>cases (((Dt.L d 3).length:Int)==0)<;>rfl
end
end Go.Proofs.YtjnkagkoolbodaaGreatDoor
namespace Go.Proofs.YtjnkagkoolbodaaGreatDoor
open Go.Am
theorem aNr (l:List Dt) (m:Nat) (hm:50≤m):pq m l=some (vld l):=by
 obtain⟨q,rfl⟩:∃q,m=q+3:=⟨m-3,by omega⟩
 exact valid_eq q (by omega) l
theorem axh (l:List Dt) (m:Nat) (hm:50≤m):bG m l=some (vld l):=by
 obtain⟨q,rfl⟩:∃q,m=q+1:=⟨m-1,by omega⟩
 exact KC q (by omega) l
theorem avc {d:Dt} (hw:WV d) (m:Nat) (hm:3*d.bulk+310≤m) (hb:d.bulk≤100000000000):jA m d=some (okV d):=by
 obtain⟨q,rfl⟩:∃q,m=q+3:=⟨m-3,by omega⟩
 exact aqL hw q (by omega) hb
theorem avd {d:Dt} (hw:WV d) (m:Nat) (hm:3*d.bulk+310≤m) (hm2:m<900000000000) (hb:d.bulk≤100000000000):dJ m d=some (okV d):=by
 obtain⟨q,rfl⟩:∃q,m=q+4:=⟨m-4,by omega⟩
 exact ahd hw q (by omega) (by omega) hb
theorem aUU {d:Dt} (hw:WE d) (m:Nat) (hm:3*d.bulk+430≤m) (hm2:m<900000000000) (hb:d.bulk≤100000000):sw m d=some (ckE 16 d 0).2:=by
 obtain⟨q,rfl⟩:∃q,m=q+23:=⟨m-23,by omega⟩
 exact aBe d.bulk hb q (by omega) (by omega) d hw (Nat.le_refl _)
theorem aNs {d:Dt} (hw:WE d) (m:Nat) (hm:3*d.bulk+430≤m) (hm2:m<900000000000) (hb:d.bulk≤100000000):aV m d=some (ckE 16 d 0).2:=by
 obtain⟨q,rfl⟩:∃q,m=q+23:=⟨m-23,by omega⟩
 exact aco d.bulk hb q (by omega) (by omega) d hw (Nat.le_refl _)
theorem aWF (d:Dt) (m:Nat) (hm:d.bulk+10≤m) (hb:d.bulk≤100000000):CU m d=some (al8 d):=by
 obtain⟨q,rfl⟩:∃q,m=q+3:=⟨m-3,by omega⟩
 have:=aO d 1
 exact aWE q d (by omega) (by omega)
theorem aNt (d:Dt) (m:Nat) (hm:d.bulk+10≤m) (hb:d.bulk≤100000000):iG m d=some (al8 d):=by
 obtain⟨q,rfl⟩:∃q,m=q+3:=⟨m-3,by omega⟩
 have:=aO d 1
 exact aNp q d (by omega) (by omega)
def n6 (d:Dt):Int:=bif Dt.I d 0==24 then(ckE 16 (Dt.fld d 7) 0).2 else 0
def n5 (d:Dt):Int:=bif !clB d then 4 else n6 d
def n4 (d:Dt):Int:=bif Dt.I d 0==18&&al8 (Dt.fld d 6) !=0 then al8 (Dt.fld d 6) else n5 d
def n3 (d:Dt):Int:=bif Ep (Dt.I d 0)&&!(Dt.L d 3).all okV then 8 else n4 d
def n2 (d:Dt):Int:=bif (ama (Dt.I d 0)&&!okV (Dt.fld d 2))||(txt (Dt.I d 0)&&Dt.I (Dt.fld d 2) 0 !=4) then 8 else n3 d
def n1 (b:Bool) (d:Dt):Int:=bif onP (Dt.I d 0)&&(!vld (Dt.L d 1)&&(!b||!(((Dt.L d 1).length:Int)==0))) then 10 else n2 d
def n0 (b:Bool) (d:Dt):Int:=bif (Ep (Dt.I d 0)&&(((Dt.L d 3).length:Int)==0))||!axg d then 11 else n1 b d
def aqO (b:Bool) (d:Dt):Int:=bif decide (Dt.I d 0<1)||(decide (24<Dt.I d 0)||!kdB (Dt.I d 0) ((Dt.L d 8).length:Int)) then 11 else n0 b d
section
variable {m:Nat} {d:Dt} (hw:WP d) (hb:d.bulk≤100000000) (hm:3*d.bulk+500≤m) (hm2:m<900000000000)
include hw hb hm hm2
theorem pn6:jS m d=some (n6 d):=by
 cases hw with
 |mk h2 h3 h7 h8=>
  have f7:=aA d 7
  rw[jS,aUU h7 m (by omega) hm2 (by omega),Option.bind_some,n6]
  cases (Dt.I d 0==24)<;>rfl
theorem pn5:jU m d=some (n5 d):=by
 have e:=pn6 hw hb hm hm2
 obtain⟨q,rfl⟩:∃q,m=q+3:=⟨m-3,by omega⟩
 rw[jU,aNq,Option.bind_some,n5,e]
 cases clB d<;>rfl
theorem pn4:gJ m d=some (n4 d):=by
 have f6:=aA d 6
 rw[gJ,pV,aWF (Dt.fld d 6) m (by omega) (by omega),Option.bind_some,n4,pn5 hw hb hm hm2]
 cases (Dt.I d 0==18)<;>cases (al8 (Dt.fld d 6) !=0)<;>rfl
theorem aSF:∀(M i:Nat),i≤(Dt.L d 3).length→(Dt.L d 3).length-i<M→fD m M (Dt.L d 3) ((Dt.L d 3).length:Int) (i:Int) d=some (bif !((Dt.L d 3).drop i).all okV then 8 else n4 d)
 |0,i,_,h=>by omega
 |M+    1,i,hi,h=>by
  rw[fD,dlt]
  by_cases hlt:i<(Dt.L d 3).length
  ·have hv:WV (Dt.L d 3)[i]:=by cases hw with|mk h2 h3 h7 h8=>exact h3 _ (List.getElem_mem hlt)
   have l3:=aO d 3
   have lb:=bA (List.getElem_mem hlt)
   rw[decide_eq_true hlt,cond_true,qQ,ay hlt,Option.bind_some,avc hv m (by omega) (by omega),Option.bind_some,List.drop_eq_getElem_cons hlt,List.all_cons]
   cases okV (Dt.L d 3)[i]
   ·rfl
   ·    rw[Bool.not_true,cond_false,qP,aT (show i<9223372036854775807 by omega),aSF M (i+1) (by omega) (by omega)]
        rfl
  ·have e:i=(Dt.L d 3).length:=by omega
   subst e
   rw[decide_eq_false (Nat.lt_irrefl _),cond_false,pn4 hw hb hm hm2,List.drop_length]
   rfl
theorem pn3:mg m d=some (n3 d):=by
 have e:=aSF hw hb hm hm2 (m+1) 0 (Nat.zero_le _) (by have:=aO d 3;omega)
 rw[List.drop_zero] at e
 have e:sF m (Dt.L d 3) ((Dt.L d 3).length:Int) 0 d=_:=e
 have e4:=pn4 hw hb hm hm2
 rw[n3]
 obtain⟨q,rfl⟩:∃q,m=q+3:=⟨m-3,by omega⟩
 rw[mg,u6,Option.bind_some,e,e4]
 cases Ep (Dt.I d 0)<;>rfl
theorem pn2:mh m d=some (n2 d):=by
 have e3:=pn3 hw hb hm hm2
 have h2:WV (Dt.fld d 2):=by cases hw with|mk h2 h3 h7 h8=>exact h2
 have f2:=aA d 2
 have ev:=avc h2 m (by omega) (by omega)
 rw[n2]
 obtain⟨q,rfl⟩:∃q,m=q+3:=⟨m-3,by omega⟩
 rw[mh,qR,Gv,Option.bind_some,ev,Option.bind_some,Gu]
 simp only[Option.bind_some,sG,e3]
 cases ama (Dt.I d 0)<;>cases okV (Dt.fld d 2)<;>cases txt (Dt.I d 0)<;>cases (Dt.I (Dt.fld d 2) 0 !=4)<;>rfl
theorem pn1 (b:Bool):mo m b d=some (n1 b d):=by
 have e2:=pn2 hw hb hm hm2
 have ev:=aNr (Dt.L d 1) m (by omega)
 rw[n1]
 obtain⟨q,rfl⟩:∃q,m=q+3:=⟨m-3,by omega⟩
 rw[mo,qU,Ic,Option.bind_some,ev,Option.bind_some,V9]
 simp only[sH,e2]
 cases onP (Dt.I d 0)<;>cases vld (Dt.L d 1)<;>cases b<;>cases (((Dt.L d 1).length:Int)==0)<;>rfl
theorem pn0 (b:Bool):mq m b d=some (n0 b d):=by
 have e1:=pn1 hw hb hm hm2 b
 rw[n0]
 obtain⟨q,rfl⟩:∃q,m=q+3:=⟨m-3,by omega⟩
 rw[mq,qV,u6,Option.bind_some,Xf,Option.bind_some]
 simp only[sI,e1]
 cases Ep (Dt.I d 0)<;>cases (((Dt.L d 3).length:Int)==0)<;>cases axg d<;>rfl
theorem aWG (b:Bool):fF (m+1) d b=some (aqO b d):=by
 have e0:=pn0 hw hb hm hm2 b
 rw[aqO]
 obtain⟨q,rfl⟩:∃q,m=q+3:=⟨m-3,by omega⟩
 rw[fF,wz,Xg,Option.bind_some]
 simp only[sJ,e0]
 cases decide (Dt.I d 0<1)<;>cases decide (24<Dt.I d 0)<;>cases kdB (Dt.I d 0) ((Dt.L d 8).length:Int)<;>rfl
end
end Go.Proofs.YtjnkagkoolbodaaGreatDoor
namespace Go.Proofs.YtjnkagkoolbodaaGreatDoor
open Go.Am
def ape (f:Dt→Int):List Dt→Int
 | []=>0
 |e::r=>bif f e !=0 then f e else ape f r
def ckP:Nat→Bool→Dt→Int
 |0,_,_=>0
 |N+1,b,d=>bif aqO b d !=0 then aqO b d else ape (ckP N (b||Dt.I d 0==15)) (Dt.L d 8)
def ftL (f:Dt→Nat→Bool×Nat):List Dt→Nat→Bool×Nat
 | [],n=>(true,n)
 |e::r,n=>bif (f e n).1 then ftL f r (f e n).2 else(false,(f e n).2)
def ftP:Nat→Dt→Nat→Bool×Nat
 |0,_,n=>(false,n)
 |r+1,d,n=>bif Nat.beq n 256 then(false,n) else ftL (ftP r) (Dt.L d 8) (n+1)
theorem aIA {f:Dt→Nat→Bool×Nat} (h:∀e n,n≤256→(f e n).2≤256):∀(l:List Dt) (n:Nat),n≤256→(ftL f l n).2≤256
 | [],n,hn=>hn
 |e::r,n,hn=>by
  rw[ftL]
  cases (f e n).1 with
  |false=>exact h e n hn
  |true=>exact aIA h r _ (h e n hn)
theorem aUV {n:Nat} (h:Nat.beq n 256=false):n≠256:=fun e=>by subst e;cases h
theorem arW:∀(r:Nat) (d:Dt) (n:Nat),n≤256→(ftP r d n).2≤256
 |0,d,n,hn=>hn
 |r+1,d,n,hn=>by
  rw[ftP]
  cases hb:Nat.beq n 256 with
  |true=>exact hn
  |false=>exact aIA (fun e n h=>arW r e n h) _ _ (by have:=aUV hb;show n+1≤256;omega)
theorem aIB (m:Nat) (self:Dt→Int→Int→Option (Bool×Int)) (f:Dt→Nat→Bool×Nat) (lv:Int) (h0:0≤lv∧lv≤17) (L:List Dt) (hl:L.length<9223372036854775807) (hf:∀e n,n≤256→(f e n).2≤256)
  (hs:∀e∈L,∀n:Nat,n≤256→self e (lv+1) (n:Int)=some ((f e n).1,((f e n).2:Int))):∀(M i n:Nat),i≤L.length→L.length-i<M→n≤256→
  aaV m self M lv L (L.length:Int) (i:Int) (n:Int)=some ((ftL f (L.drop i) n).1,((ftL f (L.drop i) n).2:Int))
 |0,i,_,_,h,_=>by omega
 |M+    1,i,n,hi,h,hn=>by
  rw[aaV,dlt]
  by_cases hlt:i<L.length
  ·have hsi:=hs _ (List.getElem_mem hlt) n hn
   have hfi:=hf L[i] n hn
   rw[decide_eq_true hlt,cond_true,axB,asb,ay hlt,Option.bind_some,wrap64 (n:=lv+1) (by omega) (by omega),hsi,Option.bind_some,List.drop_eq_getElem_cons hlt,ftL]
   show (bif Bool.not (f L[i] n).1 then some (false,((f L[i] n).2:Int)) else asa m self (aaV m self M) lv L (L.length:Int) (i:Int) ((f L[i] n).2:Int))=_
   cases (f L[i] n).1 with
   |false=>rfl
   |    true=>
        rw[Bool.not_true,cond_false,cond_true,asa,aT (by omega)]
        exact aIB m self f lv h0 L hl hf hs M (i+1) _ (by omega) (by omega) hfi
  ·have e:i=L.length:=by omega
   subst e
   rw[decide_eq_false hlt,List.drop_length,ftL]
   rfl
theorem aAF (B:Nat) (hB:B≤100000000) (k:Nat) (hk:B≤k) (hk2:k<9223372036854760000):∀(r:Nat),r≤16→∀(d:Dt) (n:Nat),d.bulk≤B→n≤256→
  i27 (k+r+2) d ((17:Int)-(r:Int)) (n:Int)=some ((ftP r d n).1,((ftP r d n).2:Int))
 |0,_,d,n,_,_=>rfl
 |r+    1,hr,d,n,hb,hn=>by
  rw[show k+(r+1)+2=(k+r+2)+1 by omega,i27,decide_eq_false (by omega),cond_false,asc,ftP]
  by_cases h256:n=256
  ·subst h256;rfl
  ·have e1:(((n:Nat):Int)==256)=false:=by rw[beq_eq_false_iff_ne];omega
   have e2:Nat.beq n 256=false:=by
        cases hh:Nat.beq n 256 with
        |false=>rfl
        |true=>exact absurd (Nat.eq_of_beq_eq_true hh) h256
   have hl8:=aO d 8
   rw[e1,e2,cond_false,cond_false,axD,axC,aT (by omega)]
   have key:=aIB (k+r+2) (i27 (k+r+2)) (ftP r) ((17:Int)-((r+1:Nat):Int)) (by omega) (Dt.L d 8) (by omega) (fun e n h=>arW r e n h) (fun e he n hn=>by
        have hm:=bA he
        have:=aAF B hB k hk hk2 r (by omega) e n (by omega) hn
        rw[←this]
        congr 1
        omega) ((k+r+2)+1) 0 (n+1) (Nat.zero_le _) (by omega) (by omega)
   rw[List.drop_zero] at key
   exact key
theorem aAG (m:Nat) (self:Dt→Int→Int→Option Int) (f:Dt→Nat→Bool×Nat) (lv:Int) (h0:0≤lv∧lv≤17) (d:Dt) (hl:(Dt.L d 8).length<9223372036854775807) (hf:∀e n,n≤256→(f e n).2≤256)
  (hs:∀e∈Dt.L d 8,∀n:Nat,n≤256→self e (lv-1) ((256-n:Nat):Int)=some (bif (f e n).1 then((256-(f e n).2:Nat):Int) else -1)):∀(M i n:Nat),i≤(Dt.L d 8).length→(Dt.L d 8).length-i+1<M→n≤256→
  gN m self M lv ((256-n:Nat):Int) (i:Int) d=some (bif (ftL f ((Dt.L d 8).drop i) n).1 then((256-(ftL f ((Dt.L d 8).drop i) n).2:Nat):Int) else -1)
 |0,i,_,_,h,_=>by omega
 |M+    1,i,n,hi,h,hn=>by
  rw[gN,dlt]
  by_cases hlt:i<(Dt.L d 8).length
  ·have hsi:=hs _ (List.getElem_mem hlt) n hn
   have hfi:=hf (Dt.L d 8)[i] n hn
   rw[decide_eq_true hlt,cond_true,decide_eq_true (show (0:Int)≤((256-n:Nat):Int) by omega),cond_true,Aj,ay hlt,Option.bind_some,wrap64 (n:=lv-1) (by omega) (by omega),hsi,Option.bind_some,List.drop_eq_getElem_cons hlt,ftL]
   cases (f (Dt.L d 8)[i] n).1 with
   |    false=>
        rw[cond_false,cond_false,vk,aT (by omega)]
        obtain⟨M,rfl⟩:∃q,M=q+1:=⟨M-1,by omega⟩
        rw[gN]
        cases decide (((i+1:Nat):Int)<((Dt.L d 8).length:Int))<;>rfl
   |    true=>
        rw[cond_true,cond_true,vk,aT (by omega)]
        exact aAG m self f lv h0 d hl hf hs M (i+1) _ (by omega) (by omega) hfi
  ·have e:i=(Dt.L d 8).length:=by omega
   subst e
   rw[decide_eq_false hlt,List.drop_length,ftL]
   rfl
theorem ave (B:Nat) (hB:B≤100000000) (k:Nat) (hk:B≤k) (hk2:k<9223372036854760000):∀(r:Nat),r≤16→∀(d:Dt) (n:Nat),d.bulk≤B→n≤256→
  bF (k+r+3) d (r:Int) ((256-n:Nat):Int)=some (bif (ftP r d n).1 then((256-(ftP r d n).2:Nat):Int) else -1)
 |0,_,d,n,_,_=>rfl
 |r+    1,hr,d,n,hb,hn=>by
  have e0:(((r+1:Nat):Int)==0)=false:=by rw[beq_eq_false_iff_ne];omega
  rw[show k+(r+1)+3=(k+r+3)+1 by omega,bF,e0,cond_false,ql,ftP]
  by_cases h256:n=256
  ·subst h256;rfl
  ·have e1:decide (((256-n:Nat):Int)≤0)=false:=decide_eq_false (by omega)
   have e2:Nat.beq n 256=false:=by
        cases hh:Nat.beq n 256 with
        |false=>rfl
        |true=>exact absurd (Nat.eq_of_beq_eq_true hh) h256
   have hl8:=aO d 8
   rw[e1,e2,cond_false,cond_false,Iw,Iu,wrap64 (n:=((256-n:Nat):Int)-1) (by omega) (by omega),show ((256-n:Nat):Int)-1=((256-(n+1):Nat):Int) by omega]
   have key:=aAG (k+r+3) (bF (k+r+3)) (ftP r) ((r+1:Nat):Int) (by omega) d (by omega) (fun e n h=>arW r e n h) (fun e he n hn=>by
        have hm:=bA he
        have:=ave B hB k hk hk2 r (by omega) e n (by omega) hn
        rw[←this]
        congr 1
        omega) ((k+r+3)+1) 0 (n+1) (Nat.zero_le _) (by omega) (by omega)
   rw[List.drop_zero] at key
   exact key
theorem aAH (m:Nat) (self:Dt→Bool→Option Int) (f:Dt→Int) (b:Bool) (d:Dt) (hl:(Dt.L d 8).length<9223372036854775807) (hs:∀e∈Dt.L d 8,self e (b||Dt.I d 0==15)=some (f e)):∀(M i:Nat),i≤(Dt.L d 8).length→(Dt.L d 8).length-i<M→
  gD m self M b (Dt.L d 8) ((Dt.L d 8).length:Int) (i:Int) d=some (ape f ((Dt.L d 8).drop i))
 |0,i,_,h=>by omega
 |M+    1,i,hi,h=>by
  rw[gD,dlt]
  by_cases hlt:i<(Dt.L d 8).length
  ·have hsi:=hs _ (List.getElem_mem hlt)
   have ih:=aAH m self f b d hl hs M (i+1) (by omega) (by omega)
   rw[decide_eq_true hlt,cond_true,zR,xC,ay hlt,Option.bind_some,List.drop_eq_getElem_cons hlt,ape]
   have j4:sK m self (gD m self M) b (f (Dt.L d 8)[i]) (Dt.L d 8) ((Dt.L d 8).length:Int) (i:Int) d=some (bif f (Dt.L d 8)[i] !=0 then f (Dt.L d 8)[i] else ape f ((Dt.L d 8).drop (i+1))):=by
        rw[sK]
        cases (f (Dt.L d 8)[i] !=0) with
        |true=>rfl
        |false=>rw[cond_false,cond_false,zQ,aT (by omega)];exact ih
   cases b with
   |true=>rw[Bool.true_or] at hsi;rw[cond_true,hsi,Option.bind_some];exact j4
   |false=>rw[Bool.false_or] at hsi;rw[cond_false,hsi,Option.bind_some];exact j4
  ·have e:i=(Dt.L d 8).length:=by omega
   subst e
   rw[decide_eq_false hlt,List.drop_length,ape]
   rfl
theorem avf (B:Nat) (hB:B≤100000000) (k:Nat) (hk:3*B+500≤k) (hk2:k<800000000000):∀(N:Nat),N≤B→∀(d:Dt) (b:Bool),WP d→d.bulk≤N→bC (k+N+2) d b=some (ckP N b d)
 |0,_,d,b,_,hb=>by have:=bQ d;omega
 |N+1,hN,d,b,hw,hb=>by
  have hl8:=aO d 8
  have h8:∀e∈Dt.L d 8,WP e:=by cases hw with|mk h2 h3 h7 h8=>exact h8
  rw[show k+(N+1)+2=(k+N+2)+1 by omega,bC,show k+N+2=(k+N+1)+1 by omega,aWG hw (by omega) (by omega) (by omega) b,Option.bind_some,ckP]
  cases (aqO b d !=0) with
  |true=>rfl
  |false=>
   rw[cond_false,cond_false,zT,zS]
   have key:=aAH ((k+N+1)+1) (bC ((k+N+1)+1)) (ckP N (b||Dt.I d 0==15)) b d (by omega) (fun e he=>avf B hB k hk hk2 N (by omega) e _ (h8 e he) (by have:=bA he;omega)) (k+N+1+1+1) 0 (Nat.zero_le _) (by omega)
   rw[List.drop_zero] at key
   exact key
section
variable {m:Nat} {d:Dt} (self:Dt→Bool→Option Int) (b:Bool) (hw:WP d) (hb:d.bulk≤100000000) (hm:3*d.bulk+500≤m) (hm2:m<900000000000) {K:Option Int} (hK:ref13_node_j13 m self b d=K) (h24:(Dt.I d 0==24)=true→K=some 0)
include hw hb hm hm2 hK h24
theorem aXn:vU m self b d=bif n6 d !=0 then some (n6 d) else K:=by
 cases hw with
 |mk h2 h3 h7 h8=>
  have f7:=aA d 7
  rw[vU,aNs h7 m (by omega) hm2 (by omega),Option.bind_some,n6,hK]
  cases h:(Dt.I d 0==24) with
  |false=>rfl
  |true=>
   rw[cond_true,cond_true,h24 h]
   cases hz:((ckE 16 (Dt.fld d 7) 0).2 !=0) with
   |true=>rfl
   |    false=>
        have:(ckE 16 (Dt.fld d 7) 0).2=0:=by simpa [bne] using hz
        rw[this]
        rfl
theorem aXo:qK m self b d=bif n5 d !=0 then some (n5 d) else K:=by
 have e:=aXn self b hw hb hm hm2 hK h24
 obtain⟨q,rfl⟩:∃q,m=q+3:=⟨m-3,by omega⟩
 rw[qK,aIz,Option.bind_some,n5,e]
 cases clB d<;>rfl
theorem aXp:nH m self b d=bif n4 d !=0 then some (n4 d) else K:=by
 have f6:=aA d 6
 rw[nH,yJ,aNt (Dt.fld d 6) m (by omega) (by omega),Option.bind_some,n4,aXo self b hw hb hm hm2 hK h24]
 cases (Dt.I d 0==18)
 ·rfl
 ·cases hz:(al8 (Dt.fld d 6) !=0)
  ·rfl
  ·simp only[cond_true,Bool.and_self,hz]
theorem rn7:∀(M i:Nat),i≤(Dt.L d 3).length→(Dt.L d 3).length-i<M→mF m self M b (i:Int) d=bif (bif Ep (Dt.I d 0)&&!((Dt.L d 3).drop i).all okV then 8 else n4 d) !=0 then some (bif Ep (Dt.I d 0)&&!((Dt.L d 3).drop i).all okV then 8 else n4 d) else K
 |0,i,_,h=>by omega
 |M+1,i,hi,h=>by
  have e4:=aXp self b hw hb hm hm2 hK h24
  have hua:bX m (Dt.I d 0)=some (Ep (Dt.I d 0)):=by
   obtain⟨q,rfl⟩:∃q,m=q+1:=⟨m-1,by omega⟩
   exact EC q _
  rw[mF,Bt,dlt]
  by_cases hlt:i<(Dt.L d 3).length
  ·have hv:WV (Dt.L d 3)[i]:=by cases hw with|mk h2 h3 h7 h8=>exact h3 _ (List.getElem_mem hlt)
   have l3:=aO d 3
   have lb:=bA (List.getElem_mem hlt)
   have ih:=rn7 M (i+1) (by omega) (by omega)
   rw[decide_eq_true hlt,cond_true,hua,Option.bind_some,D5,ay hlt,Option.bind_some,avd hv m (by omega) (by omega) (by omega),Option.bind_some,DZ,aT (show i<9223372036854775807 by omega),ih,e4,List.drop_eq_getElem_cons hlt,List.all_cons]
   cases Ep (Dt.I d 0)
   ·rfl
   ·cases okV (Dt.L d 3)[i]<;>rfl
  ·have e:i=(Dt.L d 3).length:=by omega
   subst e
   rw[decide_eq_false (Nat.lt_irrefl _),cond_false,e4,List.drop_length]
   cases Ep (Dt.I d 0)<;>rfl
theorem rn5:MV m self b d=bif n3 d !=0 then some (n3 d) else K:=by
 have l3:=aO d 3
 have e:=rn7 self b hw hb hm hm2 hK h24 (m+1) 0 (Nat.zero_le _) (by omega)
 rw[List.drop_zero] at e
 rw[n3]
 exact e
theorem rn3:uD m self b d=bif n2 d !=0 then some (n2 d) else K:=by
 have e3:=rn5 self b hw hb hm hm2 hK h24
 have h2:WV (Dt.fld d 2):=by cases hw with|mk h2 h3 h7 h8=>exact h2
 have f2:=aA d 2
 have ev:=avd h2 m (by omega) (by omega) (by omega)
 rw[n2]
 obtain⟨q,rfl⟩:∃q,m=q+3:=⟨m-3,by omega⟩
 rw[uD,Bu,Ux,Option.bind_some,ev,Option.bind_some,QJ]
 simp only[Option.bind_some,yj,e3]
 cases h:ama (Dt.I d 0)
 ·rw[show txt (Dt.I d 0)=false from by unfold ama at h;rw[Bool.or_eq_false_iff] at h;exact h.2]
  rfl
 ·cases okV (Dt.fld d 2)<;>cases txt (Dt.I d 0)<;>cases (Dt.I (Dt.fld d 2) 0 !=4)<;>rfl
theorem rn1:yu m self b d=bif n1 b d !=0 then some (n1 b d) else K:=by
 have e2:=rn3 self b hw hb hm hm2 hK h24
 have ev:=axh (Dt.L d 1) m (by omega)
 rw[n1]
 obtain⟨q,rfl⟩:∃q,m=q+3:=⟨m-3,by omega⟩
 rw[yu,Bv,Uw,Option.bind_some,ev,Option.bind_some]
 simp only[yt,e2]
 cases onP (Dt.I d 0)<;>cases vld (Dt.L d 1)<;>cases b<;>cases (((Dt.L d 1).length:Int)==0)<;>rfl
end
theorem aIC (m:Nat) (self:Dt→Bool→Option Int) (f:Dt→Int) (b:Bool) (d:Dt) (hl:(Dt.L d 8).length<9223372036854775807) (hs:∀e∈Dt.L d 8,self e (b||Dt.I d 0==15)=some (f e)):∀(M i:Nat),i≤(Dt.L d 8).length→(Dt.L d 8).length-i<M→
  gu m self M b (i:Int) d=some (ape f ((Dt.L d 8).drop i))
 |0,i,_,h=>by omega
 |M+    1,i,hi,h=>by
  rw[gu,dlt]
  by_cases hlt:i<(Dt.L d 8).length
  ·have hsi:=hs _ (List.getElem_mem hlt)
   have ih:=aIC m self f b d hl hs M (i+1) (by omega) (by omega)
   rw[decide_eq_true hlt,cond_true,Br,yI,ay hlt,Option.bind_some,List.drop_eq_getElem_cons hlt,ape]
   have j4:qJ m self (gu m self M) b (i:Int) (f (Dt.L d 8)[i]) d=some (bif f (Dt.L d 8)[i] !=0 then f (Dt.L d 8)[i] else ape f ((Dt.L d 8).drop (i+1))):=by
        rw[qJ]
        cases (f (Dt.L d 8)[i] !=0) with
        |true=>rfl
        |false=>rw[cond_false,cond_false,Bq,aT (by omega)];exact ih
   cases b with
   |true=>rw[Bool.true_or] at hsi;rw[cond_true,hsi,Option.bind_some];exact j4
   |false=>rw[Bool.false_or] at hsi;rw[cond_false,hsi,Option.bind_some];exact j4
  ·have e:i=(Dt.L d 8).length:=by omega
   subst e
   rw[decide_eq_false hlt,List.drop_length,ape]
   rfl
theorem aXq {d:Dt} (h:kdB (Dt.I d 0) ((Dt.L d 8).length:Int)=true) (h24:(Dt.I d 0==24)=true):Dt.L d 8=[]:=by
 rw[beq_iff_eq] at h24
 rw[h24] at h
 have:(((Dt.L d 8).length:Int)==0)=true:=h
 rw[beq_iff_eq] at this
 exact List.length_eq_zero_iff.1 (by omega)
theorem aAI (B:Nat) (hB:B≤100000000) (k:Nat) (hk:3*B+500≤k) (hk2:k<800000000000):∀(N:Nat),N≤B→∀(d:Dt) (b:Bool),WP d→d.bulk≤N→aN (k+N+2) d b=some (ckP N b d)
 |0,_,d,b,_,hb=>by have:=bQ d;omega
 |N+    1,hN,d,b,hw,hb=>by
  have hl8:=aO d 8
  have h8:∀e∈Dt.L d 8,WP e:=by cases hw with|mk h2 h3 h7 h8=>exact h8
  rw[show k+(N+1)+2=(k+N+2)+1 by omega,aN,K7,ckP,aqO]
  have key:=aIC (k+N+2) (aN (k+N+2)) (ckP N (b||Dt.I d 0==15)) b d (by omega) (fun e he=>aAI B hB k hk hk2 N (by omega) e _ (h8 e he) (by have:=bA he;omega)) (k+N+2+1) 0 (Nat.zero_le _) (by omega)
  rw[List.drop_zero] at key
  have key:ref13_node_j13 (k+N+2) (aN (k+N+2)) b d=_:=key
  have j1:=fun(hkd:kdB (Dt.I d 0) ((Dt.L d 8).length:Int)=true)=>rn1 (m:=k+N+2) (aN (k+N+2)) b hw (by omega) (by omega) (by omega) key (fun h=>by rw[aXq hkd h];rfl)
  cases hkd:kdB (Dt.I d 0) ((Dt.L d 8).length:Int) with
  |false=>
   rw[show k+N+2=(k+N+1)+1 by omega,aez,Option.bind_some,hkd]
   simp only[uE]
   cases decide (Dt.I d 0<1)<;>cases decide (24<Dt.I d 0)<;>rfl
  |true=>
   have e1:=j1 hkd
   rw[n0]
   rw[show k+N+2=(k+N+1)+1 by omega] at e1 ⊢
   rw[aez,Option.bind_some,hkd,EC,Option.bind_some,aj8,Option.bind_some]
   simp only[uE,e1,Option.bind_some]
   cases decide (Dt.I d 0<1)
   ·    cases decide (24<Dt.I d 0)
        ·cases Ep (Dt.I d 0)<;>cases (((Dt.L d 3).length:Int)==0)<;>cases axg d<;>simp only[Bool.not_true,Bool.not_false,cond_true,cond_false,Bool.and_true,Bool.and_false,Bool.or_true,Bool.or_false,Bool.false_or,Bool.true_or]<;>first|rfl|(cases (n1 b d !=0)<;>rfl)
        ·rfl
   ·rfl
def apf (d:Dt):Int:=bif !(ftP 16 d 0).1 then 2 else ckP d.bulk false d
theorem aC1 {d:Dt} (hw:WP d) (hb:d.bulk≤100000000) (m:Nat) (hm:4*d.bulk+600≤m) (hm2:m<800000000000):kV m d=some (apf d):=by
 obtain⟨q,rfl⟩:∃q,m=q+1:=⟨m-1,by omega⟩
 have h1:=aAF d.bulk hb (q-18) (by omega) (by omega) 16 (Nat.le_refl _) d 0 (Nat.le_refl _) (by omega)
 rw[show q-18+16+2=q by omega] at h1
 have h1:i27 q d 1 0=_:=h1
 have h2:=avf d.bulk hb (q-d.bulk-2) (by omega) (by omega) d.bulk (Nat.le_refl _) d false hw (Nat.le_refl _)
 rw[show q-d.bulk-2+d.bulk+2=q by omega] at h2
 rw[kV,h1,Option.bind_some,apf]
 show (bif Bool.not (ftP 16 d 0).1 then some 2 else nQ q d)=_
 rw[nQ,h2]
 cases (ftP 16 d 0).1<;>rfl
theorem avg {d:Dt} (hw:WP d) (hb:d.bulk≤100000000) (m:Nat) (hm:4*d.bulk+600≤m) (hm2:m<800000000000):mG m d=some (apf d):=by
 obtain⟨q,rfl⟩:∃q,m=q+1:=⟨m-1,by omega⟩
 have h1:=ave d.bulk hb (q-19) (by omega) (by omega) 16 (Nat.le_refl _) d 0 (Nat.le_refl _) (by omega)
 rw[show q-19+16+3=q by omega] at h1
 have h1:bF q d 16 256=_:=h1
 have h2:=aAI d.bulk hb (q-d.bulk-2) (by omega) (by omega) d.bulk (Nat.le_refl _) d false hw (Nat.le_refl _)
 rw[show q-d.bulk-2+d.bulk+2=q by omega] at h2
 rw[mG,h1,Option.bind_some,apf,vV,h2]
 have hle:=arW 16 d 0 (by omega)
 cases (ftP 16 d 0).1 with
 |false=>rfl
 |true=>
  rw[cond_true,decide_eq_false (by omega)]
  rfl
end Go.Proofs.YtjnkagkoolbodaaGreatDoor
namespace Go.Proofs.YtjnkagkoolbodaaGreatDoor
open Go.Am
theorem sVw {d:Dt} (hb:d.bulk≤100000000) (h:WV d) (m:Nat) (hm:d.bulk+1≤m):aC m d d=some true:=by
 obtain⟨q,rfl⟩:∃q,m=q+1:=⟨m-1,by omega⟩
 exact N9 d.bulk d (Nat.le_refl _) (by omega) h q (by omega)
theorem aSG (m:Nat) (self:Dt→Dt→Option Bool) (d:Dt) (hl:(Dt.L d 6).length≤1000000000) (hs:∀e∈Dt.L d 6,self e e=some true):∀(M i:Nat),i≤(Dt.L d 6).length→(Dt.L d 6).length-i<M→um m self M (i:Int) d d=some true
 |0,i,_,h=>by omega
 |M+1,i,hi,h=>by
  simp only[um,dlt]
  by_cases hlt:i<(Dt.L d 6).length
  ·simp only[hlt,decide_true,cond_true,xJ,xK,vv,xL,xM,xO,xP,ay hlt,Option.bind_some,hs _ (List.getElem_mem hlt),Bool.not_true,cond_false,aT (show i<9223372036854775807 by omega)]
   exact aSG m self d hl hs M (i+1) (by omega) (by omega)
  ·simp[hlt,xJ,xK,vv,xL,xM,xO,xP]
theorem sEx:∀(N:Nat) (d:Dt),d.bulk≤N→N≤10000000→WE d→∀m,4*N≤m→dz (m+1) d d=some true
 |0,d,h,_,_,_,_=>by have:=bQ d;omega
 |N+1,d,h,hN,hw,m,hm=>by
  obtain⟨q,rfl⟩:∃q,m=q+3:=⟨m-3,by omega⟩
  cases hw with
  |mk w4 w6=>
   have l1:=aO d 1
   have l3:=aO d 3
   have l6:=aO d 6
   have f4:=aA d 4
   have h1:aL (q+3) (Dt.L d 1) (Dt.L d 1)=some true:=Hg (q+1) _ (by omega) (by omega)
   have h3:aL (q+3) (Dt.L d 3) (Dt.L d 3)=some true:=Hg (q+1) _ (by omega) (by omega)
   have h4:=sVw (d:=Dt.fld d 4) (by omega) w4 (q+3) (by omega)
   have h6:=aSG (q+3) (dz (q+3)) d (by omega) (fun e he=>sEx N e (by have:=bA he;omega) (by omega) (w6 e he) (q+2) (by omega)) (q+4) 0 (Nat.zero_le _) (by omega)
   simp only[dz,UK,bne_self_eq_false,cond_false,h1,Option.bind_some,Bool.not_true,beq_self_eq_true,h3,h4,xJ,xK,vv,xL,xM,xO,xP]
   exact h6
theorem aWH {d:Dt} (hb:d.bulk≤10000000) (h:WE d) (m:Nat) (hm:4*d.bulk+1≤m):dz m d d=some true:=by
 obtain⟨q,rfl⟩:∃q,m=q+1:=⟨m-1,by omega⟩
 exact sEx d.bulk d (Nat.le_refl _) hb h q (by omega)
theorem aSH (m:Nat) (self:Dt→Dt→Option Bool) (d:Dt) (hl:(Dt.L d 8).length≤1000000000) (hs:∀e∈Dt.L d 8,self e e=some true):∀(M i:Nat),i≤(Dt.L d 8).length→(Dt.L d 8).length-i<M→iO m self M (i:Int) d d=some true
 |0,i,_,h=>by omega
 |M+1,i,hi,h=>by
  simp only[iO,dlt]
  by_cases hlt:i<(Dt.L d 8).length
  ·simp only[hlt,decide_true,cond_true,zk,wX,zh,ay hlt,Option.bind_some,hs _ (List.getElem_mem hlt),Bool.not_true,cond_false,aT (show i<9223372036854775807 by omega)]
   exact aSH m self d hl hs M (i+1) (by omega) (by omega)
  ·simp[hlt,zl]
theorem aSI (m:Nat) (self:Dt→Dt→Option Bool) (d:Dt) (hl:(Dt.L (Dt.fld d 6) 1).length≤1000000000) (h8:Aq m self d d=some true):∀(M i:Nat),i≤(Dt.L (Dt.fld d 6) 1).length→(Dt.L (Dt.fld d 6) 1).length-i<M→jD m self M (i:Int) d d=some true
 |0,i,_,h=>by omega
 |M+1,i,hi,h=>by
  simp only[jD,dlt]
  by_cases hlt:i<(Dt.L (Dt.fld d 6) 1).length
  ·simp only[hlt,decide_true,cond_true,Ap,zf,Ao,ay hlt,Option.bind_some,beq_self_eq_true,Bool.and_self,Bool.not_true,cond_false,aT (show i<9223372036854775807 by omega)]
   exact aSI m self d hl h8 M (i+1) (by omega) (by omega)
  ·simp only[hlt,decide_false,cond_false]
   exact h8
theorem sPr:∀(N:Nat) (d:Dt),d.bulk≤N→N≤10000000→WP d→∀m,8*N+20≤m→aR (m+1) d d=some true
 |0,d,h,_,_,_,_=>by have:=bQ d;omega
 |N+1,d,h,hN,hw,m,hm=>by
  obtain⟨q,rfl⟩:∃q,m=q+3:=⟨m-3,by omega⟩
  cases hw with
  |mk w2 w3 w7 w8=>
   have l1:=aO d 1
   have l8:=aO d 8
   have b3:=V3 d 3
   have f2:=aA d 2
   have f6:=aA d 6
   have l61:=aO (Dt.fld d 6) 1
   have f7:=aA d 7
   have h1:aL (q+3) (Dt.L d 1) (Dt.L d 1)=some true:=Hg (q+1) _ (by omega) (by omega)
   have h2:=sVw (d:=Dt.fld d 2) (by omega) w2 (q+3) (by omega)
   have h3:cu (q+3) (Dt.L d 3) (Dt.L d 3)=some true:=XL (d.bulk+6) (Dt.L d 3) (by omega) (by omega) w3 (q+1) (by omega)
   have h7:=aWH (d:=Dt.fld d 7) (by omega) w7 (q+3) (by omega)
   have h8:=aSH (q+3) (aR (q+3)) d (by omega) (fun e he=>sPr N e (by have:=bA he;omega) (by omega) (w8 e he) (q+2) (by omega)) (q+4) 0 (Nat.zero_le _) (by omega)
   have h6:=aSI (q+3) (aR (q+3)) d (by omega) h8 (q+4) 0 (Nat.zero_le _) (by omega)
   simp only[aR,EO,bne_self_eq_false,cond_false,h1,h2,h3,h7,Option.bind_some,Bool.not_true,Az,Ay,zm,Av,Au,Ar]
   exact h6
theorem aSJ (m:Nat) (d:Dt) (hl:(Dt.L d 4).length≤1000000000) (hs:∀e∈Dt.L d 4,aL m (Dt.L e 0) (Dt.L e 0)=some true∧dz m (Dt.fld e 1) (Dt.fld e 1)=some true):∀(M i:Nat),i≤(Dt.L d 4).length→(Dt.L d 4).length-i<M→uo m M (i:Int) d d=some true
 |0,i,_,h=>by omega
 |M+1,i,hi,h=>by
  simp only[uo,dlt]
  by_cases hlt:i<(Dt.L d 4).length
  ·simp only[hlt,decide_true,cond_true,IC,EP,IB,Iz,ay hlt,Option.bind_some,(hs _ (List.getElem_mem hlt)).1,(hs _ (List.getElem_mem hlt)).2,Bool.not_true,cond_false,aT (show i<9223372036854775807 by omega)]
   exact aSJ m d hl hs M (i+1) (by omega) (by omega)
  ·simp[hlt,IE]
theorem aSK (m:Nat) (d:Dt) (hl:(Dt.L d 3).length≤1000000000) (hs:∀e∈Dt.L d 3,aL m (Dt.L e 0) (Dt.L e 0)=some true) (h7:Mh m d d=some true):∀(M i:Nat),i≤(Dt.L d 3).length→(Dt.L d 3).length-i<M→uq m M (i:Int) d d=some true
 |0,i,_,h=>by omega
 |M+1,i,hi,h=>by
  simp only[uq,dlt]
  by_cases hlt:i<(Dt.L d 3).length
  ·simp only[hlt,decide_true,cond_true,Mg,Iy,Me,Md,ay hlt,Option.bind_some,hs _ (List.getElem_mem hlt),bne_self_eq_false,Bool.not_true,cond_false,aT (show i<9223372036854775807 by omega)]
   exact aSK m d hl hs h7 M (i+1) (by omega) (by omega)
  ·simp only[hlt,decide_false,cond_false]
   exact h7
theorem sPj (m:Nat) (d:Dt) (hb:d.bulk≤10000000) (hm:4*d.bulk+20≤m) (hc:HasTy Tryz.prog 45 d):vw (m+1) d d=some true:=by
 obtain⟨q,rfl⟩:∃q,m=q+2:=⟨m-2,by omega⟩
 have l1:=aO d 1
 have l3:=aO d 3
 have l4:=aO d 4
 have hp:∀k,∀e∈Dt.L d k,aL (q+2) (Dt.L e 0) (Dt.L e 0)=some true:=fun k e he=>Hg q _ (by have:=aO e 0;have:=bA he;omega) (by have:=aO e 0;have:=bA he;omega)
 have h1:cB (q+2) (Dt.L d 1) (Dt.L d 1)=some true:=awt (q+1) d.bulk (by omega) _ (fun e he=>Nat.le_of_lt (bA he)) (by omega) (by omega)
 have h4:=aSJ (q+2) d (by omega) (fun e he=>⟨hp 4 e he,by
  have h1:=bA he
  have h2:=aA e 1
  exact aWH (by omega) (akZ _ _ (Nat.le_refl _) (Ah (KX hc e he))) (q+2) (by omega)⟩) (q+3) 0 (Nat.zero_le _) (by omega)
 have h3:=aSK (q+2) d (by omega) (hp 3) h4 (q+3) 0 (Nat.zero_le _) (by omega)
 simp only[vw,UL,beq_self_eq_true,Bool.not_true,bne_self_eq_false,cond_false,h1,Option.bind_some,Mk,Mj,Mi]
 exact h3
end Go.Proofs.YtjnkagkoolbodaaGreatDoor
namespace Go.Proofs.YtjnkagkoolbodaaGreatDoor
open Go.Am
theorem akP {T:TypeId} {d:Dt} (h:aeI Tryz.prog T=some d):HasTy Tryz.prog T d:=by
 obtain⟨i,z,_,_,_,hr⟩:=(qW h).ex
 exact⟨fun _=>True,⟨#[],fun _ _=>0,0,default,#[]⟩,_,hr _ _⟩
def eBy:ByteArray:=ByteArray.mk (List.toArray [])
def zV0:Dt:= .agg [.int 0,.int 0,.str eBy,.lst [],.lst []]
def zS0:Dt:= .agg [.int 0,.lst [],.int 0]
def zE0:Dt:= .agg [.int 0,.lst [],.str eBy,.lst [],zV0,.int 0,.lst []]
def zP0:Dt:= .agg [.bool false,.lst [],.bool false,.lst [],.lst []]
set_option maxRecDepth 100000
theorem aSL:HasTy Tryz.prog 30 zV0:=akP (by kernel_rfl)
theorem aWI:HasTy Tryz.prog 33 zS0:=akP (by kernel_rfl)
theorem aSM:HasTy Tryz.prog 36 zE0:=akP (by kernel_rfl)
theorem aWJ:HasTy Tryz.prog 45 zP0:=akP (by kernel_rfl)
def mkP (op:Int) (kids:List Dt):Dt:= .agg [.int op,.lst [],zV0,.lst [],.int 0,.int 0,zS0,zE0,.lst kids]
theorem avh (op:Int) (kids:List Dt):(mkP op kids).bulk≤Dt.bulkL kids+60:=by
 have e:eBy.size=0:=rfl
 simp only[mkP,zV0,zS0,zE0,Dt.bulk,Dt.bulkL,e]
 omega
theorem aID (op:Int) (kids:List Dt) (h:∀e∈kids,WP e):WP (mkP op kids):=
 .mk (ajx aSL) (fun v hv=>by cases hv) (akZ _ _ (Nat.le_refl _) aSM) h
theorem avi (op:Int) (kids:List Dt) (q:Nat) (hb:Dt.bulkL kids≤9000000) (hq:16*Dt.bulkL kids+600≤q) (h:∀e∈kids,HasTy Tryz.prog 39 e):aQ (q+4) (mkP op kids)=some (mkP op kids):=by
 have lk:=gK kids
 have bv:zV0.bulk=6:=rfl
 have be:zE0.bulk=13:=rfl
 have bs:zS0.bulk=4:=rfl
 have h2:=avr zV0 (by omega) aSL (q+3) (by omega)
 have h3:i31 (q+3) []=some []:=aAM (q+2) _ (by simp) (by simp) fun e he=>by cases he
 have h6:=axn (q+2) (by omega) aWI
 have h7:=UA zE0 (by omega) aSM (q+3) (by omega)
 have h8:i34 (q+3) kids=some kids:=aSO (q+2) _ (by omega) (by omega) fun e he=>by
  have:=oP he
  exact aAN e.bulk e (Nat.le_refl _) (by omega) (h e he) (q+1) (by omega)
 rw[aQ]
 show Option.bind (aM (q+3) []) _=_
 rw[cStr (q+2) _ (by simp),Option.bind_some]
 show Option.bind (aS (q+3) zV0) _=_
 rw[h2,Option.bind_some]
 show Option.bind (i31 (q+3) []) _=_
 rw[h3,Option.bind_some]
 show Option.bind (dD (q+3) zS0) _=_
 rw[h6,Option.bind_some]
 show Option.bind (aK (q+3) zE0) _=_
 rw[h7,Option.bind_some]
 show Option.bind (i34 (q+3) kids) _=_
 rw[h8,Option.bind_some]
 rfl
def wh1 (l:List Dt):List Dt:=l.map fun e=>Dt.fld e 1
theorem amc:∀l:List Dt,Dt.bulkL (wh1 l)≤Dt.bulkL l
 | []=>Nat.le_refl _
 |a::r=>by
  have:=amc r
  have:=aA a 1
  simp only[wh1,List.map_cons,Dt.bulkL]
  unfold wh1 at*
  omega
def whr (l:List Dt) (n:Nat):Dt:=bif Nat.beq n 0 then mkP 1 [] else bif Nat.beq n 1 then Dt.fld (l.headD (.int 0)) 1 else mkP 20 (wh1 (l.take n))
theorem aIE (m:Nat) (k:List Dt) (z:Dt) (hk:k.length≤1000000000):∀(M i:Nat) (acc:List Dt),i≤k.length→k.length-i<M→acc.length≤i→
  nW m M k (k.length:Int) (i:Int) z 20 0 0 eBy 0 0 0 0 0 eBy 0 0 eBy 0 [] [] [] [] [] [] [] [] [] [] acc=some (mkP 20 (acc++wh1 (k.drop i)))
 |0,i,_,_,h,_=>by omega
 |M+1,i,acc,hi,h,ha=>by
  rw[nW,dlt]
  by_cases hlt:i<k.length
  ·have ih:=aIE m k z hk M (i+1) (acc++[Dt.fld k[i] 1]) (by omega) (by omega) (by simp;omega)
   rw[decide_eq_true hlt,cond_true,EG,ay hlt,Option.bind_some,J8 (by simp;omega),Option.bind_some,EF,aT (by omega),ih,List.drop_eq_getElem_cons hlt,List.append_assoc]
   rfl
  ·have e:i=k.length:=by omega
   subst e
   rw[decide_eq_false hlt,cond_false,List.drop_length,show wh1 []=[] from rfl,List.append_nil]
   rfl
theorem aNu (m:Nat) (l:List Dt) (n:Nat) (hn:n<l.length) (hl:l.length≤1000000000) (hm:l.length≤m):rO (m+1) (l.take (n+1))=some (whr l (n+1)):=by
 have hlen:(l.take (n+1)).length=n+1:=by rw[List.length_take];omega
 rw[rO,hlen,whr]
 cases n with
 |zero=>
  match l,hn with
  |a::r,_=>rfl
 |succ n=>
  have e1:(((n+1+1:Nat):Int)==1)=false:=by rw[beq_eq_false_iff_ne];omega
  have e2:Nat.beq (n+1+1) 0=false:=rfl
  have e3:Nat.beq (n+1+1) 1=false:=rfl
  rw[e1,e2,e3,cond_false,cond_false,cond_false,EJ,EI]
  have h:=aIE m (l.take (n+1+1)) KZ (by omega) (m+1) 0 [] (Nat.zero_le _) (by omega) (Nat.zero_le _)
  rw[List.drop_zero,List.nil_append] at h
  exact h
theorem aAJ (m:Nat) (l:List Dt) (n:Nat) (z:Dt) (hn:n≤l.length) (hl:l.length≤1000000000):∀(M i:Nat) (acc:List Dt),i≤n→n-i<M→acc.length≤i→
  qg m M l (n:Int) (i:Int) z 20 0 0 eBy 0 0 0 0 0 eBy 0 0 eBy 0 [] [] [] [] [] [] [] [] [] [] acc=some (mkP 20 (acc++wh1 ((l.take n).drop i)))
 |0,i,_,_,h,_=>by omega
 |M+1,i,acc,hi,h,ha=>by
  rw[qg,dlt]
  by_cases hlt:i<n
  ·have ih:=aAJ m l n z hn hl M (i+1) (acc++[Dt.fld l[i] 1]) (by omega) (by omega) (by simp;omega)
   have hlt2:i<(l.take n).length:=by rw[List.length_take];omega
   rw[decide_eq_true hlt,cond_true,Ii,ay (show i<l.length by omega),Option.bind_some,J8 (by simp;omega),Option.bind_some,Ih,aT (by omega),ih,List.drop_eq_getElem_cons hlt2,List.getElem_take,List.append_assoc]
   rfl
  ·have e:i=n:=by omega
   subst e
   rw[decide_eq_false hlt,cond_false,List.drop_of_length_le (by rw[List.length_take];omega),show wh1 []=[] from rfl,List.append_nil]
   rfl
theorem avj (m:Nat) (l:List Dt) (n:Nat) (hn:n≤l.length) (hl:l.length≤1000000000) (hm:l.length≤m):u7 (m+1) l (n:Int)=some (whr l n):=by
 rw[u7,whr]
 cases n with
 |zero=>rfl
 |succ n=>
  have e0:(((n+1:Nat):Int)==0)=false:=by rw[beq_eq_false_iff_ne];omega
  rw[e0,cond_false,Im,show Nat.beq (n+1) 0=false from rfl,cond_false]
  cases n with
  |zero=>
   match l,hn with
   |a::r,_=>rfl
  |succ n=>
   have e1:(((n+1+1:Nat):Int)==1)=false:=by rw[beq_eq_false_iff_ne];omega
   rw[e1,show Nat.beq (n+1+1) 1=false from rfl,cond_false,cond_false,Il,Ik]
   have h:=aAJ m l (n+1+1) KZ hn hl (m+1) 0 [] (Nat.zero_le _) (by omega) (Nat.zero_le _)
   rw[List.drop_zero,List.nil_append] at h
   exact h
def hdI (r:List Dt) (op:Int):Bool:=match r with
 | []=>false
 |d::_=>Dt.I d 0==op
def hdD (r:List Dt):Dt:=r.headD (.int 0)
def tlI (r:List Dt) (op:Int):List Dt:=bif hdI r op then r.tail else r
structure Sts (l:List Dt):Prop where
 b:Dt.bulkL l≤2000000
 t:∀e∈l,HasTy Tryz.prog 71 e
theorem Sts.tail {l:List Dt} (h:Sts l):Sts l.tail:=by
 cases l with
 |nil=>exact h
 |cons a r=>exact⟨by have:=h.b;simp only[Dt.bulkL] at this;show Dt.bulkL r≤_;omega,fun e he=>h.t e (List.mem_cons_of_mem _ he)⟩
theorem Sts.tl {l:List Dt} (h:Sts l) (op:Int):Sts (tlI l op):=by
 unfold tlI
 cases hdI l op
 ·exact h
 ·exact h.tail
theorem Sts.drop {l:List Dt} (h:Sts l):∀n,Sts (l.drop n)
 |0=>h
 |n+1=>by rw[←List.tail_drop];exact(Sts.drop h n).tail
def qD (w:Dt) (o:List Dt) (s k:Int) (p:Dt):Dt:= .agg [w,.lst o,.int s,.int k,p,.str eBy]
def oOf (r:List Dt):List Dt:=bif hdI r 4 then Dt.L (hdD r) 4 else[]
def nOf (r:List Dt) (op:Int):Int:=bif hdI r op then Dt.I (hdD r) 5 else 0
def pOf (r:List Dt):Dt:=bif hdI r 2 then Dt.fld (hdD r) 2 else zP0
theorem aNv (a:Dt) (r:List Dt) (h:r.length≤1000000000):cutL (a::r) 1 ((a::r).length:Int)=some r:=by
 have:=avH (l:=a::r) (i:=1) (j:=(a::r).length) (by simp) (Nat.le_refl _)
 rw[show ((1:Nat):Int)=1 from rfl] at this
 rw[this]
 simp
theorem Sts.len {l:List Dt} (h:Sts l):l.length≤2000000:=Nat.le_trans (gK l) h.b
section
variable {m:Nat} (hm:70000000≤m)
include hm
theorem q11 (r:List Dt) (x q:Dt) (h:Sts r):oO m r x q=some (q,r):=by
 rw[oO,aNy r 2000000 (by omega) h.b h.t m (by omega)]
 rfl
theorem q9 (r:List Dt) (x w:Dt) (o:List Dt) (s k:Int) (h:Sts r):wO m r x (qD w o s k zP0)=some (qD w o s k (pOf r),tlI r 2):=by
 have hl:=h.len
 cases r with
 |nil=>exact q11 hm [] x _ h
 |cons a t=>
  have h2:=h.tail
  simp only[List.length_cons] at hl
  rw[wO,BS,decide_eq_true (by simp only[List.length_cons];omega),cond_true]
  show uV m (a::t) (Dt.I a 0==2) x (qD w o s k zP0)=_
  have e1:pOf (a::t)=bif Dt.I a 0==2 then Dt.fld a 2 else zP0:=rfl
  have e2:tlI (a::t) 2=bif Dt.I a 0==2 then t else a::t:=rfl
  rw[e1,e2]
  cases hc:(Dt.I a 0==2) with
  |false=>exact q11 hm _ x _ h
  |true=>
   have hb:=h.b
   have hta:=h.t a (by simp)
   have ha:a.bulk≤2000000:=by simp only[Dt.bulkL] at hb;omega
   have f2:=aA a 2
   obtain⟨q,rfl⟩:∃q,m=q+1:=⟨m-1,by omega⟩
   rw[uV,zU,cond_true]
   show Option.bind (bW (q+1) (Dt.fld a 2)) _=_
   rw[avt (by omega) (OM hta) q (by omega),Option.bind_some,aNv a t (by omega),Option.bind_some]
   exact q11 hm t x _ h2
theorem q7 (r:List Dt) (x w:Dt) (o:List Dt) (s:Int) (h:Sts r):wQ m r x (qD w o s 0 zP0)=some (qD w o s (nOf r 6) (pOf (tlI r 6)),tlI (tlI r 6) 2):=by
 have hl:=h.len
 cases r with
 |nil=>exact q9 hm [] x w o s 0 h
 |cons a t=>
  have h2:=h.tail
  simp only[List.length_cons] at hl
  rw[wQ,BX,decide_eq_true (by simp only[List.length_cons];omega),cond_true]
  show wP m (a::t) (Dt.I a 0==6) x (qD w o s 0 zP0)=_
  have e1:nOf (a::t) 6=bif Dt.I a 0==6 then Dt.I a 5 else 0:=rfl
  have e2:tlI (a::t) 6=bif Dt.I a 0==6 then t else a::t:=rfl
  rw[e1,e2]
  cases hc:(Dt.I a 0==6) with
  |false=>exact q9 hm _ x w o s 0 h
  |true=>
   rw[wP,BU,cond_true]
   show Option.bind (cutL (a::t) 1 ((a::t).length:Int)) _=_
   rw[aNv a t (by omega),Option.bind_some]
   exact q9 hm t x w o s _ h2
theorem q5 (r:List Dt) (x w:Dt) (o:List Dt) (h:Sts r):wS m r x (qD w o 0 0 zP0)=some (qD w o (nOf r 5) (nOf (tlI r 5) 6) (pOf (tlI (tlI r 5) 6)),tlI (tlI (tlI r 5) 6) 2):=by
 have hl:=h.len
 cases r with
 |nil=>exact q7 hm [] x w o 0 h
 |cons a t=>
  have h2:=h.tail
  simp only[List.length_cons] at hl
  rw[wS,Ca,decide_eq_true (by simp only[List.length_cons];omega),cond_true]
  show wR m (a::t) (Dt.I a 0==5) x (qD w o 0 0 zP0)=_
  have e1:nOf (a::t) 5=bif Dt.I a 0==5 then Dt.I a 5 else 0:=rfl
  have e2:tlI (a::t) 5=bif Dt.I a 0==5 then t else a::t:=rfl
  rw[e1,e2]
  cases hc:(Dt.I a 0==5) with
  |false=>exact q7 hm _ x w o 0 h
  |true=>
   rw[wR,BZ,cond_true]
   show Option.bind (cutL (a::t) 1 ((a::t).length:Int)) _=_
   rw[aNv a t (by omega),Option.bind_some]
   exact q7 hm t x w o _ h2
def aeA (l:List Dt) (n:Nat):Dt×List Dt:=
 (qD (whr l n) (oOf (l.drop n)) (nOf (tlI (l.drop n) 4) 5) (nOf (tlI (tlI (l.drop n) 4) 5) 6) (pOf (tlI (tlI (tlI (l.drop n) 4) 5) 6)),tlI (tlI (tlI (tlI (l.drop n) 4) 5) 6) 2)
theorem q3 (l:List Dt) (n:Nat) (hn:n≤l.length) (x:Dt) (h:Sts l) (hc:aQ m (whr l n)=some (whr l n)):mQ m l (n:Int) x (whr l n)=some (aeA l n):=by
 have hd:=h.drop n
 have hl:=hd.len
 rw[mQ,Cc,hc,Option.bind_some,aVS l n hn,Option.bind_some]
 unfold aeA
 generalize l.drop n=r at hd hl
 cases r with
 |nil=>exact q5 hm [] x _ [] hd
 |cons a t=>
  have h2:=hd.tail
  simp only[List.length_cons] at hl
  rw[decide_eq_true (by simp only[List.length_cons];omega),cond_true]
  show wT m (a::t) (Dt.I a 0==4) x (qD (whr l n) [] 0 0 zP0)=_
  have e1:oOf (a::t)=bif Dt.I a 0==4 then Dt.L a 4 else[]:=rfl
  have e2:tlI (a::t) 4=bif Dt.I a 0==4 then t else a::t:=rfl
  rw[e1,e2]
  cases hc:(Dt.I a 0==4) with
  |false=>exact q5 hm _ x _ [] hd
  |true=>
   have hb:=hd.b
   have hta:=hd.t a (by simp)
   have ha:a.bulk≤2000000:=by simp only[Dt.bulkL] at hb;omega
   have l4:=aO a 4
   obtain⟨q,rfl⟩:∃q,m=q+3:=⟨m-3,by omega⟩
   rw[wT,Cb,cond_true]
   show Option.bind (i12 (q+3) (Dt.L a 4)) _=_
   rw[akR q _ (fun e he=>by have:=bA he;omega) (by omega) (by omega) (aqP hta),Option.bind_some,aNv a t (by omega),Option.bind_some]
   exact q5 hm t x _ _ h2
end
def qn (l:List Dt):Nat→Nat→Nat
 |0,i=>i
 |M+1,i=>bif hdI (l.drop i) 1&&apf (whr l (i+1))==0 then qn l M (i+1) else i
theorem aIF {l:List Dt} {i:Nat} {op:Int} (h:i<l.length):hdI (l.drop i) op=(Dt.I l[i] 0==op):=by rw[List.drop_eq_getElem_cons h];rfl
theorem akQ {l:List Dt} {i:Nat} {op:Int} (h:¬i<l.length):hdI (l.drop i) op=false:=by rw[List.drop_of_length_le (by omega)];rfl
theorem aSN (l:List Dt):∀(M i:Nat),i≤l.length→qn l M i≤l.length
 |0,i,h=>h
 |M+1,i,h=>by
  rw[qn]
  by_cases hlt:i<l.length
  ·cases hdI (l.drop i) 1&&apf (whr l (i+1))==0 with
   |true=>exact aSN l M (i+1) hlt
   |false=>exact h
  ·rw[akQ hlt];exact h
theorem axi {l:List Dt} (h:Sts l) {n:Nat} (hn:n≤l.length):WP (whr l n):=by
 have hw:∀e∈l,WP (Dt.fld e 1):=fun e he=>aSE _ _ (Nat.le_refl _) (OL (h.t e he))
 unfold whr
 cases n with
 |zero=>exact aID 1 [] fun e he=>by cases he
 |succ n=>
  cases n with
  |zero=>
   match l,hn,hw with
   |a::r,_,hw=>exact hw a (by simp)
  |succ n=>
   refine aID 20 _ fun e he=>?_
   obtain⟨x,hx,rfl⟩:=List.mem_map.1 he
   exact hw x (List.mem_of_mem_take hx)
theorem amd (l:List Dt):∀n,Dt.bulkL (l.take n)≤Dt.bulkL l:=by
 induction l with
 |nil=>intro n;simp
 |cons a r ih=>
  intro n
  cases n with
  |zero=>simp[Dt.bulkL]
  |succ n=>have:=ih n;simp only[List.take_succ_cons,Dt.bulkL];omega
theorem Uy {l:List Dt} (h:Sts l) (n:Nat):(whr l n).bulk≤2000100:=by
 have hb:=h.b
 unfold whr
 cases n with
 |zero=>have:=avh 1 [];simp only[Dt.bulkL] at this;show (mkP 1 []).bulk≤_;omega
 |succ n=>
  cases n with
  |zero=>
   cases l with
   |nil=>show Dt.bulk (Dt.fld (.int 0) 1)≤_;simp[Dt.fld,Dt.bulk]
   |cons a r=>have:=aA a 1;simp only[Dt.bulkL] at hb;show Dt.bulk (Dt.fld a 1)≤_;omega
  |succ n=>
   have h1:=avh 20 (wh1 (l.take (n+1+1)))
   have h2:=amc (l.take (n+1+1))
   have h3:=amd l (n+1+1)
   show (mkP 20 (wh1 (l.take (n+1+1)))).bulk≤_
   omega
theorem aIG {l:List Dt} (h:Sts l) {n:Nat} (hn:n≤l.length) (m:Nat) (hm:70000000≤m):aQ m (whr l n)=some (whr l n):=by
 have hw:∀e∈l,HasTy Tryz.prog 39 (Dt.fld e 1):=fun e he=>OL (h.t e he)
 have hb:=h.b
 obtain⟨q,rfl⟩:∃q,m=q+4:=⟨m-4,by omega⟩
 unfold whr
 cases n with
 |zero=>exact avi 1 [] q (by simp[Dt.bulkL]) (by simp only[Dt.bulkL];omega) fun e he=>by cases he
 |succ n=>
  cases n with
  |zero=>
   match l,hn,hw,hb with
   |    a::r,_,hw,hb=>
        have:=aA a 1
        simp only[Dt.bulkL] at hb
        exact aAN _ _ (Nat.le_refl _) (by omega) (hw a (by simp)) (q+3) (by omega)
  |succ n=>
   have h2:=amc (l.take (n+1+1))
   have h3:=amd l (n+1+1)
   refine avi 20 _ q (by omega) (by omega) fun e he=>?_
   obtain⟨x,hx,rfl⟩:=List.mem_map.1 he
   exact hw x (List.mem_of_mem_take hx)
theorem aAK (m:Nat) (hm:70000000≤m) (hm2:m<800000000000) (l:List Dt) (h:Sts l) (x:Dt):∀(M i:Nat),i≤l.length→l.length-i<M→mR m M l (i:Int) x (whr l i)=some (aeA l (qn l M i))
 |0,i,_,h=>by omega
 |M+    1,i,hi,hM=>by
  have hl:=h.len
  have e3:=q3 hm l i hi x h (aIG h hi m hm)
  rw[mR,dlt,qn]
  by_cases hlt:i<l.length
  ·have ih:=aAK m hm hm2 l h x M (i+1) (by omega) (by omega)
   have ev:=aC1 (axi h (show i+1≤l.length by omega)) (by have:=Uy h (i+1);omega) m (by have:=Uy h (i+1);omega) hm2
   rw[decide_eq_true hlt,cond_true,ay hlt,Option.bind_some,aIF hlt]
   cases hc:(Dt.I l[i] 0==1) with
   |false=>exact e3
   |    true=>
        obtain⟨q,rfl⟩:∃q,m=q+1:=⟨m-1,by omega⟩
        rw[cond_true,Dy,aT (by omega),aDi (show i+1≤l.length by omega),Option.bind_some,aNu q l i hlt (by omega) (by omega),Option.bind_some,ev,Option.bind_some,Bool.true_and]
        cases hv:(apf (whr l (i+1))==0) with
        |true=>
         have hv':(apf (whr l (i+1)) !=0)=false:=by rw[bne,hv];rfl
         rw[hv',cond_false,cond_true,Ce,aT (by omega)]
         exact ih
        |false=>
         have hv':(apf (whr l (i+1)) !=0)=true:=by rw[bne,hv];rfl
         rw[hv',cond_true,cond_false]
         exact e3
  ·rw[decide_eq_false hlt,cond_false,akQ hlt]
   exact e3
theorem aIH (m:Nat) (hm:70000000≤m) (hm2:m<800000000000) (l:List Dt) (h:Sts l):pW (m+1) l=some (aeA l (qn l (m+1) 0)):=by
 have hl:=h.len
 have key:=aAK m hm hm2 l h Wj (m+1) 0 (Nat.zero_le _) (by omega)
 rw[pW,Dz]
 exact key
theorem avk (m:Nat) (l:List Dt) (i:Nat) (op:Int):oH (m+1) l (i:Int) op=some (hdI (l.drop i) op):=by
 by_cases h:i<l.length
 ·rw[aVT m l i op h,aIF h]
 ·rw[aTT m l i op h,akQ h]
theorem aeB {l:List Dt} {i:Nat} {op:Int} (h:hdI (l.drop i) op=true):i<l.length∧idx l (i:Int)=some (hdD (l.drop i))∧l.drop (i+1)=(l.drop i).tail:=by
 by_cases hlt:i<l.length
 ·refine⟨hlt,?_,by rw[List.tail_drop]⟩
  rw[ay hlt,List.drop_eq_getElem_cons hlt]
  rfl
 ·rw[akQ hlt] at h;cases h
theorem r7 (m:Nat) (l:List Dt) (i:Nat) (hi:i≤l.length) (x q:Dt):vW m l (i:Int) x q=some (q,l.drop i):=by
 rw[vW,aVS l i hi]
 rfl
section
variable (m:Nat) (l:List Dt) (hl:l.length≤2000000)
include hl
theorem r6 (i:Nat) (hi:i≤l.length) (x w:Dt) (o:List Dt) (s k:Int):Bw (m+1) l (i:Int) x (qD w o s k zP0)=some (qD w o s k (pOf (l.drop i)),tlI (l.drop i) 2):=by
 rw[Bw,Fx,avk,Option.bind_some]
 unfold pOf tlI
 cases h:hdI (l.drop i) 2 with
 |false=>exact r7 (m+1) l i hi x _
 |true=>
  obtain⟨h1,h2,h3⟩:=aeB h
  rw[cond_true,h2,Option.bind_some,aT (by omega),cond_true,cond_true,←h3]
  exact r7 (m+1) l (i+1) (by omega) x _
theorem r5 (i:Nat) (hi:i≤l.length) (x w:Dt) (o:List Dt) (s:Int):Bz (m+1) l (i:Int) x (qD w o s 0 zP0)=some (qD w o s (nOf (l.drop i) 6) (pOf (tlI (l.drop i) 6)),tlI (tlI (l.drop i) 6) 2):=by
 rw[Bz,Fy,avk,Option.bind_some]
 have e1:nOf (l.drop i) 6=bif hdI (l.drop i) 6 then Dt.I (hdD (l.drop i)) 5 else 0:=rfl
 have e2:tlI (l.drop i) 6=bif hdI (l.drop i) 6 then(l.drop i).tail else l.drop i:=rfl
 rw[e1,e2]
 cases h:hdI (l.drop i) 6 with
 |false=>exact r6 m l hl i hi x w o s 0
 |true=>
  obtain⟨h1,h2,h3⟩:=aeB h
  rw[cond_true,h2,Option.bind_some,aT (by omega),cond_true,cond_true,←h3]
  exact r6 m l hl (i+1) (by omega) x w o s _
theorem r4 (i:Nat) (hi:i≤l.length) (x w:Dt) (o:List Dt):BD (m+1) l (i:Int) x (qD w o 0 0 zP0)=some (qD w o (nOf (l.drop i) 5) (nOf (tlI (l.drop i) 5) 6) (pOf (tlI (tlI (l.drop i) 5) 6)),tlI (tlI (tlI (l.drop i) 5) 6) 2):=by
 rw[BD,Fz,avk,Option.bind_some]
 have e1:nOf (l.drop i) 5=bif hdI (l.drop i) 5 then Dt.I (hdD (l.drop i)) 5 else 0:=rfl
 have e2:tlI (l.drop i) 5=bif hdI (l.drop i) 5 then(l.drop i).tail else l.drop i:=rfl
 rw[e1,e2]
 cases h:hdI (l.drop i) 5 with
 |false=>exact r5 m l hl i hi x w o 0
 |true=>
  obtain⟨h1,h2,h3⟩:=aeB h
  rw[cond_true,h2,Option.bind_some,aT (by omega),cond_true,cond_true,←h3]
  exact r5 m l hl (i+1) (by omega) x w o _
theorem r3 (i:Nat) (hi:i≤l.length) (hm:l.length≤m) (x:Dt):BF (m+1) l (i:Int) x=some (aeA l i):=by
 rw[BF,FB,avj m l i hi (by omega) hm,Option.bind_some,avk,Option.bind_some]
 unfold aeA
 have e1:oOf (l.drop i)=bif hdI (l.drop i) 4 then Dt.L (hdD (l.drop i)) 4 else[]:=rfl
 have e2:tlI (l.drop i) 4=bif hdI (l.drop i) 4 then(l.drop i).tail else l.drop i:=rfl
 rw[e1,e2]
 cases h:hdI (l.drop i) 4 with
 |false=>exact r4 m l hl i hi x _ []
 |true=>
  obtain⟨h1,h2,h3⟩:=aeB h
  rw[cond_true,h2,Option.bind_some,aT (by omega),cond_true,cond_true,←h3]
  exact r4 m l hl (i+1) (by omega) x _ _
end
theorem avl (m:Nat) (hm:70000000≤m) (hm2:m<700000000000) (l:List Dt) (h:Sts l) (x:Dt):∀(M i:Nat),i≤l.length→l.length-i<M→qL (m+1) M l (i:Int) x=some (aeA l (qn l M i))
 |0,i,_,h=>by omega
 |M+    1,i,hi,hM=>by
  have hl:=h.len
  have e3:=r3 m l hl i hi (by omega) x
  rw[qL,FC,avk,Option.bind_some,qn]
  cases hc:hdI (l.drop i) 1 with
  |false=>exact e3
  |true=>
   obtain⟨h1,_,_⟩:=aeB hc
   have ih:=avl m hm hm2 l h x M (i+1) (by omega) (by omega)
   have ev:=avg (axi h (show i+1≤l.length by omega)) (by have:=Uy h (i+1);omega) (m+1) (by have:=Uy h (i+1);omega) (by omega)
   rw[cond_true,aT (by omega),avj m l (i+1) (by omega) (by omega) (by omega),Option.bind_some,ev,Option.bind_some,Bool.true_and]
   cases hv:(apf (whr l (i+1))==0) with
   |    true=>
        rw[cond_true,cond_true,JL,aT (by omega)]
        exact ih
   |    false=>
        rw[cond_false,cond_false]
        exact e3
theorem aC2 (m:Nat) (hm:70000000≤m) (hm2:m<700000000000) (l:List Dt) (h:Sts l):vX (m+2) l=some (aeA l (qn l (m+2) 0)):=by
 have hl:=h.len
 have key:=avl m hm hm2 l h Wj (m+2) 0 (Nat.zero_le _) (by omega)
 rw[vX,JM]
 exact key
end Go.Proofs.YtjnkagkoolbodaaGreatDoor
