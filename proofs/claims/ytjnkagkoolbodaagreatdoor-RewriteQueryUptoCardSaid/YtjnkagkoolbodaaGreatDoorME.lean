/- Expressions: the first error of a node by itself; the program's and the reference's.
Expressions:a node's first error,in stages;program and reference.
Expressions:the first error of a tree;the zero expression;program and reference.
Sort orders:the first error,in plain Lean.
Windows:the first error;the check of the program and the reference. -/
import Derived.Test.YtjnkagkoolbodaaGreatDoorMD
import Derived.Test.YtjnkagkoolbodaaGreatDoorMC
set_option linter.unusedVariables false
set_option linter.unusedSimpArgs false
namespace Go.Proofs.YtjnkagkoolbodaaGreatDoor
open Go.Am
def aq6 (op:Int):Int:=
 bif op==1||op==2||op==3 then 0 else bif (op==18||op==22||op==23||op==24||op==26||op==30||op==31||op==36) then 1 else bif op==32||op==33 then 3 else bif op==19||op==25 then 4 else
 bif (op==4||op==6||op==16||op==17||op==21||op==29||op==37) then 5 else bif op==35 then 6 else bif op==34 then 7 else 2
def ehk (s n:Int):Bool:=bif s==0 then n==0 else bif s==1 then n==1 else bif (s==2||s==3) then n==2 else bif s==4 then n==3 else bif s==7 then decide (1≤n) else true
theorem aci {op:Int} (h1:1≤op) (h2:op≤37):op=1∨op=2∨op=3∨op=4∨op=5∨op=6∨op=7∨op=8∨op=9∨op=10∨op=11∨op=12∨op=13∨op=14∨op=15∨op=16∨op=17∨op=18∨op=19∨op=20∨op=21∨op=22∨op=23∨op=24∨op=25∨op=26∨op=27∨op=28∨op=29∨op=30∨op=31∨op=32∨op=33∨op=34∨op=35∨op=36∨op=37:=by omega
theorem asS (m:Nat) {op:Int} (h1:1≤op) (h2:op≤37):CX (m+1) op=some (aq6 op):=by
 rcases aci h1 h2 with rfl|rfl|rfl|rfl|rfl|rfl|rfl|rfl|rfl|rfl|rfl|rfl|rfl|rfl|rfl|rfl|rfl|rfl|rfl|rfl|rfl|rfl|rfl|rfl|rfl|rfl|rfl|rfl|rfl|rfl|rfl|rfl|rfl|rfl|rfl|rfl|rfl<;>rfl
theorem aVx (m:Nat) {op:Int} (h1:1≤op) (h2:op≤37) (n:Int):Bl (m+1) (aq6 op) n=some (ehk (aq6 op) n):=by
 rcases aci h1 h2 with rfl|rfl|rfl|rfl|rfl|rfl|rfl|rfl|rfl|rfl|rfl|rfl|rfl|rfl|rfl|rfl|rfl|rfl|rfl|rfl|rfl|rfl|rfl|rfl|rfl|rfl|rfl|rfl|rfl|rfl|rfl|rfl|rfl|rfl|rfl|rfl|rfl<;>rfl
theorem aL3 {op:Int} (h1:1≤op) (h2:op≤37):(aq6 op==3)=(op==32||op==33):=by
 rcases aci h1 h2 with rfl|rfl|rfl|rfl|rfl|rfl|rfl|rfl|rfl|rfl|rfl|rfl|rfl|rfl|rfl|rfl|rfl|rfl|rfl|rfl|rfl|rfl|rfl|rfl|rfl|rfl|rfl|rfl|rfl|rfl|rfl|rfl|rfl|rfl|rfl|rfl|rfl<;>rfl
theorem aVy (m:Nat) {op:Int} (h1:1≤op) (h2:op≤37) (n:Nat):∃k,Df (m+1) op=some k∧((op=34∧decide (0≤k)=false)∨(op≠34∧(decide (0≤k)&&((n:Int) !=k))=!(ehk (aq6 op) n))):=by
 rcases aci h1 h2 with rfl|rfl|rfl|rfl|rfl|rfl|rfl|rfl|rfl|rfl|rfl|rfl|rfl|rfl|rfl|rfl|rfl|rfl|rfl|rfl|rfl|rfl|rfl|rfl|rfl|rfl|rfl|rfl|rfl|rfl|rfl|rfl|rfl|rfl|rfl|rfl|rfl
 all_goals first
  |exact⟨_,rfl,.inl ⟨rfl,rfl⟩⟩
  |exact⟨_,rfl,.inr ⟨by decide,rfl⟩⟩
theorem aTz (n:Nat):ehk (aq6 34) (n:Int)=!((n:Int)==0):=by
 show decide ((1:Int)≤n)=_
 by_cases h:n=0
 ·subst h;rfl
 ·rw[decide_eq_true (by omega),show ((n:Int)==0)=false by rw[beq_eq_false_iff_ne];omega];rfl
theorem aL4 (s:ByteArray):vld [.str s]=nm s:=by
 show (true&&true&&(nm s&&true))=nm s
 simp
theorem asT (m:Nat) (hm:40≤m) (s:ByteArray):rA (m+4) s=some (nm s):=by
 rw[rA,valid_eq m hm,Option.bind_some,aL4]
def dnm (l:List Dt):Bool:=avR nm [] (l.map Dt.toStr)
theorem apW (m:Nat) (hm:44≤m) (L:List Dt) (hl:L.length<9223372036854775807):∀(M i:Nat) (mp:List Dt),i≤L.length→L.length-i<M→aJr mp ((L.take i).map Dt.toStr)→
  fU m M L (L.length:Int) (i:Int) mp=some (avR nm ((L.take i).map Dt.toStr) ((L.drop i).map Dt.toStr))
 |0,i,_,_,h,_=>by omega
 |M+    1,i,mp,hi,h,hmp=>by
  obtain⟨m,rfl⟩:∃q,m=q+4:=⟨m-4,by omega⟩
  rw[fU,dlt]
  by_cases hlt:i<L.length
  ·have hp:=hmp (Dt.toStr L[i])
   have hmp':=avQ hmp (Dt.toStr L[i])
   have et:(L.take (i+1)).map Dt.toStr=((L.take i).map Dt.toStr)++[Dt.toStr L[i]]:=by
        rw[List.take_succ_eq_append_getElem hlt,List.map_append];rfl
   rw[←et] at hmp'
   have ih:=apW (m+4) hm L hl M (i+1) _ (by omega) (by omega) hmp'
   rw[List.drop_eq_getElem_cons hlt,List.map_cons,avR,←et]
   simp only[hlt,decide_true,cond_true,uM,rY,uL,uK,uJ,ay hlt,Option.bind_some,hp,asT m (by omega),aT (show i<9223372036854775807 by omega),ih]
   cases nm (Dt.toStr L[i])<;>cases ((L.take i).map Dt.toStr).any (eqb (Dt.toStr L[i]))<;>rfl
  ·have:i=L.length:=by omega
   subst this
   simp[uO,avR]
theorem aL5 (m:Nat) (hm:44≤m) (L:List Dt) (hl:L.length≤m) (hm2:m<9223372036854775000):iV (m+1) L=some (dnm L):=by
 have h:=apW m hm L (by omega) (m+1) 0 [] (Nat.zero_le _) (by omega) avP
 exact h
theorem aDo (m:Nat) (rec1:List Dt→Int→Option Bool) (L:List Dt) (i:Nat) (hi:i<L.length) (hl:L.length<9223372036854775807):∀(M k:Nat),k≤i→i-k<M→
  qI m rec1 M L (i:Int) (k:Int)=bif (((L.take i).drop k).map Dt.toStr).any (eqb (Dt.toStr L[i])) then some false else rec1 L ((i+1:Nat):Int)
 |0,k,_,h=>by omega
 |M+1,k,hk,h=>by
  rw[qI,dlt]
  by_cases hlt:k<i
  ·have hk2:k<(L.take i).length:=by simp;omega
   rw[List.drop_eq_getElem_cons hk2,List.getElem_take,List.map_cons,List.any_cons]
   simp only[hlt,decide_true,cond_true,Js,Fv,Jr,ay hi,ay (show k<L.length by omega),Option.bind_some,aT (show k<9223372036854775807 by omega),aDo m rec1 L i hi hl M (k+1) (by omega) (by omega)]
   rw[anw]
   show (bif eqb (Dt.toStr L[k]) (Dt.toStr L[i]) then _ else _)=_
   cases eqb (Dt.toStr L[k]) (Dt.toStr L[i])<;>rfl
  ·have:k=i:=by omega
   subst this
   rw[List.drop_eq_nil_of_le (by simp;omega)]
   simp[Jt,aT (show k<9223372036854775807 by omega)]
theorem asU (m:Nat) (hm:34≤m) (L:List Dt) (hl:L.length≤m) (hm2:m<9223372036854775000):∀(M i:Nat),i≤L.length→L.length-i<M→
  nE m M L (i:Int)=some (avR nm ((L.take i).map Dt.toStr) ((L.drop i).map Dt.toStr))
 |0,i,_,h=>by omega
 |M+    1,i,hi,h=>by
  obtain⟨m,rfl⟩:∃q,m=q+1:=⟨m-1,by omega⟩
  rw[nE,dlt]
  by_cases hlt:i<L.length
  ·have et:(L.take (i+1)).map Dt.toStr=((L.take i).map Dt.toStr)++[Dt.toStr L[i]]:=by
        rw[List.take_succ_eq_append_getElem hlt,List.map_append];rfl
   have hin:=aDo (m+1) (nE (m+1) M) L i hlt (by omega) (m+2) 0 (Nat.zero_le _) (by omega)
   rw[List.drop_zero] at hin
   rw[List.drop_eq_getElem_cons hlt,List.map_cons,avR,←et]
   simp only[hlt,decide_true,cond_true,Jw,Jv,Ju,ay hlt,Option.bind_some,Wz m (by omega)]
   cases nm (Dt.toStr L[i]) with
   |false=>rfl
   |    true=>
        rw[show Nat.succ (m+1)=m+2 from rfl,show (0:Int)=((0:Nat):Int) from rfl,hin]
        rw[asU (m+1) hm L hl hm2 M (i+1) (by omega) (by omega)]
        cases ((L.take i).map Dt.toStr).any (eqb (Dt.toStr L[i]))<;>rfl
  ·have:i=L.length:=by omega
   subst this
   simp[Jy,avR]
theorem aTA (m:Nat) (hm:34≤m) (L:List Dt) (hl:L.length≤m) (hm2:m<9223372036854775000):zX (m+1) L=some (dnm L):=asU m hm L hl hm2 (m+1) 0 (Nat.zero_le _) (by omega)
def zvl (d:Dt):Bool:=(Dt.I d 0==0)&&(Dt.I d 1==0)&&(ByteArray.toList (Dt.S d 2)==[])&&(((Dt.L d 3).length:Int)==0)&&(((Dt.L d 4).length:Int)==0)
theorem akX (m:Nat) (d:Dt):vR (m+1) d=some (zvl d):=by
 rw[vR,zvl]
 cases (Dt.I d 0==0)<;>cases (Dt.I d 1==0)<;>cases (ByteArray.toList (Dt.S d 2)==[])<;>cases (((Dt.L d 3).length:Int)==0)<;>rfl
def zVl:Dt:= .agg [.int 0,.int 0,.str (ByteArray.mk (List.toArray [])),.lst [],.lst []]
theorem akY (m:Nat) (d:Dt):aC (m+2) d zVl=some (zvl d):=by
 have hI0:Dt.I zVl 0=0:=rfl
 have hI1:Dt.I zVl 1=0:=rfl
 have hS:ByteArray.toList (Dt.S zVl 2)=[]:=by show ByteArray.toList _=[];rw[ByteArray.toList_eq];rfl
 have hL3:Dt.L zVl 3=[]:=rfl
 have hL4:Dt.L zVl 4=[]:=rfl
 rw[aC,Er,zvl,hI0,hI1,hS,hL3,hL4,List.length_nil]
 have b:∀x y:Int,(x !=y)=!(x==y):=fun _ _=>rfl
 simp only[b,show ((0:Nat):Int)=0 from rfl]
 cases (Dt.I d 0==0) with
 |false=>simp only[Bool.not_false,cond_true,bI,Bool.false_and]
 |true=>
  cases (Dt.I d 1==0) with
  |false=>simp only[Bool.not_false,Bool.not_true,cond_true,cond_false,bI,Bool.false_and,Bool.true_and]
  |true=>
   cases (ByteArray.toList (Dt.S d 2)==[]) with
   |false=>simp only[Bool.not_false,Bool.not_true,cond_true,cond_false,bI,Bool.false_and,Bool.true_and]
   |    true=>
        cases h3:(((Dt.L d 3).length:Int)==0) with
        |false=>simp only[Bool.not_false,Bool.not_true,cond_true,cond_false,bI,Bool.false_and,Bool.true_and]
        |true=>
         cases h4:(((Dt.L d 4).length:Int)==0) with
         |false=>simp only[Bool.not_false,Bool.not_true,cond_true,cond_false,bI,Bool.false_and,Bool.true_and]
         |true=>
          have e3:Dt.L d 3=[]:=List.length_eq_zero_iff.1 (by have:=(beq_iff_eq).1 h3;omega)
          have e4:Dt.L d 4=[]:=List.length_eq_zero_iff.1 (by have:=(beq_iff_eq).1 h4;omega)
          simp only[Bool.not_true,cond_false,Bool.true_and,eP,eU,dL,dM,dN,eX,dO,dP,eY,eZ,fq,fu,bI]
          rw[mD]
          simp only[e3,List.length_nil,show ((0:Nat):Int)=0 from rfl,Int.lt_irrefl,decide_false,cond_false,eP,eU,dL,dM,dN,eX,dO,dP,eY,eZ,fq,fu,bI]
          rw[iX]
          simp only[e4,List.length_nil,show ((0:Nat):Int)=0 from rfl,Int.lt_irrefl,decide_false,cond_false,eP,eU,dL,dM,dN,eX,dO,dP,eY,eZ,fq,fu,bI]
end Go.Proofs.YtjnkagkoolbodaaGreatDoor
namespace Go.Proofs.YtjnkagkoolbodaaGreatDoor
open Go.Am
def sA (d:Dt):Int:=bif (!(Dt.I d 0==1)&&!(zvl (Dt.fld d 4)))||(Dt.I d 5 !=0) then 4 else 0
def sB (x0 x1:Bool) (d:Dt):Int:=bif (!x0&&decide ((0:Int)<((Dt.L d 1).length:Int)))||((!x1&&!(ByteArray.toList (Dt.S d 2)==[]))||(!(Dt.I d 0==34)&&decide ((0:Int)<((Dt.L d 3).length:Int)))) then 4 else sA d
def sC (x0 x1:Bool) (d:Dt):Int:=bif (Dt.I d 0==1)&&!(okV (Dt.fld d 4)) then 8 else sB x0 x1 d
def sD (x0 x1:Bool) (d:Dt):Int:=bif (x1&&!(nm (Dt.S d 2)))||((Dt.I d 0==34)&&!(dnm (Dt.L d 3))) then 9 else sC x0 x1 d
def sE (x0 x1:Bool) (d:Dt):Int:=bif x0&&(!(vld (Dt.L d 1))&&((Dt.I d 0==2)||decide ((0:Int)<((Dt.L d 1).length:Int)))) then 10 else sD x0 x1 d
def XJ (d:Dt):Int:=bif decide (Dt.I d 0<1)||decide (37<Dt.I d 0) then 11 else
 bif !(ehk (aq6 (Dt.I d 0)) ((Dt.L d 6).length:Int))||((Dt.I d 0==34)&&(((Dt.L d 6).length:Int) !=((Dt.L d 3).length:Int))) then 11 else sE (Dt.I d 0==2||Dt.I d 0==3) (Dt.I d 0==3||(Dt.I d 0==32||Dt.I d 0==33)) d
theorem acj (x y:Int):(x !=y)=!(x==y):=rfl
section
variable (k:Nat) (d:Dt)
theorem pA:sj (k+1) d=some (sA d):=by
 rw[sj,xA,akX,Option.bind_some,sA]
 simp only[zH,zG,acj]
 cases (Dt.I d 0==1)<;>cases zvl (Dt.fld d 4)<;>cases (Dt.I d 5==0)<;>rfl
theorem pB (x0 x1:Bool):su (k+1) x0 x1 d=some (sB x0 x1 d):=by
 rw[su,xB,sB]
 simp only[zI,pA,acj]
 cases x0<;>cases x1<;>cases decide ((0:Int)<((Dt.L d 1).length:Int))<;>cases (ByteArray.toList (Dt.S d 2)==[])<;>cases (Dt.I d 0==34)<;>cases decide ((0:Int)<((Dt.L d 3).length:Int))<;>rfl
theorem pC (x0 x1:Bool) (hw:WV (Dt.fld d 4)) (hk:3*(Dt.fld d 4).bulk+300≤k) (hb:(Dt.fld d 4).bulk≤100000000000):uR (k+3) x0 x1 d=some (sC x0 x1 d):=by
 rw[uR,zK,aqL hw k hk hb,Option.bind_some,sC]
 simp only[zJ,pB]
 cases (Dt.I d 0==1)<;>cases okV (Dt.fld d 4)<;>rfl
theorem pD (x0 x1:Bool) (hw:WV (Dt.fld d 4)) (hk:3*(Dt.fld d 4).bulk+300≤k) (hb:(Dt.fld d 4).bulk≤100000000000) (hn:(Dt.L d 3).length≤k) (hk2:k<9223372036854770000):uS (k+4) x0 x1 d=some (sD x0 x1 d):=by
 rw[uS,zL,asT k (by omega),aL5 (k+3) (by omega) (Dt.L d 3) (by omega) (by omega),Option.bind_some,Option.bind_some,sD]
 simp only[BL,pC (k+1) d x0 x1 hw (by omega) hb]
 cases x1<;>cases nm (Dt.S d 2)<;>cases (Dt.I d 0==34)<;>cases dnm (Dt.L d 3)<;>rfl
theorem pE (x0 x1:Bool) (hw:WV (Dt.fld d 4)) (hk:3*(Dt.fld d 4).bulk+300≤k) (hb:(Dt.fld d 4).bulk≤100000000000) (hn:(Dt.L d 3).length≤k) (hk2:k<9223372036854770000):uU (k+4) x0 x1 d=some (sE x0 x1 d):=by
 rw[uU,zM,valid_eq (k+1) (by omega),Option.bind_some,sE]
 simp only[BM,pD k d x0 x1 hw hk hb hn hk2]
 cases x0<;>cases vld (Dt.L d 1)<;>cases (Dt.I d 0==2)<;>cases decide ((0:Int)<((Dt.L d 1).length:Int))<;>rfl
theorem aBd (hw:WV (Dt.fld d 4)) (hk:3*(Dt.fld d 4).bulk+300≤k) (hb:(Dt.fld d 4).bulk≤100000000000) (hn:(Dt.L d 3).length≤k) (hk2:k<9223372036854770000):qO (k+5) d=some (XJ d):=by
 rw[qO,Gj,XJ]
 by_cases h1:Dt.I d 0<1
 ·rw[decide_eq_true h1,cond_true,Bool.true_or,cond_true];rfl
 by_cases h2:37<Dt.I d 0
 ·rw[decide_eq_false h1,decide_eq_true h2,cond_false,cond_true,Bool.or_true,cond_true];rfl
 rw[decide_eq_false h1,decide_eq_false h2,cond_false,cond_false,Bool.or_false,cond_false,asS (k+3) (by omega) (by omega),Option.bind_some,aVx (k+3) (by omega) (by omega),Option.bind_some]
 have hE:=fun x0 x1=>pE k d x0 x1 hw hk hb hn hk2
 have hl:(aq6 (Dt.I d 0)==3)=(Dt.I d 0==32||Dt.I d 0==33):=aL3 (by omega) (by omega)
 simp only[BR,BQ,zP,BP,BO,zO,BN,zN,asS (k+3) (show 1≤Dt.I d 0 by omega) (by omega),Option.bind_some,hE,hl,acj]
 cases ehk (aq6 (Dt.I d 0)) ((Dt.L d 6).length:Int)<;>cases (Dt.I d 0==34)<;>cases (((Dt.L d 6).length:Int)==((Dt.L d 3).length:Int))<;>cases (Dt.I d 0==2)<;>cases (Dt.I d 0==3)<;>rfl
theorem rB (x0:Bool) (x1:Bool) (h:x0=(Dt.I d 0==2||Dt.I d 0==3)):DV (k+2) x1 d=some (sB x0 x1 d):=by
 subst h
 have hs:aC (k+2) (Dt.fld d 4) (Dt.agg [(Dt.int 0),(Dt.int 0),(Dt.str (ByteArray.mk (List.toArray []))),(Dt.lst []),(Dt.lst [])])=some (zvl (Dt.fld d 4)):=akY k (Dt.fld d 4)
 have hs2:aC (k+2) (Dt.fld d 4) uQ=some (zvl (Dt.fld d 4)):=akY k (Dt.fld d 4)
 rw[DV,JA,sB,sA]
 simp only[MO,Jz,hs,hs2,Option.bind_some,acj]
 cases (Dt.I d 0==2)<;>cases (Dt.I d 0==3)<;>cases decide ((0:Int)<((Dt.L d 1).length:Int))<;>cases x1<;>cases (ByteArray.toList (Dt.S d 2)==[])<;>cases (Dt.I d 0==34)<;>cases decide ((0:Int)<((Dt.L d 3).length:Int))<;>cases (Dt.I d 0==1)<;>cases zvl (Dt.fld d 4)<;>cases (Dt.I d 5==0)<;>rfl
theorem rC (x0 x1:Bool) (h:x0=(Dt.I d 0==2||Dt.I d 0==3)) (hw:WV (Dt.fld d 4)) (hk:2*(Dt.fld d 4).bulk+300≤k) (hb:(Dt.fld d 4).bulk≤100000000000) (hk2:k<9223372036854770000):DW (k+4) x1 d=some (sC x0 x1 d):=by
 rw[DW,JB,ahd hw k hk (by omega) hb,Option.bind_some,sC]
 simp only[MP,rB (k+2) d x0 x1 h]
 cases (Dt.I d 0==1)<;>cases okV (Dt.fld d 4)<;>rfl
theorem rD (x0 x1:Bool) (h:x0=(Dt.I d 0==2||Dt.I d 0==3)) (hw:WV (Dt.fld d 4)) (hk:2*(Dt.fld d 4).bulk+300≤k) (hb:(Dt.fld d 4).bulk≤100000000000) (hn:(Dt.L d 3).length≤k) (hk2:k<9223372036854770000):DX (k+4) x1 d=some (sD x0 x1 d):=by
 rw[DX,JC,Wz (k+3) (by omega),aTA (k+3) (by omega) (Dt.L d 3) (by omega) (by omega),Option.bind_some,Option.bind_some,sD]
 simp only[MQ,rC k d x0 x1 h hw hk hb hk2]
 cases x1<;>cases nm (Dt.S d 2)<;>cases (Dt.I d 0==34)<;>cases dnm (Dt.L d 3)<;>rfl
theorem rE (hw:WV (Dt.fld d 4)) (hk:2*(Dt.fld d 4).bulk+300≤k) (hb:(Dt.fld d 4).bulk≤100000000000) (hn:(Dt.L d 3).length≤k) (hk2:k<9223372036854770000):DY (k+4) d=some (sE (Dt.I d 0==2||Dt.I d 0==3) (Dt.I d 0==3||(Dt.I d 0==32||Dt.I d 0==33)) d):=by
 rw[DY,JE,KC (k+3) (by omega),Option.bind_some,Option.bind_some,sE]
 have hD:=fun x1=>rD k d _ x1 rfl hw hk hb hn hk2
 simp only[MS,MR,JD,hD]
 cases h2:(Dt.I d 0==2)<;>cases h3:(Dt.I d 0==3)<;>cases vld (Dt.L d 1)<;>cases decide ((0:Int)<((Dt.L d 1).length:Int))<;>cases (Dt.I d 0==32)<;>first|rfl|(exfalso;have a2:=(beq_iff_eq).1 h2;have a3:=(beq_iff_eq).1 h3;omega)
theorem aDp (hw:WV (Dt.fld d 4)) (hk:2*(Dt.fld d 4).bulk+300≤k) (hb:(Dt.fld d 4).bulk≤100000000000) (hn:(Dt.L d 3).length≤k) (hk2:k<9223372036854770000):zF (k+5) d=some (XJ d):=by
 rw[zF,U9,XJ]
 by_cases h1:Dt.I d 0<1
 ·rw[decide_eq_true h1,cond_true,Bool.true_or,cond_true];rfl
 by_cases h2:37<Dt.I d 0
 ·rw[decide_eq_false h1,decide_eq_true h2,cond_false,cond_true,Bool.or_true,cond_true];rfl
 obtain⟨c,c1,c2⟩:=aVy (k+3) (show 1≤Dt.I d 0 by omega) (by omega) (Dt.L d 6).length
 rw[decide_eq_false h1,decide_eq_false h2,cond_false,cond_false,Bool.or_false,cond_false,c1,Option.bind_some,Option.bind_some]
 have hE:=rE k d hw hk hb hn hk2
 simp only[MU,hE]
 rcases c2 with⟨e,c2⟩| ⟨e,c2⟩
 ·rw[c2,e,aTz]
  simp only[cond_false,acj,beq_self_eq_true,cond_true,Bool.true_and]
  cases (((Dt.L d 6).length:Int)==0)<;>cases (((Dt.L d 6).length:Int)==((Dt.L d 3).length:Int))<;>rfl
 ·have e':(Dt.I d 0==34)=false:=by rw[beq_eq_false_iff_ne];exact e
  rw[e']
  simp only[cond_false,Bool.false_and,Bool.or_false]
  rw[←c2]
  cases decide (0≤c)<;>cases (((Dt.L d 6).length:Int) !=c)<;>rfl
end
end Go.Proofs.YtjnkagkoolbodaaGreatDoor
namespace Go.Proofs.YtjnkagkoolbodaaGreatDoor
open Go.Am
inductive WE:Dt→Prop where
 |mk {d:Dt} (h4:WV (Dt.fld d 4)) (h6:∀e∈Dt.L d 6,WE e):WE d
theorem akZ:∀(N:Nat) (d:Dt),d.bulk≤N→HasTy Tryz.prog 36 d→WE d
 |0,d,h,_=>by have:=bQ d;omega
 |N+1,d,h,ht=>by
  have hs:=(bP Tryz.underlying36 ht).2
  have t4:HasTy Tryz.prog 30 (Dt.fld d 4):=hs 4 _ rfl
  have t6:HasTy Tryz.prog 34 (Dt.fld d 6):=hs 6 _ rfl
  refine .mk (ajx t4) fun e he=>?_
  have tp:=(bU Tryz.underlying34 t6).2.2 e he
  have h1:=bA (d:=d) (i:=6) he
  exact akZ N _ (by omega) tp
def ckL (f:Dt→Nat→Nat×Int):List Dt→Nat→Nat×Int
 | [],n=>(n,0)
 |e::r,n=>bif (f e n).2 !=0 then f e n else ckL f r (f e n).1
def ckE:Nat→Dt→Nat→Nat×Int
 |0,_,n=>(n,2)
 |r+1,d,n=>bif Nat.beq n 256 then(n,2) else bif XJ d !=0 then(n+1,XJ d) else ckL (ckE r) (Dt.L d 6) (n+1)
theorem aDq {f:Dt→Nat→Nat×Int} (h:∀e n,n≤256→(f e n).1≤256):∀(l:List Dt) (n:Nat),n≤256→(ckL f l n).1≤256
 | [],n,hn=>hn
 |e::r,n,hn=>by
  rw[ckL]
  cases ((f e n).2 !=0) with
  |true=>exact h e n hn
  |false=>exact aDq h r _ (h e n hn)
theorem awi:∀(r:Nat) (d:Dt) (n:Nat),n≤256→(ckE r d n).1≤256
 |0,d,n,hn=>hn
 |r+1,d,n,hn=>by
  rw[ckE]
  cases hb:Nat.beq n 256 with
  |true=>exact hn
  |false=>
   have:n≠256:=fun h=>by subst h;cases hb
   cases (XJ d !=0) with
   |true=>show n+1≤256;omega
   |false=>exact aDq (fun e n h=>awi r e n h) _ _ (by omega)
theorem asV (m:Nat) (self:Dt→Int→Int→Option (Int×Int)) (f:Dt→Nat→Nat×Int) (lv:Int) (h0:0≤lv∧lv≤17) (L:List Dt) (hl:L.length<9223372036854775807) (hf:∀e n,n≤256→(f e n).1≤256)
  (hs:∀e∈L,∀n:Nat,n≤256→self e (lv+1) (n:Int)=some ((f e n).2,((f e n).1:Int))):∀(M i n:Nat),i≤L.length→L.length-i<M→n≤256→
  Qq m self M lv L (L.length:Int) (i:Int) (n:Int)=some ((ckL f (L.drop i) n).2,((ckL f (L.drop i) n).1:Int))
 |0,i,_,_,h,_=>by omega
 |M+    1,i,n,hi,h,hn=>by
  rw[Qq,dlt]
  by_cases hlt:i<L.length
  ·have hsi:=hs _ (List.getElem_mem hlt) n hn
   have hfi:=hf L[i] n hn
   rw[decide_eq_true hlt,cond_true,ase,anr,ay hlt,Option.bind_some,wrap64 (n:=lv+1) (by omega) (by omega),hsi,Option.bind_some,List.drop_eq_getElem_cons hlt,ckL]
   show (bif (f L[i] n).2 !=0 then some ((f L[i] n).2,((f L[i] n).1:Int)) else akT m self (Qq m self M) lv L (L.length:Int) (i:Int) ((f L[i] n).1:Int))=_
   cases ((f L[i] n).2 !=0) with
   |true=>rfl
   |    false=>
        rw[cond_false,cond_false,akT,aT (by omega)]
        exact asV m self f lv h0 L hl hf hs M (i+1) _ (by omega) (by omega) hfi
  ·have e:i=L.length:=by omega
   subst e
   rw[decide_eq_false hlt,List.drop_length,ckL]
   rfl
theorem asW (B:Nat) (hB:B≤100000000) (k:Nat) (hk:3*B+400≤k) (hk2:k<9223372036854760000):∀(r:Nat),r≤16→∀(d:Dt) (n:Nat),WE d→d.bulk≤B→n≤256→
  OX (k+r+6) d ((17:Int)-(r:Int)) (n:Int)=some ((ckE r d n).2,((ckE r d n).1:Int))
 |0,_,d,n,_,_,_=>rfl
 |r+    1,hr,d,n,hw,hb,hn=>by
  rw[show k+(r+1)+6=(k+r+6)+1 by omega,OX,decide_eq_false (by omega),cond_false,akU,ckE]
  by_cases h256:n=256
  ·subst h256;rfl
  ·have e1:(((n:Nat):Int)==256)=false:=by rw[beq_eq_false_iff_ne];omega
   have e2:Nat.beq n 256=false:=by
        cases hh:Nat.beq n 256 with
        |false=>rfl
        |true=>exact absurd (Nat.eq_of_beq_eq_true hh) h256
   have hw':=hw
   cases hw' with
   |    mk h4 h6=>
        have hb4:=aA d 4
        have hl3:=aO d 3
        have hl6:=aO d 6
        rw[e1,e2,cond_false,cond_false,ash,ant,show k+r+6=(k+r+1)+5 by omega,aBd (k+r+1) d h4 (by omega) (by omega) (by omega) (by omega),Option.bind_some,aT (by omega)]
        cases (XJ d !=0) with
        |true=>rfl
        |false=>
         rw[cond_false,cond_false,asg,asf]
         have key:=asV ((k+r+1)+5) (OX ((k+r+1)+5)) (ckE r) ((17:Int)-((r+1:Nat):Int)) (by omega) (Dt.L d 6) (by omega) (fun e n h=>awi r e n h) (fun e he n hn=>by
          have hm:=bA he
          have:=asW B hB k hk hk2 r (by omega) e n (h6 e he) (by omega) hn
          rw[show k+r+6=(k+r+1)+5 by omega] at this
          rw[←this]
          congr 1
          omega) ((k+r+1)+6) 0 (n+1) (Nat.zero_le _) (by omega) (by omega)
         rw[List.drop_zero] at key
         exact key
theorem aBe (B:Nat) (hB:B≤100000000) (k:Nat) (hk:3*B+400≤k) (hk2:k<9223372036854760000) (d:Dt) (hw:WE d) (hb:d.bulk≤B):sw (k+23) d=some (ckE 16 d 0).2:=by
 have h:=asW B hB k hk hk2 16 (Nat.le_refl _) d 0 hw hb (by omega)
 rw[sw]
 have h':OX (k+22) d 1 0=some ((ckE 16 d 0).2,((ckE 16 d 0).1:Int)):=h
 rw[h']
 rfl
theorem ayQ (m:Nat) (self:Dt→Int→Int→Option (Int×Int)) (f:Dt→Nat→Nat×Int) (lv:Int) (h0:0≤lv∧lv≤17) (d:Dt) (hl:(Dt.L d 6).length<9223372036854775807) (hf:∀e n,n≤256→(f e n).1≤256)
  (hs:∀e∈Dt.L d 6,∀n:Nat,n≤256→∃a,self e (((n+1:Nat)):Int) (lv+1)=some (a,(f e n).2)∧((f e n).2=0→a=((f e n).1:Int))):∀(M i n:Nat),i≤(Dt.L d 6).length→(Dt.L d 6).length-i<M→n≤256→
  ∃a,nG m self M (n:Int) lv (i:Int) d=some (a,(ckL f ((Dt.L d 6).drop i) n).2)∧((ckL f ((Dt.L d 6).drop i) n).2=0→a=((ckL f ((Dt.L d 6).drop i) n).1:Int))
 |0,i,_,_,h,_=>by omega
 |M+    1,i,n,hi,h,hn=>by
  rw[nG,dlt]
  by_cases hlt:i<(Dt.L d 6).length
  ·obtain⟨a,a1,a2⟩:=hs _ (List.getElem_mem hlt) n hn
   have hfi:=hf (Dt.L d 6)[i] n hn
   rw[decide_eq_true hlt,cond_true,JG,Fw,ay hlt,Option.bind_some,wrap64 (n:=lv+1) (by omega) (by omega),aT (by omega),a1,Option.bind_some,List.drop_eq_getElem_cons hlt,ckL]
   show ∃a',(bif (f (Dt.L d 6)[i] n).2 !=0 then some (a,(f (Dt.L d 6)[i] n).2) else Bo m self (nG m self M) lv (i:Int) a d)=_∧_
   cases hz:((f (Dt.L d 6)[i] n).2 !=0) with
   |    true=>
        refine⟨a,rfl,fun h=>?_⟩
        rw[cond_true] at h
        rw[h] at hz
        cases hz
   |    false=>
        have hz':(f (Dt.L d 6)[i] n).2=0:=by simpa [bne] using hz
        rw[cond_false,cond_false,Bo,JF,aT (by omega),a2 hz']
        exact ayQ m self f lv h0 d hl hf hs M (i+1) _ (by omega) (by omega) hfi
  ·have e:i=(Dt.L d 6).length:=by omega
   subst e
   rw[decide_eq_false hlt,List.drop_length,ckL]
   exact⟨_,rfl,fun _=>rfl⟩
theorem ayR (B:Nat) (hB:B≤100000000) (k:Nat) (hk:3*B+400≤k) (hk2:k<9223372036854760000):∀(r:Nat),r≤16→∀(d:Dt) (n:Nat),WE d→d.bulk≤B→n≤256→
  ∃a,bS (k+r+6) d ((n+1:Nat):Int) ((17:Int)-(r:Int))=some (a,(ckE r d n).2)∧((ckE r d n).2=0→a=((ckE r d n).1:Int))
 |0,_,d,n,_,_,_=>⟨_,rfl,fun h=>by cases h⟩
 |r+    1,hr,d,n,hw,hb,hn=>by
  rw[show k+(r+1)+6=(k+r+6)+1 by omega,bS,decide_eq_false (by omega),cond_false,Bp,ckE]
  by_cases h256:n=256
  ·subst h256;exact⟨_,rfl,fun h=>by cases h⟩
  ·have e1:decide ((256:Int)<((n+1:Nat):Int))=false:=decide_eq_false (by omega)
   have e2:Nat.beq n 256=false:=by
        cases hh:Nat.beq n 256 with
        |false=>rfl
        |true=>exact absurd (Nat.eq_of_beq_eq_true hh) h256
   have hw':=hw
   cases hw' with
   |    mk h4 h6=>
        have hb4:=aA d 4
        have hl3:=aO d 3
        have hl6:=aO d 6
        rw[e1,e2,cond_false,cond_false,JK,show k+r+6=(k+r+1)+5 by omega,aDp (k+r+1) d h4 (by omega) (by omega) (by omega) (by omega),Option.bind_some]
        cases hz:(XJ d !=0) with
        |true=>
         refine⟨_,rfl,fun h=>?_⟩
         have h:XJ d=0:=h
         rw[h] at hz
         cases hz
        |false=>
         rw[cond_false,cond_false,JJ,JH]
         have key:=ayQ ((k+r+1)+5) (bS ((k+r+1)+5)) (ckE r) ((17:Int)-((r+1:Nat):Int)) (by omega) d (by omega) (fun e n h=>awi r e n h) (fun e he n hn=>by
          have hm:=bA he
          obtain⟨a,a1,a2⟩:=ayR B hB k hk hk2 r (by omega) e n (h6 e he) (by omega) hn
          rw[show k+r+6=(k+r+1)+5 by omega] at a1
          refine⟨a,?_,a2⟩
          rw[←a1]
          congr 1
          omega) ((k+r+1)+6) 0 (n+1) (Nat.zero_le _) (by omega) (by omega)
         rw[List.drop_zero] at key
         exact key
theorem aco (B:Nat) (hB:B≤100000000) (k:Nat) (hk:3*B+400≤k) (hk2:k<9223372036854760000) (d:Dt) (hw:WE d) (hb:d.bulk≤B):aV (k+23) d=some (ckE 16 d 0).2:=by
 obtain⟨a,h,_⟩:=ayR B hB k hk hk2 16 (Nat.le_refl _) d 0 hw hb (by omega)
 rw[aV]
 have h':bS (k+22) d 1 1=some (a,(ckE 16 d 0).2):=h
 rw[h']
 rfl
def zex (d:Dt):Bool:=(Dt.I d 0==0)&&(((Dt.L d 1).length:Int)==0)&&(ByteArray.toList (Dt.S d 2)==[])&&(((Dt.L d 3).length:Int)==0)&&zvl (Dt.fld d 4)&&(Dt.I d 5==0)&&(((Dt.L d 6).length:Int)==0)
theorem aDr (m:Nat) (l:List Dt):aL (m+2) l []=some (((l.length:Nat):Int)==0):=by
 rw[aL,List.length_nil]
 cases l with
 |nil=>rfl
 |cons a r=>
  rw[show ((((a::r).length:Nat):Int)==((0:Nat):Int))=false by rw[beq_eq_false_iff_ne,List.length_cons];omega]
  rw[show ((((a::r).length:Nat):Int)==0)=false by rw[beq_eq_false_iff_ne,List.length_cons];omega]
  rfl
theorem aq7 (m:Nat) (d:Dt):dB (m+4) d=some (zex d):=by
 have hs:aC (m+2) (Dt.fld d 4) zVl=some (zvl (Dt.fld d 4)):=akY m _
 have key:aD (m+3) d (.agg [.int 0,.lst [],.str (ByteArray.mk (List.toArray [])),.lst [],zVl,.int 0,.lst []])=some (zex d):=by
  have hI0:∀a b c e f g h:Dt,Dt.I (.agg [a,b,c,e,f,g,h]) 0=a.toInt:=fun _ _ _ _ _ _ _=>rfl
  have hI5:∀a b c e f g h:Dt,Dt.I (.agg [a,b,c,e,f,g,h]) 5=g.toInt:=fun _ _ _ _ _ _ _=>rfl
  have hL1:∀a b c e f g h:Dt,Dt.L (.agg [a,b,c,e,f,g,h]) 1=b.toLst:=fun _ _ _ _ _ _ _=>rfl
  have hL3:∀a b c e f g h:Dt,Dt.L (.agg [a,b,c,e,f,g,h]) 3=e.toLst:=fun _ _ _ _ _ _ _=>rfl
  have hL6:∀a b c e f g h:Dt,Dt.L (.agg [a,b,c,e,f,g,h]) 6=h.toLst:=fun _ _ _ _ _ _ _=>rfl
  have hf4:∀a b c e f g h:Dt,Dt.fld (.agg [a,b,c,e,f,g,h]) 4=f:=fun _ _ _ _ _ _ _=>rfl
  have hS:∀a b e f g h:Dt,ByteArray.toList (Dt.S (.agg [a,b,.str (ByteArray.mk (List.toArray [])),e,f,g,h]) 2)=[]:=fun _ _ _ _ _ _=>by show ByteArray.toList _=[];rw[ByteArray.toList_eq];rfl
  rw[aD,sZ,zex]
  simp only[hI0,hI5,hL1,hL3,hL6,hf4,hS,Dt.toInt,Dt.toLst,aDr,hs,Option.bind_some,acj,List.length_nil,show ((0:Nat):Int)=0 from rfl]
  cases (Dt.I d 0==0)<;>simp only[Bool.not_true,Bool.not_false,cond_true,cond_false,bq,Bool.false_and,Bool.true_and]
  cases (((Dt.L d 1).length:Int)==0)<;>simp only[Bool.not_true,Bool.not_false,cond_true,cond_false,bq,Bool.false_and,Bool.true_and]
  cases (ByteArray.toList (Dt.S d 2)==[])<;>simp only[Bool.not_true,Bool.not_false,cond_true,cond_false,bq,Bool.false_and,Bool.true_and]
  cases (((Dt.L d 3).length:Int)==0)<;>simp only[Bool.not_true,Bool.not_false,cond_true,cond_false,bq,Bool.false_and,Bool.true_and]
  cases zvl (Dt.fld d 4)<;>simp only[Bool.not_true,Bool.not_false,cond_true,cond_false,bq,Bool.false_and,Bool.true_and]
  cases (Dt.I d 5==0)<;>simp only[Bool.not_true,Bool.not_false,cond_true,cond_false,bq,Bool.false_and,Bool.true_and]
  cases h6:(((Dt.L d 6).length:Int)==0)<;>simp only[Bool.not_true,Bool.not_false,cond_true,cond_false,bq,Bool.false_and,Bool.true_and]
  have e6:Dt.L d 6=[]:=List.length_eq_zero_iff.1 (by have:=(beq_iff_eq).1 h6;omega)
  rw[gU,gT,fI,e6]
  rfl
 rw[dB]
 have key':aD (m+3) d (Dt.agg [(Dt.int 0),(Dt.lst []),(Dt.str (ByteArray.mk (List.toArray []))),(Dt.lst []),(Dt.agg [(Dt.int 0),(Dt.int 0),(Dt.str (ByteArray.mk (List.toArray []))),(Dt.lst []),(Dt.lst [])]),(Dt.int 0),(Dt.lst [])])=some (zex d):=key
 refine(congrArg (fun o:Option Bool=>o.bind fun r0=>some r0) key').trans ?_
 rfl
end Go.Proofs.YtjnkagkoolbodaaGreatDoor
namespace Go.Proofs.YtjnkagkoolbodaaGreatDoor
open Go.Am
def okO:List Dt→List Dt→Int
 |_,[]=>0
 |seen,o::r=>bif vld (Dt.L o 0) then(bif seen.any (fun e=>eqP (Dt.L e 0) (Dt.L o 0)) then 12 else okO (seen++[o]) r) else 10
def aBf (l:List Dt):Int:=bif decide (8<l.length) then 2 else okO [] l
theorem aL6 {l:List Dt} (h:vld l=true):l.length≤16:=by
 simp only[vld,Bool.and_eq_true,decide_eq_true_eq] at h
 exact h.1.2
theorem apX {l:List Dt} {i:Nat} (h:i<l.length):l.take i++[l[i]]=l.take (i+1):=by
 rw[List.take_succ_eq_append_getElem h]
theorem apY (m:Nat) (a b:List Dt) (hab:a.length=b.length) (hb:a.length<9223372036854775807):∀(M i:Nat),i≤a.length→a.length-i<M→uy m M a b (i:Int)=some (pfx (a.drop i) (b.drop i))
 |0,i,_,h=>by omega
 |M+1,i,hi,h=>by
  simp only[uy,dlt]
  by_cases hlt:i<a.length
  ·rw[List.drop_eq_getElem_cons hlt,List.drop_eq_getElem_cons (show i<b.length by omega)]
   simp only[hlt,decide_true,cond_true,Mt,IX,Mr,ay hlt,ay (show i<b.length by omega),Option.bind_some,aT (show i<9223372036854775807 by omega),apY m a b hab hb M (i+1) (by omega) (by omega),pfx,eqS]
   cases (a[i].toStr.toList==b[i].toStr.toList)<;>rfl
  ·have:i=a.length:=by omega
   subst this
   simp[Mw,pfx]
theorem aDs (m:Nat) (a b:List Dt) (h:a.length≤m∨b.length≤m) (hm:m<9223372036854775807):zA (m+1) a b=some (eqP a b):=by
 unfold eqP
 by_cases hab:a.length=b.length
 ·simp only[zA,hab,bne_self_eq_false,cond_false,MB,Mx]
  have:=apY m a b hab (by omega) (m+1) 0 (by omega) (by omega)
  rw[show ((0:Nat):Int)=0 from rfl] at this
  rw[this]
  simp
 ·have h1:(a.length==b.length)=false:=by simpa using hab
  have h2:((((a.length:Nat):Int) !=((b.length:Nat):Int)):Bool)=true:=by
   simp only[bne,ieq,h1,Bool.not_false]
  simp only[zA,h2,cond_true,h1,Bool.false_and]
theorem ayS (m:Nat) (hm:20≤m) (hm2:m<9223372036854775807) (rec2:List Dt→Int→Option Int) (l:List Dt) (i:Nat) (hi:i<l.length) (hl:l.length≤8) (ho:(Dt.L l[i] 0).length≤16):∀(M k:Nat),k≤i→i-k<M→
  qz (m+1) rec2 M l (i:Int) (k:Int)=bif ((l.take i).drop k).any (fun e=>eqP (Dt.L e 0) (Dt.L l[i] 0)) then some 12 else rec2 l (((i+1:Nat):Int))
 |0,k,_,h=>by omega
 |M+1,k,hk,h=>by
  simp only[qz,dlt]
  by_cases hlt:k<i
  ·have hk2:k<(l.take i).length:=by simp;omega
   rw[List.drop_eq_getElem_cons hk2,List.getElem_take]
   simp only[hlt,decide_true,cond_true,IZ,EX,IY,ay hi,ay (show k<l.length by omega),Option.bind_some,aDs m (Dt.L l[i] 0) (Dt.L l[k] 0) (.inl (by omega)) hm2,aT (show k<9223372036854775807 by omega),ayS m hm hm2 rec2 l i hi hl ho M (k+1) (by omega) (by omega),List.any_cons,aD1 (Dt.L l[i] 0)]
   cases eqP (Dt.L l[k] 0) (Dt.L l[i] 0)<;>rfl
  ·have:k=i:=by omega
   subst this
   rw[List.drop_eq_nil_of_le (by simp;omega)]
   simp[I4,aT (show k<9223372036854775807 by omega)]
theorem apZ (m:Nat) (hm:50≤m) (hm2:m<9223372036854775800) (l:List Dt) (hl:l.length≤8):∀(M i:Nat),i≤l.length→l.length-i<M→ny (m+1) M l (i:Int)=some (okO (l.take i) (l.drop i))
 |0,i,_,h=>by omega
 |M+    1,i,hi,h=>by
  simp only[ny,dlt]
  by_cases hlt:i<l.length
  ·rw[   List.drop_eq_getElem_cons hlt]
   simp only[hlt,decide_true,cond_true,I7,ay hlt,Option.bind_some,KC m (by omega),okO]
   cases hv:vld (Dt.L l[i] 0)
   ·rfl
   ·    have hin:=ayS m (by omega) (by omega) (ny (m+1) M) l i hlt hl (aL6 hv) (m+2) 0 (by omega) (by omega)
        rw[show ((0:Nat):Int)=0 from rfl,List.drop_zero] at hin
        simp only[Bool.not_true,cond_false,cond_true,I6,I5]
        rw[show Nat.succ (m+1)=m+2 from rfl,hin]
        cases hs:(l.take i).any (fun e=>eqP (Dt.L e 0) (Dt.L l[i] 0))
        ·simp only[cond_false]
         rw[apZ m hm hm2 l hl M (i+1) (by omega) (by omega),apX hlt]
        ·rfl
  ·have:i=l.length:=by omega
   subst this
   simp[EY,okO]
theorem ayT (m:Nat) (hm:50≤m) (hm2:m<9223372036854775800) (l:List Dt):mE (m+2) l=some (aBf l):=by
 simp only[mE,aBf]
 by_cases h:8<l.length
 ·have e:decide ((8:Int)<((l.length:Nat):Int))=true:=by simp;omega
  simp only[e,h,decide_true,cond_true]
 ·have e:decide ((8:Int)<((l.length:Nat):Int))=false:=by simp;omega
  simp only[e,h,decide_false,cond_false,I9,I8]
  have:=apZ m hm hm2 l (by omega) (m+2) 0 (by omega) (by omega)
  simpa using this
end Go.Proofs.YtjnkagkoolbodaaGreatDoor
namespace Go.Proofs.YtjnkagkoolbodaaGreatDoor
open Go.Am
def oA (d:Dt):Int:=bif (decide (Dt.I d 3<(-4096))||(decide (4096<Dt.I d 3)||(decide (Dt.I d 4<(-4096))||decide (4096<Dt.I d 4))))||(!(Dt.I d 1==24)&&decide (Dt.I d 4<Dt.I d 3)) then 1 else 0
def oB (bare:Bool) (d:Dt):Int:=bif !bare&&((ckE 16 (Dt.fld d 2) 0).2 !=0) then(ckE 16 (Dt.fld d 2) 0).2 else oA d
def oC (rank bare:Bool) (d:Dt):Int:=bif (bare&&!(zex (Dt.fld d 2)))||((rank&&(!(Dt.I d 3==0)||(!(Dt.I d 4==0)||Dt.B d 5)))||(((Dt.I d 1==24)&&(!(Dt.I d 4==0)||Dt.B d 5))||(Dt.B d 5&&(!(Dt.I d 3==0)||!(Dt.I d 4==0))))) then 21 else oB bare d
def aBg (d:Dt):Int:=bif !(decide (1≤Dt.I d 1)&&decide (Dt.I d 1≤8))&&(!(Dt.I d 1==21||(Dt.I d 1==22||Dt.I d 1==23))&&!(Dt.I d 1==24)) then 11 else
 oC (Dt.I d 1==21||(Dt.I d 1==22||Dt.I d 1==23)) ((Dt.I d 1==21||(Dt.I d 1==22||Dt.I d 1==23))||Dt.I d 1==2) d
section
variable (m:Nat) (d:Dt)
theorem rrA:GR (m+1) d=some (oA d):=by
 rw[GR,Nf,oA]
 simp only[Qj,Qi,acj]
 cases decide (Dt.I d 3<(-4096))<;>cases decide (4096<Dt.I d 3)<;>cases decide (Dt.I d 4<(-4096))<;>cases decide (4096<Dt.I d 4)<;>cases (Dt.I d 1==24)<;>cases decide (Dt.I d 4<Dt.I d 3)<;>rfl
theorem rrB (x0:Bool) (hV:aV (m+1) (Dt.fld d 2)=some (ckE 16 (Dt.fld d 2) 0).2):GU (m+1) x0 d=some (oB x0 d):=by
 rw[GU,Ng,hV,Option.bind_some,oB,rrA]
 cases x0<;>cases ((ckE 16 (Dt.fld d 2) 0).2 !=0)<;>rfl
theorem rrC (x0 x1:Bool) (hV:aV (m+4) (Dt.fld d 2)=some (ckE 16 (Dt.fld d 2) 0).2):GV (m+4) x0 x1 d=some (oC x0 x1 d):=by
 rw[GV,Nh,aq7,Option.bind_some,oC]
 have h:=fun x0=>rrB (m+3) d x0 hV
 simp only[Qk,h,acj]
 cases x0<;>cases x1<;>cases zex (Dt.fld d 2)<;>cases (Dt.I d 3==0)<;>cases (Dt.I d 4==0)<;>cases Dt.B d 5<;>cases (Dt.I d 1==24)<;>rfl
theorem lt1 (a:Int):decide (a<1)=!(decide (1≤a)):=by
 by_cases h:a<1
 ·rw[decide_eq_true h,decide_eq_false (by omega)];rfl
 ·rw[decide_eq_false h,decide_eq_true (by omega)];rfl
theorem lt8 (a:Int):decide (8<a)=!(decide (a≤8)):=by
 by_cases h:8<a
 ·rw[decide_eq_true h,decide_eq_false (by omega)];rfl
 ·rw[decide_eq_false h,decide_eq_true (by omega)];rfl
theorem aL7 (hV:aV (m+4) (Dt.fld d 2)=some (ckE 16 (Dt.fld d 2) 0).2):zZ (m+5) d=some (aBg d):=by
 rw[zZ,abb,aBg]
 have h:=fun x0 x1=>rrC m d x0 x1 hV
 simp only[Qn,Nj,Qm,Ql,Ni,h,acj,lt1,lt8]
 cases (Dt.I d 1==21)<;>cases (Dt.I d 1==22)<;>cases (Dt.I d 1==23)<;>cases decide (1≤Dt.I d 1)<;>cases decide (Dt.I d 1≤8)<;>cases (Dt.I d 1==24)<;>rfl
end
def ajA (s:ByteArray):Bool:=nm s&&!(ByteArray.toList s==[95,105,100])
theorem ayU (m:Nat) (hm:33≤m) (s:ByteArray):bR (m+2) s=some (ajA s):=by
 rw[bR,Wz m hm,Option.bind_some,ajA]
 cases nm s<;>rfl
def owS:List Dt→List Dt→Int
 |_,[]=>0
 |seen,o::r=>bif !(ajA (Dt.S o 0))||seen.any (fun p=>ByteArray.toList (Dt.S p 0)==ByteArray.toList (Dt.S o 0)) then 9 else bif aBg o !=0 then aBg o else owS (seen++[o]) r
def aVz (w:Dt):Int:=bif (ckE 16 (Dt.fld w 0) 0).2 !=0 then(ckE 16 (Dt.fld w 0) 0).2 else bif aBf (Dt.L w 1) !=0 then aBf (Dt.L w 1) else
 bif decide (((Dt.L w 2).length:Int)<1)||decide ((32:Int)<((Dt.L w 2).length:Int)) then 21 else owS [] (Dt.L w 2)
theorem ayV (m:Nat) (rec5:Int→Dt→Option Int) (w:Dt) (i:Nat) (hi:i<(Dt.L w 2).length) (hl:(Dt.L w 2).length<9223372036854775807):∀(M k:Nat) (fr:Bool),k≤i→i-k<M→
  oD m rec5 M (i:Int) fr (k:Int) w=wM m rec5 (i:Int) (fr&&!((((Dt.L w 2).take i).drop k).any (fun p=>ByteArray.toList (Dt.S p 0)==ByteArray.toList (Dt.S (Dt.L w 2)[i] 0)))) w
 |0,k,_,_,h=>by omega
 |M+    1,k,fr,hk,h=>by
  rw[oD,dlt]
  by_cases hlt:k<i
  ·have hk2:k<((Dt.L w 2).take i).length:=by simp;omega
   rw[decide_eq_true hlt,cond_true,FW,Dk,List.drop_eq_getElem_cons hk2,List.getElem_take,List.any_cons]
   have ih:=fun fr=>ayV m rec5 w i hi hl M (k+1) fr (by omega) (by omega)
   cases fr with
   |false=>rw[cond_false,wL,aT (by omega),ih,Bool.false_and,Bool.false_and]
   |    true=>
        rw[cond_true,ay (show k<(Dt.L w 2).length by omega),Option.bind_some,ay hi,Option.bind_some,wL,aT (by omega),ih,Bool.true_and,Bool.not_or]
  ·have:k=i:=by omega
   subst this
   rw[decide_eq_false hlt,cond_false,List.drop_eq_nil_of_le (by simp;omega),List.any_nil,Bool.not_false,Bool.and_true]
theorem ap0 (m:Nat) (hm:40≤m) (w:Dt) (hl:(Dt.L w 2).length≤32) (h:∀o∈Dt.L w 2,zZ m o=some (aBg o)):∀(M i:Nat),i≤(Dt.L w 2).length→(Dt.L w 2).length-i<M→
  kI m M (i:Int) w=some (owS ((Dt.L w 2).take i) ((Dt.L w 2).drop i))
 |0,i,_,h=>by omega
 |M+    1,i,hi,hM=>by
  rw[kI,dlt]
  by_cases hlt:i<(Dt.L w 2).length
  ·obtain⟨q,rfl⟩:∃q,m=q+2:=⟨m-2,by omega⟩
   have hin:=ayV (q+2) (kI (q+2) M) w i hlt (by omega) (q+3) 0 (ajA (Dt.S (Dt.L w 2)[i] 0)) (Nat.zero_le _) (by omega)
   rw[List.drop_zero] at hin
   rw[decide_eq_true hlt,cond_true,F3,ay hlt,Option.bind_some,ayU q (by omega),Option.bind_some,List.drop_eq_getElem_cons hlt,owS,FY]
   rw[show Nat.succ (q+2)=q+3 from rfl,show (0:Int)=((0:Nat):Int) from rfl,hin,wM,Bool.not_and,Bool.not_not]
   cases (!(ajA (Dt.S (Dt.L w 2)[i] 0))||((Dt.L w 2).take i).any (fun p=>ByteArray.toList (Dt.S p 0)==ByteArray.toList (Dt.S (Dt.L w 2)[i] 0))) with
   |true=>rfl
   |    false=>
        rw[cond_false,cond_false,Dn,ay hlt,Option.bind_some,h _ (List.getElem_mem hlt),Option.bind_some]
        cases (aBg (Dt.L w 2)[i] !=0) with
        |true=>rfl
        |false=>rw[cond_false,cond_false,Dm,aT (by omega),ap0 (q+2) hm w hl h M (i+1) (by omega) (by omega),apX hlt]
  ·have:i=(Dt.L w 2).length:=by omega
   subst this
   rw[decide_eq_false hlt,cond_false,List.drop_length,owS]
   rfl
inductive WW:Dt→Prop where
 |mk {d:Dt} (h0:WE (Dt.fld d 0)) (h2:∀o∈Dt.L d 2,WE (Dt.fld o 2)):WW d
section
variable {B:Nat} (hB:B≤100000000) {w:Dt} (hw:WW w) (hb:w.bulk≤B) (k:Nat) (hk:3*B+400≤k) (hk2:k<9223372036854750000)
include hB hw hb hk hk2
theorem aL8:oN (k+30) w=some (aVz w):=by
 cases hw with
 |mk h0  h2=>
  have hf0:=aA w 0
  have hV:aV (k+29) (Dt.fld w 0)=some (ckE 16 (Dt.fld w 0) 0).2:=aco B hB (k+6) (by omega) (by omega) _ h0 (by omega)
  have hO:mE (k+29) (Dt.L w 1)=some (aBf (Dt.L w 1)):=ayT (k+27) (by omega) (by omega) _
  rw[oN,Nk,hV,Option.bind_some,aVz,acj]
  cases h0':((ckE 16 (Dt.fld w 0) 0).2==0) with
  |false=>
   rw[cond_false,yO,acj,h0']
   rfl
  |true=>
   rw[cond_true,hO,Option.bind_some,yO,Bool.not_true,cond_false]
   cases (aBf (Dt.L w 1) !=0) with
   |true=>rfl
   |    false=>
        rw[cond_false,cond_false,F7,Dp]
        cases h1:decide (((Dt.L w 2).length:Int)<1) with
        |true=>rfl
        |false=>
         rw[cond_false,Bool.false_or,F6]
         cases h32:decide ((32:Int)<((Dt.L w 2).length:Int)) with
         |true=>rfl
         |false=>
          have hl:(Dt.L w 2).length≤32:=by have:=of_decide_eq_false h32;omega
          rw[cond_false,cond_false,F5,F4]
          have key:=ap0 (k+29) (by omega) w hl (fun o ho=>by
             have hm:=bA ho
             have hf:=aA o 2
             exact aL7 (k+24) o (aco B hB (k+5) (by omega) (by omega) _ (h2 o ho) (by omega))) (k+30) 0 (Nat.zero_le _) (by omega)
          rw[List.drop_zero] at key
          exact key
end
end Go.Proofs.YtjnkagkoolbodaaGreatDoor
