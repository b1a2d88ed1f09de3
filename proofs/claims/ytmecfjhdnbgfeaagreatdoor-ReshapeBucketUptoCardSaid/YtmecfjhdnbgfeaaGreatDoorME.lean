/- Expressions: the first error of a node by itself; the program's and the reference's.
Expressions:a node's first error,in stages;program and reference.
Expressions:the first error of a tree;the zero expression;program and reference. -/
import Derived.Test.YtmecfjhdnbgfeaaGreatDoorMD
import Derived.Test.YtmecfjhdnbgfeaaGreatDoorMC
set_option linter.unusedVariables false
set_option linter.unusedSimpArgs false
namespace Go.Proofs.YtmecfjhdnbgfeaaGreatDoor
open Go.Am
def PV (op:Int):Int:=
 bif op==1||op==2||op==3 then 0 else bif (op==18||op==22||op==23||op==24||op==26||op==30||op==31||op==36) then 1 else bif op==32||op==33 then 3 else bif op==19||op==25 then 4 else
 bif (op==4||op==6||op==16||op==17||op==21||op==29||op==37) then 5 else bif op==35 then 6 else bif op==34 then 7 else 2
def ehk (s n:Int):Bool:=bif s==0 then n==0 else bif s==1 then n==1 else bif (s==2||s==3) then n==2 else bif s==4 then n==3 else bif s==7 then decide (1≤n) else true
theorem yY {op:Int} (h1:1≤op) (h2:op≤37):op=1∨op=2∨op=3∨op=4∨op=5∨op=6∨op=7∨op=8∨op=9∨op=10∨op=11∨op=12∨op=13∨op=14∨op=15∨op=16∨op=17∨op=18∨op=19∨op=20∨op=21∨op=22∨op=23∨op=24∨op=25∨op=26∨op=27∨op=28∨op=29∨op=30∨op=31∨op=32∨op=33∨op=34∨op=35∨op=36∨op=37:=by omega
theorem Wz (m:Nat) {op:Int} (h1:1≤op) (h2:op≤37):nQ (m+1) op=some (PV op):=by
 rcases yY h1 h2 with rfl|rfl|rfl|rfl|rfl|rfl|rfl|rfl|rfl|rfl|rfl|rfl|rfl|rfl|rfl|rfl|rfl|rfl|rfl|rfl|rfl|rfl|rfl|rfl|rfl|rfl|rfl|rfl|rfl|rfl|rfl|rfl|rfl|rfl|rfl|rfl|rfl<;>rfl
theorem aqn (m:Nat) {op:Int} (h1:1≤op) (h2:op≤37) (n:Int):oC (m+1) (PV op) n=some (ehk (PV op) n):=by
 rcases yY h1 h2 with rfl|rfl|rfl|rfl|rfl|rfl|rfl|rfl|rfl|rfl|rfl|rfl|rfl|rfl|rfl|rfl|rfl|rfl|rfl|rfl|rfl|rfl|rfl|rfl|rfl|rfl|rfl|rfl|rfl|rfl|rfl|rfl|rfl|rfl|rfl|rfl|rfl<;>rfl
theorem aj1 {op:Int} (h1:1≤op) (h2:op≤37):(PV op==3)=(op==32||op==33):=by
 rcases yY h1 h2 with rfl|rfl|rfl|rfl|rfl|rfl|rfl|rfl|rfl|rfl|rfl|rfl|rfl|rfl|rfl|rfl|rfl|rfl|rfl|rfl|rfl|rfl|rfl|rfl|rfl|rfl|rfl|rfl|rfl|rfl|rfl|rfl|rfl|rfl|rfl|rfl|rfl<;>rfl
theorem aqo (m:Nat) {op:Int} (h1:1≤op) (h2:op≤37) (n:Nat):∃k,nO (m+1) op=some k∧((op=34∧decide (0≤k)=false)∨(op≠34∧(decide (0≤k)&&((n:Int) !=k))=!(ehk (PV op) n))):=by
 rcases yY h1 h2 with rfl|rfl|rfl|rfl|rfl|rfl|rfl|rfl|rfl|rfl|rfl|rfl|rfl|rfl|rfl|rfl|rfl|rfl|rfl|rfl|rfl|rfl|rfl|rfl|rfl|rfl|rfl|rfl|rfl|rfl|rfl|rfl|rfl|rfl|rfl|rfl|rfl
 all_goals first
  |exact⟨_,rfl,.inl ⟨rfl,rfl⟩⟩
  |exact⟨_,rfl,.inr ⟨by decide,rfl⟩⟩
theorem amO (n:Nat):ehk (PV 34) (n:Int)=!((n:Int)==0):=by
 show decide ((1:Int)≤n)=_
 by_cases h:n=0
 ·subst h;rfl
 ·rw[decide_eq_true (by omega),show ((n:Int)==0)=false by rw[beq_eq_false_iff_ne];omega];rfl
theorem aj2 (s:ByteArray):vld [.str s]=nm s:=by
 show (true&&true&&(nm s&&true))=nm s
 simp
theorem WA (m:Nat) (hm:40≤m) (s:ByteArray):jE (m+4) s=some (nm s):=by
 rw[jE,valid_eq m hm,Option.bind_some,aj2]
def dnm (l:List Dt):Bool:=VU nm [] (l.map Dt.toStr)
theorem QX (m:Nat) (hm:44≤m) (L:List Dt) (hl:L.length<9223372036854775807):∀(M i:Nat) (mp:List Dt),i≤L.length→L.length-i<M→afM mp ((L.take i).map Dt.toStr)→
  cB m M L (L.length:Int) (i:Int) mp=some (VU nm ((L.take i).map Dt.toStr) ((L.drop i).map Dt.toStr))
 |0,i,_,_,h,_=>by omega
 |M+    1,i,mp,hi,h,hmp=>by
  obtain⟨m,rfl⟩:∃q,m=q+4:=⟨m-4,by omega⟩
  rw[cB,dlt]
  by_cases hlt:i<L.length
  ·have hp:=hmp (Dt.toStr L[i])
   have hmp':=VR hmp (Dt.toStr L[i])
   have et:(L.take (i+1)).map Dt.toStr=((L.take i).map Dt.toStr)++[Dt.toStr L[i]]:=by
        rw[List.take_succ_eq_append_getElem hlt,List.map_append];rfl
   rw[←et] at hmp'
   have ih:=QX (m+4) hm L hl M (i+1) _ (by omega) (by omega) hmp'
   rw[List.drop_eq_getElem_cons hlt,List.map_cons,VU,←et]
   simp only[hlt,decide_true,cond_true,jm,aC hlt,Option.bind_some,hp,WA m (by omega),aM (show i<9223372036854775807 by omega),ih]
   cases nm (Dt.toStr L[i])<;>cases ((L.take i).map Dt.toStr).any (eqb (Dt.toStr L[i]))<;>rfl
  ·have:i=L.length:=by omega
   subst this
   simp[VU]
theorem aj3 (m:Nat) (hm:44≤m) (L:List Dt) (hl:L.length≤m) (hm2:m<9223372036854775000):dh (m+1) L=some (dnm L):=by
 have h:=QX m hm L (by omega) (m+1) 0 [] (Nat.zero_le _) (by omega) VQ
 exact h
theorem ahG (m:Nat) (rec1:List Dt→Int→Option Bool) (L:List Dt) (i:Nat) (hi:i<L.length) (hl:L.length<9223372036854775807):∀(M k:Nat),k≤i→i-k<M→
  nN m rec1 M L (i:Int) (k:Int)=bif (((L.take i).drop k).map Dt.toStr).any (eqb (Dt.toStr L[i])) then some false else rec1 L ((i+1:Nat):Int)
 |0,k,_,h=>by omega
 |M+1,k,hk,h=>by
  rw[nN,dlt]
  by_cases hlt:k<i
  ·have hk2:k<(L.take i).length:=by simp;omega
   rw[List.drop_eq_getElem_cons hk2,List.getElem_take,List.map_cons,List.any_cons]
   simp only[hlt,decide_true,cond_true,aC hi,aC (show k<L.length by omega),Option.bind_some,aM (show k<9223372036854775807 by omega),ahG m rec1 L i hi hl M (k+1) (by omega) (by omega)]
   rw[Fa]
   show (bif eqb (Dt.toStr L[k]) (Dt.toStr L[i]) then _ else _)=_
   cases eqb (Dt.toStr L[k]) (Dt.toStr L[i])<;>rfl
  ·have:k=i:=by omega
   subst this
   rw[List.drop_eq_nil_of_le (by simp;omega)]
   simp[aM (show k<9223372036854775807 by omega)]
theorem WB (m:Nat) (hm:34≤m) (L:List Dt) (hl:L.length≤m) (hm2:m<9223372036854775000):∀(M i:Nat),i≤L.length→L.length-i<M→
  iR m M L (i:Int)=some (VU nm ((L.take i).map Dt.toStr) ((L.drop i).map Dt.toStr))
 |0,i,_,h=>by omega
 |M+    1,i,hi,h=>by
  obtain⟨m,rfl⟩:∃q,m=q+1:=⟨m-1,by omega⟩
  rw[iR,dlt]
  by_cases hlt:i<L.length
  ·have et:(L.take (i+1)).map Dt.toStr=((L.take i).map Dt.toStr)++[Dt.toStr L[i]]:=by
        rw[List.take_succ_eq_append_getElem hlt,List.map_append];rfl
   have hin:=ahG (m+1) (iR (m+1) M) L i hlt (by omega) (m+2) 0 (Nat.zero_le _) (by omega)
   rw[List.drop_zero] at hin
   rw[List.drop_eq_getElem_cons hlt,List.map_cons,VU,←et]
   simp only[hlt,decide_true,cond_true,aC hlt,Option.bind_some,KE m (by omega)]
   cases nm (Dt.toStr L[i]) with
   |false=>rfl
   |    true=>
        rw[show Nat.succ (m+1)=m+2 from rfl,show (0:Int)=((0:Nat):Int) from rfl,hin]
        rw[WB (m+1) hm L hl hm2 M (i+1) (by omega) (by omega)]
        cases ((L.take i).map Dt.toStr).any (eqb (Dt.toStr L[i]))<;>rfl
  ·have:i=L.length:=by omega
   subst this
   simp[VU]
theorem amP (m:Nat) (hm:34≤m) (L:List Dt) (hl:L.length≤m) (hm2:m<9223372036854775000):lG (m+1) L=some (dnm L):=WB m hm L hl hm2 (m+1) 0 (Nat.zero_le _) (by omega)
def zvl (d:Dt):Bool:=(Dt.I d 0==0)&&(Dt.I d 1==0)&&(ByteArray.toList (Dt.S d 2)==[])&&(((Dt.L d 3).length:Int)==0)&&(((Dt.L d 4).length:Int)==0)
theorem NA (m:Nat) (d:Dt):nP (m+1) d=some (zvl d):=by
 rw[nP,zvl]
 cases (Dt.I d 0==0)<;>cases (Dt.I d 1==0)<;>cases (ByteArray.toList (Dt.S d 2)==[])<;>cases (((Dt.L d 3).length:Int)==0)<;>rfl
def zVl:Dt:= .agg [.int 0,.int 0,.str (ByteArray.mk (List.toArray [])),.lst [],.lst []]
theorem WC (m:Nat) (d:Dt):aF (m+2) d zVl=some (zvl d):=by
 have hI0:Dt.I zVl 0=0:=rfl
 have hI1:Dt.I zVl 1=0:=rfl
 have hS:ByteArray.toList (Dt.S zVl 2)=[]:=by show ByteArray.toList _=[];rw[ByteArray.toList_eq];rfl
 have hL3:Dt.L zVl 3=[]:=rfl
 have hL4:Dt.L zVl 4=[]:=rfl
 rw[aF,zvl,hI0,hI1,hS,hL3,hL4,List.length_nil]
 have b:∀x y:Int,(x !=y)=!(x==y):=fun _ _=>rfl
 simp only[b,show ((0:Nat):Int)=0 from rfl]
 cases (Dt.I d 0==0) with
 |false=>simp only[Bool.not_false,cond_true,bP,Bool.false_and]
 |true=>
  cases (Dt.I d 1==0) with
  |false=>simp only[Bool.not_false,Bool.not_true,cond_true,cond_false,bP,Bool.false_and,Bool.true_and]
  |true=>
   cases (ByteArray.toList (Dt.S d 2)==[]) with
   |false=>simp only[Bool.not_false,Bool.not_true,cond_true,cond_false,bP,Bool.false_and,Bool.true_and]
   |    true=>
        cases h3:(((Dt.L d 3).length:Int)==0) with
        |false=>simp only[Bool.not_false,Bool.not_true,cond_true,cond_false,bP,Bool.false_and,Bool.true_and]
        |true=>
         cases h4:(((Dt.L d 4).length:Int)==0) with
         |false=>simp only[Bool.not_false,Bool.not_true,cond_true,cond_false,bP,Bool.false_and,Bool.true_and]
         |true=>
          have e3:Dt.L d 3=[]:=List.length_eq_zero_iff.1 (by have:=(beq_iff_eq).1 h3;omega)
          have e4:Dt.L d 4=[]:=List.length_eq_zero_iff.1 (by have:=(beq_iff_eq).1 h4;omega)
          simp only[Bool.not_true,cond_false,Bool.true_and,kJ,bP]
          rw[rX]
          simp only[e3,List.length_nil,show ((0:Nat):Int)=0 from rfl,Int.lt_irrefl,decide_false,cond_false,kJ,bP]
          rw[mX]
          simp only[e4,List.length_nil,show ((0:Nat):Int)=0 from rfl,Int.lt_irrefl,decide_false,cond_false,kJ,bP]
end Go.Proofs.YtmecfjhdnbgfeaaGreatDoor
namespace Go.Proofs.YtmecfjhdnbgfeaaGreatDoor
open Go.Am
def sA (d:Dt):Int:=bif (!(Dt.I d 0==1)&&!(zvl (Dt.fld d 4)))||(Dt.I d 5 !=0) then 4 else 0
def sB (x0 x1:Bool) (d:Dt):Int:=bif (!x0&&decide ((0:Int)<((Dt.L d 1).length:Int)))||((!x1&&!(ByteArray.toList (Dt.S d 2)==[]))||(!(Dt.I d 0==34)&&decide ((0:Int)<((Dt.L d 3).length:Int)))) then 4 else sA d
def sC (x0 x1:Bool) (d:Dt):Int:=bif (Dt.I d 0==1)&&!(okV (Dt.fld d 4)) then 8 else sB x0 x1 d
def sD (x0 x1:Bool) (d:Dt):Int:=bif (x1&&!(nm (Dt.S d 2)))||((Dt.I d 0==34)&&!(dnm (Dt.L d 3))) then 9 else sC x0 x1 d
def sE (x0 x1:Bool) (d:Dt):Int:=bif x0&&(!(vld (Dt.L d 1))&&((Dt.I d 0==2)||decide ((0:Int)<((Dt.L d 1).length:Int)))) then 10 else sD x0 x1 d
def nodeS (d:Dt):Int:=bif decide (Dt.I d 0<1)||decide (37<Dt.I d 0) then 11 else
 bif !(ehk (PV (Dt.I d 0)) ((Dt.L d 6).length:Int))||((Dt.I d 0==34)&&(((Dt.L d 6).length:Int) !=((Dt.L d 3).length:Int))) then 11 else sE (Dt.I d 0==2||Dt.I d 0==3) (Dt.I d 0==3||(Dt.I d 0==32||Dt.I d 0==33)) d
theorem ahH (x y:Int):(x !=y)=!(x==y):=rfl
section
variable (k:Nat) (d:Dt)
theorem pA:pX (k+1) d=some (sA d):=by
 rw[pX,NA,Option.bind_some,sA]
 simp only[jc,ahH]
 cases (Dt.I d 0==1)<;>cases zvl (Dt.fld d 4)<;>cases (Dt.I d 5==0)<;>rfl
theorem pB (x0 x1:Bool):pY (k+1) x0 x1 d=some (sB x0 x1 d):=by
 rw[pY,sB]
 simp only[aX,pA,ahH]
 cases x0<;>cases x1<;>cases decide ((0:Int)<((Dt.L d 1).length:Int))<;>cases (ByteArray.toList (Dt.S d 2)==[])<;>cases (Dt.I d 0==34)<;>cases decide ((0:Int)<((Dt.L d 3).length:Int))<;>rfl
theorem pC (x0 x1:Bool) (hw:WV (Dt.fld d 4)) (hk:3*(Dt.fld d 4).bulk+300≤k) (hb:(Dt.fld d 4).bulk≤100000000000):qH (k+3) x0 x1 d=some (sC x0 x1 d):=by
 rw[qH,Rz hw k hk hb,Option.bind_some,sC]
 simp only[l6,pB]
 cases (Dt.I d 0==1)<;>cases okV (Dt.fld d 4)<;>rfl
theorem pD (x0 x1:Bool) (hw:WV (Dt.fld d 4)) (hk:3*(Dt.fld d 4).bulk+300≤k) (hb:(Dt.fld d 4).bulk≤100000000000) (hn:(Dt.L d 3).length≤k) (hk2:k<9223372036854770000):qI (k+4) x0 x1 d=some (sD x0 x1 d):=by
 rw[qI,WA k (by omega),aj3 (k+3) (by omega) (Dt.L d 3) (by omega) (by omega),Option.bind_some,Option.bind_some,sD]
 simp only[fu,pC (k+1) d x0 x1 hw (by omega) hb]
 cases x1<;>cases nm (Dt.S d 2)<;>cases (Dt.I d 0==34)<;>cases dnm (Dt.L d 3)<;>rfl
theorem pE (x0 x1:Bool) (hw:WV (Dt.fld d 4)) (hk:3*(Dt.fld d 4).bulk+300≤k) (hb:(Dt.fld d 4).bulk≤100000000000) (hn:(Dt.L d 3).length≤k) (hk2:k<9223372036854770000):jP (k+4) x0 x1 d=some (sE x0 x1 d):=by
 rw[jP,valid_eq (k+1) (by omega),Option.bind_some,sE]
 simp only[gK,pD k d x0 x1 hw hk hb hn hk2]
 cases x0<;>cases vld (Dt.L d 1)<;>cases (Dt.I d 0==2)<;>cases decide ((0:Int)<((Dt.L d 1).length:Int))<;>rfl
theorem adt (hw:WV (Dt.fld d 4)) (hk:3*(Dt.fld d 4).bulk+300≤k) (hb:(Dt.fld d 4).bulk≤100000000000) (hn:(Dt.L d 3).length≤k) (hk2:k<9223372036854770000):jd (k+5) d=some (nodeS d):=by
 rw[jd,nodeS]
 by_cases h1:Dt.I d 0<1
 ·rw[decide_eq_true h1,cond_true,Bool.true_or,cond_true];rfl
 by_cases h2:37<Dt.I d 0
 ·rw[decide_eq_false h1,decide_eq_true h2,cond_false,cond_true,Bool.or_true,cond_true];rfl
 rw[decide_eq_false h1,decide_eq_false h2,cond_false,cond_false,Bool.or_false,cond_false,Wz (k+3) (by omega) (by omega),Option.bind_some,aqn (k+3) (by omega) (by omega),Option.bind_some]
 have hE:=fun x0 x1=>pE k d x0 x1 hw hk hb hn hk2
 have hl:(PV (Dt.I d 0)==3)=(Dt.I d 0==32||Dt.I d 0==33):=aj1 (by omega) (by omega)
 simp only[jQ,nG,nE,Wz (k+3) (show 1≤Dt.I d 0 by omega) (by omega),Option.bind_some,hE,hl,ahH]
 cases ehk (PV (Dt.I d 0)) ((Dt.L d 6).length:Int)<;>cases (Dt.I d 0==34)<;>cases (((Dt.L d 6).length:Int)==((Dt.L d 3).length:Int))<;>cases (Dt.I d 0==2)<;>cases (Dt.I d 0==3)<;>rfl
theorem rB (x0:Bool) (x1:Bool) (h:x0=(Dt.I d 0==2||Dt.I d 0==3)):xS (k+2) x1 d=some (sB x0 x1 d):=by
 subst h
 have hs:aF (k+2) (Dt.fld d 4) (Dt.agg [(Dt.int 0),(Dt.int 0),(Dt.str (ByteArray.mk (List.toArray []))),(Dt.lst []),(Dt.lst [])])=some (zvl (Dt.fld d 4)):=WC k (Dt.fld d 4)
 have hs2:aF (k+2) (Dt.fld d 4) kza2373=some (zvl (Dt.fld d 4)):=WC k (Dt.fld d 4)
 rw[xS,sB,sA]
 simp only[au,hs,hs2,Option.bind_some,ahH]
 cases (Dt.I d 0==2)<;>cases (Dt.I d 0==3)<;>cases decide ((0:Int)<((Dt.L d 1).length:Int))<;>cases x1<;>cases (ByteArray.toList (Dt.S d 2)==[])<;>cases (Dt.I d 0==34)<;>cases decide ((0:Int)<((Dt.L d 3).length:Int))<;>cases (Dt.I d 0==1)<;>cases zvl (Dt.fld d 4)<;>cases (Dt.I d 5==0)<;>rfl
theorem rC (x0 x1:Bool) (h:x0=(Dt.I d 0==2||Dt.I d 0==3)) (hw:WV (Dt.fld d 4)) (hk:2*(Dt.fld d 4).bulk+300≤k) (hb:(Dt.fld d 4).bulk≤100000000000) (hk2:k<9223372036854770000):xU (k+4) x1 d=some (sC x0 x1 d):=by
 rw[xU,Cc hw k hk (by omega) hb,Option.bind_some,sC]
 simp only[sK,rB (k+2) d x0 x1 h]
 cases (Dt.I d 0==1)<;>cases okV (Dt.fld d 4)<;>rfl
theorem rD (x0 x1:Bool) (h:x0=(Dt.I d 0==2||Dt.I d 0==3)) (hw:WV (Dt.fld d 4)) (hk:2*(Dt.fld d 4).bulk+300≤k) (hb:(Dt.fld d 4).bulk≤100000000000) (hn:(Dt.L d 3).length≤k) (hk2:k<9223372036854770000):ni (k+4) x1 d=some (sD x0 x1 d):=by
 rw[ni,KE (k+3) (by omega),amP (k+3) (by omega) (Dt.L d 3) (by omega) (by omega),Option.bind_some,Option.bind_some,sD]
 simp only[j3,rC k d x0 x1 h hw hk hb hk2]
 cases x1<;>cases nm (Dt.S d 2)<;>cases (Dt.I d 0==34)<;>cases dnm (Dt.L d 3)<;>rfl
theorem rE (hw:WV (Dt.fld d 4)) (hk:2*(Dt.fld d 4).bulk+300≤k) (hb:(Dt.fld d 4).bulk≤100000000000) (hn:(Dt.L d 3).length≤k) (hk2:k<9223372036854770000):xV (k+4) d=some (sE (Dt.I d 0==2||Dt.I d 0==3) (Dt.I d 0==3||(Dt.I d 0==32||Dt.I d 0==33)) d):=by
 rw[xV,Vp (k+3) (by omega),Option.bind_some,Option.bind_some,sE]
 have hD:=fun x1=>rD k d _ x1 rfl hw hk hb hn hk2
 simp only[gy,hD]
 cases h2:(Dt.I d 0==2)<;>cases h3:(Dt.I d 0==3)<;>cases vld (Dt.L d 1)<;>cases decide ((0:Int)<((Dt.L d 1).length:Int))<;>cases (Dt.I d 0==32)<;>first|rfl|(exfalso;have a2:=(beq_iff_eq).1 h2;have a3:=(beq_iff_eq).1 h3;omega)
theorem ahI (hw:WV (Dt.fld d 4)) (hk:2*(Dt.fld d 4).bulk+300≤k) (hb:(Dt.fld d 4).bulk≤100000000000) (hn:(Dt.L d 3).length≤k) (hk2:k<9223372036854770000):pV (k+5) d=some (nodeS d):=by
 rw[pV,nodeS]
 by_cases h1:Dt.I d 0<1
 ·rw[decide_eq_true h1,cond_true,Bool.true_or,cond_true];rfl
 by_cases h2:37<Dt.I d 0
 ·rw[decide_eq_false h1,decide_eq_true h2,cond_false,cond_true,Bool.or_true,cond_true];rfl
 obtain⟨c,c1,c2⟩:=aqo (k+3) (show 1≤Dt.I d 0 by omega) (by omega) (Dt.L d 6).length
 rw[decide_eq_false h1,decide_eq_false h2,cond_false,cond_false,Bool.or_false,cond_false,c1,Option.bind_some,Option.bind_some]
 have hE:=rE k d hw hk hb hn hk2
 simp only[dM,hE]
 rcases c2 with⟨e,c2⟩| ⟨e,c2⟩
 ·rw[c2,e,amO]
  simp only[cond_false,ahH,beq_self_eq_true,cond_true,Bool.true_and]
  cases (((Dt.L d 6).length:Int)==0)<;>cases (((Dt.L d 6).length:Int)==((Dt.L d 3).length:Int))<;>rfl
 ·have e':(Dt.I d 0==34)=false:=by rw[beq_eq_false_iff_ne];exact e
  rw[e']
  simp only[cond_false,Bool.false_and,Bool.or_false]
  rw[←c2]
  cases decide (0≤c)<;>cases (((Dt.L d 6).length:Int) !=c)<;>rfl
end
end Go.Proofs.YtmecfjhdnbgfeaaGreatDoor
namespace Go.Proofs.YtmecfjhdnbgfeaaGreatDoor
open Go.Am
inductive WE:Dt→Prop where
 |mk {d:Dt} (h4:WV (Dt.fld d 4)) (h6:∀e∈Dt.L d 6,WE e):WE d
theorem alb:∀(N:Nat) (d:Dt),d.bulk≤N→HasTy Tryz.prog 29 d→WE d
 |0,d,h,_=>by have:=fH d;omega
 |N+1,d,h,ht=>by
  have hs:=(al3 Tryz.underlying29 ht).2
  have t4:HasTy Tryz.prog 26 (Dt.fld d 4):=hs 4 _ rfl
  have t6:HasTy Tryz.prog 27 (Dt.fld d 6):=hs 6 _ rfl
  refine .mk (afJ t4) fun e he=>?_
  have tp:=(YI Tryz.underlying27 t6).2.2 e he
  have h1:=nK (d:=d) (i:=6) he
  exact alb N _ (by omega) tp
def ckL (f:Dt→Nat→Nat×Int):List Dt→Nat→Nat×Int
 | [],n=>(n,0)
 |e::r,n=>bif (f e n).2 !=0 then f e n else ckL f r (f e n).1
def ckE:Nat→Dt→Nat→Nat×Int
 |0,_,n=>(n,2)
 |r+1,d,n=>bif Nat.beq n 256 then(n,2) else bif nodeS d !=0 then(n+1,nodeS d) else ckL (ckE r) (Dt.L d 6) (n+1)
theorem ZC {f:Dt→Nat→Nat×Int} (h:∀e n,n≤256→(f e n).1≤256):∀(l:List Dt) (n:Nat),n≤256→(ckL f l n).1≤256
 | [],n,hn=>hn
 |e::r,n,hn=>by
  rw[ckL]
  cases ((f e n).2 !=0) with
  |true=>exact h e n hn
  |false=>exact ZC h r _ (h e n hn)
theorem NC:∀(r:Nat) (d:Dt) (n:Nat),n≤256→(ckE r d n).1≤256
 |0,d,n,hn=>hn
 |r+1,d,n,hn=>by
  rw[ckE]
  cases hb:Nat.beq n 256 with
  |true=>exact hn
  |false=>
   have:n≠256:=fun h=>by subst h;cases hb
   cases (nodeS d !=0) with
   |true=>show n+1≤256;omega
   |false=>exact ZC (fun e n h=>NC r e n h) _ _ (by omega)
theorem WG (m:Nat) (self:Dt→Int→Int→Option (Int×Int)) (f:Dt→Nat→Nat×Int) (lv:Int) (h0:0≤lv∧lv≤17) (L:List Dt) (hl:L.length<9223372036854775807) (hf:∀e n,n≤256→(f e n).1≤256)
  (hs:∀e∈L,∀n:Nat,n≤256→self e (lv+1) (n:Int)=some ((f e n).2,((f e n).1:Int))):∀(M i n:Nat),i≤L.length→L.length-i<M→n≤256→
  Gs m self M lv L (L.length:Int) (i:Int) (n:Int)=some ((ckL f (L.drop i) n).2,((ckL f (L.drop i) n).1:Int))
 |0,i,_,_,h,_=>by omega
 |M+    1,i,n,hi,h,hn=>by
  rw[Gs,dlt]
  by_cases hlt:i<L.length
  ·have hsi:=hs _ (List.getElem_mem hlt) n hn
   have hfi:=hf L[i] n hn
   rw[decide_eq_true hlt,cond_true,aC hlt,Option.bind_some,wrap64 (n:=lv+1) (by omega) (by omega),hsi,Option.bind_some,List.drop_eq_getElem_cons hlt,ckL]
   show (bif (f L[i] n).2 !=0 then some ((f L[i] n).2,((f L[i] n).1:Int)) else Yc m self (Gs m self M) lv L (L.length:Int) (i:Int) ((f L[i] n).1:Int))=_
   cases ((f L[i] n).2 !=0) with
   |true=>rfl
   |    false=>
        rw[cond_false,cond_false,Yc,aM (by omega)]
        exact WG m self f lv h0 L hl hf hs M (i+1) _ (by omega) (by omega) hfi
  ·have e:i=L.length:=by omega
   subst e
   rw[decide_eq_false hlt,List.drop_length,ckL]
   rfl
theorem WH (B:Nat) (hB:B≤100000000) (k:Nat) (hk:3*B+400≤k) (hk2:k<9223372036854760000):∀(r:Nat),r≤16→∀(d:Dt) (n:Nat),WE d→d.bulk≤B→n≤256→
  i40 (k+r+6) d ((17:Int)-(r:Int)) (n:Int)=some ((ckE r d n).2,((ckE r d n).1:Int))
 |0,_,d,n,_,_,_=>rfl
 |r+    1,hr,d,n,hw,hb,hn=>by
  rw[show k+(r+1)+6=(k+r+6)+1 by omega,i40,decide_eq_false (by omega),cond_false,R3,ckE]
  by_cases h256:n=256
  ·subst h256;rfl
  ·have e1:(((n:Nat):Int)==256)=false:=by rw[beq_eq_false_iff_ne];omega
   have e2:Nat.beq n 256=false:=by
        cases hh:Nat.beq n 256 with
        |false=>rfl
        |true=>exact absurd (Nat.eq_of_beq_eq_true hh) h256
   have hw':=hw
   cases hw' with
   |    mk h4 h6=>
        have hb4:=mR d 4
        have hl3:=fI d 3
        have hl6:=fI d 6
        rw[e1,e2,cond_false,cond_false,show k+r+6=(k+r+1)+5 by omega,adt (k+r+1) d h4 (by omega) (by omega) (by omega) (by omega),Option.bind_some,aM (by omega)]
        cases (nodeS d !=0) with
        |true=>rfl
        |false=>
         rw[cond_false,cond_false]
         have key:=WG ((k+r+1)+5) (i40 ((k+r+1)+5)) (ckE r) ((17:Int)-((r+1:Nat):Int)) (by omega) (Dt.L d 6) (by omega) (fun e n h=>NC r e n h) (fun e he n hn=>by
          have hm:=nK he
          have:=WH B hB k hk hk2 r (by omega) e n (h6 e he) (by omega) hn
          rw[show k+r+6=(k+r+1)+5 by omega] at this
          rw[←this]
          congr 1
          omega) ((k+r+1)+6) 0 (n+1) (Nat.zero_le _) (by omega) (by omega)
         rw[List.drop_zero] at key
         exact key
theorem adu (B:Nat) (hB:B≤100000000) (k:Nat) (hk:3*B+400≤k) (hk2:k<9223372036854760000) (d:Dt) (hw:WE d) (hb:d.bulk≤B):p8 (k+23) d=some (ckE 16 d 0).2:=by
 have h:=WH B hB k hk hk2 16 (Nat.le_refl _) d 0 hw hb (by omega)
 rw[p8]
 have h':i40 (k+22) d 1 0=some ((ckE 16 d 0).2,((ckE 16 d 0).1:Int)):=h
 rw[h']
 rfl
theorem abY (m:Nat) (self:Dt→Int→Int→Option (Int×Int)) (f:Dt→Nat→Nat×Int) (lv:Int) (h0:0≤lv∧lv≤17) (d:Dt) (hl:(Dt.L d 6).length<9223372036854775807) (hf:∀e n,n≤256→(f e n).1≤256)
  (hs:∀e∈Dt.L d 6,∀n:Nat,n≤256→∃a,self e (((n+1:Nat)):Int) (lv+1)=some (a,(f e n).2)∧((f e n).2=0→a=((f e n).1:Int))):∀(M i n:Nat),i≤(Dt.L d 6).length→(Dt.L d 6).length-i<M→n≤256→
  ∃a,kQ m self M (n:Int) lv (i:Int) d=some (a,(ckL f ((Dt.L d 6).drop i) n).2)∧((ckL f ((Dt.L d 6).drop i) n).2=0→a=((ckL f ((Dt.L d 6).drop i) n).1:Int))
 |0,i,_,_,h,_=>by omega
 |M+    1,i,n,hi,h,hn=>by
  rw[kQ,dlt]
  by_cases hlt:i<(Dt.L d 6).length
  ·obtain⟨a,a1,a2⟩:=hs _ (List.getElem_mem hlt) n hn
   have hfi:=hf (Dt.L d 6)[i] n hn
   rw[decide_eq_true hlt,cond_true,aC hlt,Option.bind_some,wrap64 (n:=lv+1) (by omega) (by omega),aM (by omega),a1,Option.bind_some,List.drop_eq_getElem_cons hlt,ckL]
   show ∃a',(bif (f (Dt.L d 6)[i] n).2 !=0 then some (a,(f (Dt.L d 6)[i] n).2) else uN m self (kQ m self M) lv (i:Int) a d)=_∧_
   cases hz:((f (Dt.L d 6)[i] n).2 !=0) with
   |    true=>
        refine⟨a,rfl,fun h=>?_⟩
        rw[cond_true] at h
        rw[h] at hz
        cases hz
   |    false=>
        have hz':(f (Dt.L d 6)[i] n).2=0:=by simpa [bne] using hz
        rw[cond_false,cond_false,uN,aM (by omega),a2 hz']
        exact abY m self f lv h0 d hl hf hs M (i+1) _ (by omega) (by omega) hfi
  ·have e:i=(Dt.L d 6).length:=by omega
   subst e
   rw[decide_eq_false hlt,List.drop_length,ckL]
   exact⟨_,rfl,fun _=>rfl⟩
theorem abZ (B:Nat) (hB:B≤100000000) (k:Nat) (hk:3*B+400≤k) (hk2:k<9223372036854760000):∀(r:Nat),r≤16→∀(d:Dt) (n:Nat),WE d→d.bulk≤B→n≤256→
  ∃a,dL (k+r+6) d ((n+1:Nat):Int) ((17:Int)-(r:Int))=some (a,(ckE r d n).2)∧((ckE r d n).2=0→a=((ckE r d n).1:Int))
 |0,_,d,n,_,_,_=>⟨_,rfl,fun h=>by cases h⟩
 |r+    1,hr,d,n,hw,hb,hn=>by
  rw[show k+(r+1)+6=(k+r+6)+1 by omega,dL,decide_eq_false (by omega),cond_false,qy,ckE]
  by_cases h256:n=256
  ·subst h256;exact⟨_,rfl,fun h=>by cases h⟩
  ·have e1:decide ((256:Int)<((n+1:Nat):Int))=false:=decide_eq_false (by omega)
   have e2:Nat.beq n 256=false:=by
        cases hh:Nat.beq n 256 with
        |false=>rfl
        |true=>exact absurd (Nat.eq_of_beq_eq_true hh) h256
   have hw':=hw
   cases hw' with
   |    mk h4 h6=>
        have hb4:=mR d 4
        have hl3:=fI d 3
        have hl6:=fI d 6
        rw[e1,e2,cond_false,cond_false,show k+r+6=(k+r+1)+5 by omega,ahI (k+r+1) d h4 (by omega) (by omega) (by omega) (by omega),Option.bind_some]
        cases hz:(nodeS d !=0) with
        |true=>
         refine⟨_,rfl,fun h=>?_⟩
         have h:nodeS d=0:=h
         rw[h] at hz
         cases hz
        |false=>
         rw[cond_false,cond_false]
         have key:=abY ((k+r+1)+5) (dL ((k+r+1)+5)) (ckE r) ((17:Int)-((r+1:Nat):Int)) (by omega) d (by omega) (fun e n h=>NC r e n h) (fun e he n hn=>by
          have hm:=nK he
          obtain⟨a,a1,a2⟩:=abZ B hB k hk hk2 r (by omega) e n (h6 e he) (by omega) hn
          rw[show k+r+6=(k+r+1)+5 by omega] at a1
          refine⟨a,?_,a2⟩
          rw[←a1]
          congr 1
          omega) ((k+r+1)+6) 0 (n+1) (Nat.zero_le _) (by omega) (by omega)
         rw[List.drop_zero] at key
         exact key
theorem WI (B:Nat) (hB:B≤100000000) (k:Nat) (hk:3*B+400≤k) (hk2:k<9223372036854760000) (d:Dt) (hw:WE d) (hb:d.bulk≤B):iH (k+23) d=some (ckE 16 d 0).2:=by
 obtain⟨a,h,_⟩:=abZ B hB k hk hk2 16 (Nat.le_refl _) d 0 hw hb (by omega)
 rw[iH]
 have h':dL (k+22) d 1 1=some (a,(ckE 16 d 0).2):=h
 rw[h']
 rfl
end Go.Proofs.YtmecfjhdnbgfeaaGreatDoor
