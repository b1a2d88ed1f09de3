/- Copies of values: the functions hand the parts back.
Comparing values:the program's function,in plain Lean (parts numbered as since session 5).
Comparing values:the reference's function (parts numbered as since session 5). -/
import Derived.Test.YtpifchdngodgjaaGreatDoorMA
import Derived.Test.YtpifchdngodgjaaGreatDoorSh
import Derived.Test.YtpifchdngodgjaaGreatDoorMC
import Derived.Test.YtpifchdngodgjaaGreatDoorMTpo
set_option linter.unusedVariables false
set_option linter.unusedSimpArgs false
namespace Go.Proofs.YtpifchdngodgjaaGreatDoor
open Go.Am
def prt5 (d:Dt):Int×Int×ByteArray×List Dt×List Dt:=(Dt.I d 0,Dt.I d 1,Dt.S d 2,Dt.L d 3,Dt.L d 4)
def IsVal (d:Dt):Prop:=∃k i t l ds,d= .agg [.int k,.int i,.str t,.lst l,.lst ds]
theorem prt5_back {d:Dt} (h:IsVal d):Dt.agg [.int (prt5 d).1,.int (prt5 d).2.1,.str (prt5 d).2.2.1,.lst (prt5 d).2.2.2.1,.lst (prt5 d).2.2.2.2]=d:=by
 obtain⟨k,i,t,l,ds,rfl⟩:=h
 rfl
theorem WV.isVal {d:Dt} (h:WV d):IsVal d:=by
 cases h with
 |mk hl hd=>exact⟨_,_,_,_,_,rfl⟩
theorem qN_l1' (m:Nat) (self:Dt→Option (Int×Int×ByteArray×List Dt×List Dt)) (l:List Dt) (hl:l.length<9223372036854775807) (hs:∀e∈l,IsVal e∧self e=some (prt5 e)) (z x3 x4:Dt) (x5 x6:Int) (x7:ByteArray) (x9:List Dt):∀(M i:Nat),i≤l.length→l.length-i<M→
  qN_l1 m self M l (l.length:Int) (i:Int) x3 x4 x5 x6 x7 (l.take i++List.replicate (l.length-i) z) x9=qN_j4 m self x3 x4 x5 x6 x7 l x9
 |0,i,_,h=>by omega
 |M+1,i,hi,h=>by
  simp only[qN_l1,dlt]
  by_cases hlt:i<l.length
  ·have hx:i<(l.take i++List.replicate (l.length-i) z).length:=by rw[row_len l z i hi];exact hlt
   obtain⟨e1,e2⟩:=hs _ (List.getElem_mem hlt)
   simp only[hlt,decide_true,cond_true,qN_j2,qN_j3,idx_lt hlt,Option.bind_some,e2,prt5_back e1,inL_lt hx,Int.toNat_natCast,List.getElem?_eq_getElem hx,set_step l z i hlt,wrapS (show i<9223372036854775807 by omega)]
   exact qN_l1' m self l hl hs z x3 x4 x5 x6 x7 x9 M (i+1) (by omega) (by omega)
  ·have e:i=l.length:=by omega
   subst e
   simp
theorem qN_l6' (m:Nat) (self:Dt→Option (Int×Int×ByteArray×List Dt×List Dt)) (l:List Dt) (hl:l.length<9223372036854775807) (hf:∀f∈l,∃s v,f= .agg [.str s,v]∧IsVal v∧self v=some (prt5 v)) (z x3:Dt) (x4 x5:Int) (x6:ByteArray) (x7:List Dt):∀(M i:Nat),i≤l.length→l.length-i<M→
  qN_l6 m self M l (l.length:Int) (i:Int) x3 x4 x5 x6 x7 (l.take i++List.replicate (l.length-i) z)=some (x4,x5,x6,x7,l)
 |0,i,_,h=>by omega
 |M+1,i,hi,h=>by
  simp only[qN_l6,dlt]
  by_cases hlt:i<l.length
  ·have hx:i<(l.take i++List.replicate (l.length-i) z).length:=by rw[row_len l z i hi];exact hlt
   obtain⟨s,v,e1,e2,e3⟩:=hf _ (List.getElem_mem hlt)
   have e5:Dt.agg [.str (Dt.S l[i] 0),v]=l[i]:=by rw[e1];rfl
   have e4:Dt.fld l[i] 1=v:=by rw[e1];rfl
   simp only[hlt,decide_true,cond_true,qN_j7,qN_j8,idx_lt hlt,Option.bind_some,e4,e3,prt5_back e2,e5,inL_lt hx,Int.toNat_natCast,List.getElem?_eq_getElem hx,set_step l z i hlt,wrapS (show i<9223372036854775807 by omega)]
   exact qN_l6' m self l hl hf z x3 x4 x5 x6 x7 M (i+1) (by omega) (by omega)
  ·have e:i=l.length:=by omega
   subst e
   simp[qN_j9]
theorem qN_j4' (m:Nat) (self:Dt→Option (Int×Int×ByteArray×List Dt×List Dt)) (d x4:Dt) (x5 x6:Int) (x7:ByteArray) (x8:List Dt) (hm:(Dt.L d 4).length≤m) (hl:(Dt.L d 4).length≤137438953472) (hf:∀f∈Dt.L d 4,∃s v,f= .agg [.str s,v]∧IsVal v∧self v=some (prt5 v)):
  qN_j4 m self d x4 x5 x6 x7 x8 []=some (x5,x6,x7,x8,Dt.L d 4):=by
 unfold qN_j4
 by_cases h0:0<(Dt.L d 4).length
 ·have e0:decide ((0:Int)<(((Dt.L d 4).length:Nat):Int))=true:=by simp;omega
  rw[e0]
  simp only[cond_true]
  rw[mkL_nat hl,Option.bind_some]
  have key:=fun z=>qN_l6' m self (Dt.L d 4) (by omega) hf z x4 x5 x6 x7 x8 (Nat.succ m) 0 (by omega) (by omega)
  simp only[List.take_zero,List.nil_append,Nat.sub_zero] at key
  exact key _
 ·have e0:decide ((0:Int)<(((Dt.L d 4).length:Nat):Int))=false:=by rw[decide_eq_false_iff_not];omega
  have e1:Dt.L d 4=[]:=List.length_eq_zero_iff.1 (by omega)
  rw[e0,e1]
  rfl
theorem qN_cp:∀(N:Nat) (d:Dt),d.bulk≤N→N≤137438953472→WV d→∀m,N≤m→qN (m+1) d=some (prt5 d)
 |0,d,h,_,_,_,_=>by have:=bulk_pos d;omega
 |N +   1,d,h,hN,hw,m,hm=>by
  cases hw with
  | @mk   k i t l ds hl hd=>
    rw[bulk_val] at h
    obtain⟨m,rfl⟩:∃q,m=q+1:=⟨m-1,by omega⟩
    have hself:∀e∈l,IsVal e∧qN (m+1) e=some (prt5 e):=fun e he=>⟨(hl e he).isVal,qN_cp N e (by have:=bulk_mem he;omega) (by omega) (hl e he) m (by omega)⟩
    have hfld:∀f∈ds,∃s v,f= .agg [.str s,v]∧IsVal v∧qN (m+1) v=some (prt5 v):=fun f hf=>by
        have hb:=bulk_mem hf
        cases hd f hf with
        | @mk s v hv=>
          rw[bulk_fld] at hb
          exact⟨s,v,rfl,hv.isVal,qN_cp N v (by omega) (by omega) hv m (by omega)⟩
    have hl1:=len_bulk l
    have hd1:=len_bulk ds
    have key4:=fun(x4:Dt) (x8:List Dt)=>qN_j4' (m+1) (qN (m+1)) (.agg [.int k,.int i,.str t,.lst l,.lst ds]) x4 k i t x8 (show ds.length≤m+1 by omega) (show ds.length≤137438953472 by omega) hfld
    show (bif (decide ((0:Int)<((l.length:Nat):Int))) then _ else _)=_
    by_cases h0:0<l.length
    ·   have e0:decide ((0:Int)<((l.length:Nat):Int))=true:=by simp;omega
        have key:=fun(x3 x4:Dt) (z:Dt)=>qN_l1' (m+1) (qN (m+1)) l (by omega) hself z x3 x4 k i t [] (m+2) 0 (by omega) (by omega)
        simp only[List.take_zero,List.nil_append,Nat.sub_zero] at key
        rw[e0]
        simp only[cond_true]
        show Option.bind (mkL ((l.length:Nat):Int) ((l.length:Nat):Int) _) _=_
        rw[mkL_nat (by omega),Option.bind_some]
        show qN_l1 (m+1) (qN (m+1)) (m+2) l ((l.length:Nat):Int) ((0:Nat):Int) _ _ k i t _ _=_
        rw[key,key4]
        rfl
    ·   have e0:decide ((0:Int)<((l.length:Nat):Int))=false:=by rw[decide_eq_false_iff_not];omega
        have e3:l=[]:=List.length_eq_zero_iff.1 (by omega)
        rw[e0]
        simp only[cond_false]
        show qN_j4 (m+1) (qN (m+1)) _ _ k i t [] []=_
        rw[key4,e3]
        rfl
end Go.Proofs.YtpifchdngodgjaaGreatDoor
namespace Go.Proofs.YtpifchdngodgjaaGreatDoor
open Go.Am
theorem cmpF_congr {c c':Dt→Dt→Int} {f g:Dt} (h:c (Dt.fld f 1) (Dt.fld g 1)=c' (Dt.fld f 1) (Dt.fld g 1)):cmpF c f g=cmpF c' f g:=by unfold cmpF;rw[h]
theorem cmpV_fuel:∀(n n':Nat) (a b:Dt),a.bulk≤n→a.bulk≤n'→cmpV n a b=cmpV n' a b
 |0,_,a,_,h,_=>by have:=bulk_posA a;omega
 |_,0,a,_,_,h=>by have:=bulk_posA a;omega
 |n+1,n'+1,a,b,h,h'=>by
  simp only[cmpV]
  congr 1
  unfold cmpK
  rw[cmpL_congr (l:=Dt.L a 3) (c:=cmpV n) (c':=cmpV n') fun x hx y _=>cmpV_fuel n n' x y (by have:=L_mem hx;omega) (by have:=L_mem hx;omega),
   cmpL_congr (l:=Dt.L a 4) (c:=cmpF (cmpV n)) (c':=cmpF (cmpV n')) fun x hx y _=>cmpF_congr (cmpV_fuel n n' _ _ (by have:=L_mem hx;have:=fld_bulk x 1;omega) (by have:=L_mem hx;have:=fld_bulk x 1;omega))]
def cmpD (a b:Dt):Int:=cmpV (a.bulk+b.bulk) a b
theorem cmpV_D {n:Nat} {a b:Dt} (h:a.bulk≤n):cmpV n a b=cmpD a b:=cmpV_fuel _ _ _ _ h (by omega)
theorem tpoD:TPO cmpD:=by
 have e:∀(a b:Dt) (n:Nat),a.bulk≤n→cmpD a b=cmpV n a b:=fun a b n h=>(cmpV_D h).symm
 refine⟨fun a b=>?_,fun a b=>?_,fun a b d h1 h2=>?_⟩
 ·exact(tpoV _).rng a b
 ·rw[e a b (a.bulk+b.bulk) (by omega),e b a (a.bulk+b.bulk) (by omega)]
  exact(tpoV _).anti a b
 ·rw[e a b (a.bulk+b.bulk+d.bulk) (by omega)] at h1
  rw[e b d (a.bulk+b.bulk+d.bulk) (by omega)] at h2
  rw[e a d (a.bulk+b.bulk+d.bulk) (by omega)]
  exact(tpoV _).tr a b d h1 h2
theorem cmpI_eq (m:Nat) (a b:Int):zM (m+2) a b=some (cmpI a b):=by
 have e:∀x:Int,(x !=x)=false:=fun x=>by simp
 simp only[zM,yL,Option.bind_some,e,cond_false,zM_j0,zM_j4,zM_j3,zM_j2,zM_j1,cmpI]
 cases decide (a<b)<;>cases decide (b<a)<;>rfl
theorem cmpLen {A:Type} {c:A→A→Int}:∀{l r:List A},(l=[]∨r=[])→cmpL c l r=cmpI (l.length:Int) (r.length:Int)
 | [],[],_=>rfl
 | [],_::r,_=>by
   show (-1:Int)=_
   rcases cmpI_cases (([]:List A).length:Int) ((‹A› ::r).length:Int) with⟨_,e⟩| ⟨h,e⟩| ⟨h,e⟩
   ·rw[e]
   ·simp at h;omega
   ·simp at h;omega
 | _::l,[],_=>by
   show (1:Int)=_
   rcases cmpI_cases ((‹A› ::l).length:Int) (([]:List A).length:Int) with⟨h,e⟩| ⟨h,e⟩| ⟨_,e⟩
   ·simp at h;omega
   ·simp at h;omega
   ·rw[e]
 |_::_,_::_,h=>by simp at h
theorem cmpI_shift (a b k:Int):cmpI (a+k) (b+k)=cmpI a b:=by
 rcases cmpI_cases a b with⟨h,e⟩| ⟨h,e⟩| ⟨h,e⟩<;>rcases cmpI_cases (a+k) (b+k) with⟨g,f⟩| ⟨g,f⟩| ⟨g,f⟩<;>omega
theorem cmpDrop {A:Type} {c:A→A→Int} {l r:List A} {i:Nat} (hl:i≤l.length) (hr:i≤r.length) (h:i=l.length∨i=r.length):cmpL c (l.drop i) (r.drop i)=cmpI (l.length:Int) (r.length:Int):=by
 rw[cmpLen]
 ·rw[List.length_drop,List.length_drop,show ((l.length:Nat):Int)=((l.length-i:Nat):Int)+i by omega,show ((r.length:Nat):Int)=((r.length-i:Nat):Int)+i by omega,cmpI_shift]
 ·rcases h with h|h
  ·exact .inl (List.drop_eq_nil_of_le (by omega))
  ·exact .inr (List.drop_eq_nil_of_le (by omega))
theorem vcmp_l2 (m:Nat) (self:Dt→Dt→Option Int) (c:Dt→Dt→Int) (a b:Dt) (hl:(Dt.L a 3).length<1000000000000) (hs:∀x∈Dt.L a 3,∀y,self x y=some (c x y)):∀(M i:Nat),i≤(Dt.L a 3).length→i≤(Dt.L b 3).length→min (Dt.L a 3).length (Dt.L b 3).length-i<M→
  qD_l4 (m+2) self M ((min (Dt.L a 3).length (Dt.L b 3).length:Nat):Int) (i:Int) a b=some (cmpL c ((Dt.L a 3).drop i) ((Dt.L b 3).drop i))
 |0,i,_,_,h=>by omega
 |M+1,i,hi,hi2,h=>by
  simp only[qD_l4,dlt]
  by_cases h1:i<min (Dt.L a 3).length (Dt.L b 3).length
  ·have ha:i<(Dt.L a 3).length:=by omega
   have hb:i<(Dt.L b 3).length:=by omega
   simp only[h1,decide_true,cond_true,qD_j5,qD_j6,idx_lt ha,idx_lt hb,Option.bind_some,hs _ (List.getElem_mem ha),wrapS (show i<9223372036854775807 by omega)]
   rw[vcmp_l2 m self c a b hl hs M (i+1) (by omega) (by omega) (by omega),List.drop_eq_getElem_cons ha,List.drop_eq_getElem_cons hb]
   simp only[cmpL]
   cases (c (Dt.L a 3)[i] (Dt.L b 3)[i] !=0)<;>rfl
  ·simp only[h1,decide_false,cond_false,qD_j7,cmpI_eq,Option.bind_some]
   rw[cmpDrop hi hi2 (by omega)]
theorem vcmp_l7 (m:Nat) (self:Dt→Dt→Option Int) (c:Dt→Dt→Int) (a b:Dt) (hl:(Dt.L a 4).length<1000000000000) (hs:∀x∈Dt.L a 4,∀y,self (Dt.fld x 1) (Dt.fld y 1)=some (c (Dt.fld x 1) (Dt.fld y 1))):∀(M i:Nat),i≤(Dt.L a 4).length→i≤(Dt.L b 4).length→min (Dt.L a 4).length (Dt.L b 4).length-i<M→
  qD_l9 (m+2) self M ((min (Dt.L a 4).length (Dt.L b 4).length:Nat):Int) (i:Int) a b=some (cmpL (cmpF c) ((Dt.L a 4).drop i) ((Dt.L b 4).drop i))
 |0,i,_,_,h=>by omega
 |M+    1,i,hi,hi2,h=>by
  simp only[qD_l9,dlt]
  by_cases h1:i<min (Dt.L a 4).length (Dt.L b 4).length
  ·have ha:i<(Dt.L a 4).length:=by omega
   have hb:i<(Dt.L b 4).length:=by omega
   simp only[h1,decide_true,cond_true,qD_j10,qD_j11,qD_j12,idx_lt ha,idx_lt hb,Option.bind_some,strings_Compare,hs _ (List.getElem_mem ha),wrapS (show i<9223372036854775807 by omega)]
   rw[vcmp_l7 m self c a b hl hs M (i+1) (by omega) (by omega) (by omega),List.drop_eq_getElem_cons ha,List.drop_eq_getElem_cons hb]
   simp only[cmpL,cmpF,cmpT]
   by_cases e1:Lib.compareBytes (Dt.S (Dt.L a 4)[i] 0).data.toList (Dt.S (Dt.L b 4)[i] 0).data.toList=0
   ·    rw[bne_f e1,bne_f e1]
        by_cases e2:c (Dt.fld (Dt.L a 4)[i] 1) (Dt.fld (Dt.L b 4)[i] 1)=0
        ·rw[bne_f e2,bne_f e2]
        ·rw[bne_t e2,bne_t e2]
   ·rw[bne_t e1,bne_t e1,bne_t e1]
  ·simp only[h1,decide_false,cond_false,qD_j13,cmpI_eq,Option.bind_some]
   rw[cmpDrop hi hi2 (by omega)]
theorem min_int (x y:Nat):(bif decide ((y:Int)<(x:Int)) then(y:Int) else(x:Int))=((min x y:Nat):Int):=by
 rw[dlt]
 by_cases h:y<x
 ·simp only[h,decide_true,cond_true];omega
 ·simp only[h,decide_false,cond_false];omega
theorem vcmp_j0 (m:Nat) (self:Dt→Dt→Option Int) (a b:Dt):qD_j0 m self a b=
  bif (Dt.I a 0==3||Dt.I a 0==9||Dt.I a 0==10) then zM m (Dt.I a 1) (Dt.I b 1)
  else bif (Dt.I a 0==4||Dt.I a 0==7||Dt.I a 0==8) then strings_Compare (Dt.S a 2) (Dt.S b 2)
  else bif Dt.I a 0==6 then qD_j3 m self ((min (Dt.L a 3).length (Dt.L b 3).length:Nat):Int) 0 a b
  else bif Dt.I a 0==5 then qD_j8 m self ((min (Dt.L a 4).length (Dt.L b 4).length:Nat):Int) 0 a b else qD_j14 m self:=by
 have hb:∀x:Option Int,(x.bind fun r=>some r)=x:=fun x=>by cases x<;>rfl
 simp only[qD_j0,qD_j1,qD_j2,min_int,hb]
 cases (Dt.I a 0==3)<;>cases (Dt.I a 0==9)<;>cases (Dt.I a 0==10)<;>cases (Dt.I a 0==4)<;>cases (Dt.I a 0==7)<;>cases (Dt.I a 0==8)<;>rfl
theorem vcmp_eq:∀(n:Nat) (a b:Dt),a.bulk≤n→n<1000000000000→∀m,n≤m→qD (m+3) a b=some (cmpV n a b)
 |0,a,_,h,_,_,_=>by have:=bulk_posA a;omega
 |n+    1,a,b,h,hn,m,hm=>by
  obtain⟨m,rfl⟩:∃k,m=k+1:=⟨m-1,by omega⟩
  have h3:=L_len a 3
  have h4:=L_len a 4
  have e3:=vcmp_l2 (m+1) (qD (m+3)) (cmpV n) a b (by omega) (fun x hx y=>vcmp_eq n x y (by have:=L_mem hx;omega) (by omega) m (by omega)) (m+4) 0 (Nat.zero_le _) (Nat.zero_le _) (by omega)
  have e4:=vcmp_l7 (m+1) (qD (m+3)) (cmpV n) a b (by omega) (fun x hx y=>vcmp_eq n _ _ (by have:=L_mem hx;have:=fld_bulk x 1;omega) (by omega) m (by omega)) (m+4) 0 (Nat.zero_le _) (Nat.zero_le _) (by omega)
  rw[List.drop_zero,List.drop_zero] at e3 e4
  have e3':qD_j3 (m+3) (qD (m+3)) ((min (Dt.L a 3).length (Dt.L b 3).length:Nat):Int) 0 a b=_:=e3
  have e4':qD_j8 (m+3) (qD (m+3)) ((min (Dt.L a 4).length (Dt.L b 4).length:Nat):Int) 0 a b=_:=e4
  show (bif (Dt.I a 0 !=Dt.I b 0) then(zM (m+3) (Dt.I a 0) (Dt.I b 0)).bind (fun r=>some r) else qD_j0 (m+3) (qD (m+3)) a b)=_
  simp only[vcmp_j0,show m+3=(m+1)+2 from rfl,cmpI_eq,cmpV,Option.bind_some]
  cases (Dt.I a 0 !=Dt.I b 0)
  ·simp only[cond_false,cmpK]
   cases (Dt.I a 0==3||Dt.I a 0==9||Dt.I a 0==10)
   ·    cases (Dt.I a 0==4||Dt.I a 0==7||Dt.I a 0==8)
        ·cases (Dt.I a 0==6)
         ·cases (Dt.I a 0==5)
          ·rfl
          ·exact e4'
         ·exact e3'
        ·rfl
   ·rfl
  ·rfl
theorem vcmp_D (a b:Dt) (m:Nat) (hm:a.bulk≤m) (hm2:a.bulk<1000000000000):qD (m+3) a b=some (cmpD a b):=by
 rw[vcmp_eq a.bulk a b (Nat.le_refl _) hm2 m hm,cmpV_D (Nat.le_refl _)]
end Go.Proofs.YtpifchdngodgjaaGreatDoor
namespace Go.Proofs.YtpifchdngodgjaaGreatDoor
open Go.Am
theorem ints_eq (m:Nat) (a b:Int):zU (m+1) a b=some (cmpI a b):=by
 simp only[zU,zU_j0,zU_j1,cmpI]
 cases decide (a<b)<;>cases decide (b<a)<;>rfl
theorem texts_loop (m:Nat) (a b:ByteArray) (ha:a.size<1000000000000):∀(M i:Nat),i≤a.size→i≤b.size→a.size-i<M→zN_l1 (m+1) M a b (i:Int)=some (cmpL cmpU (a.data.toList.drop i) (b.data.toList.drop i))
 |0,i,_,_,h=>by omega
 |M+    1,i,hi,hi2,h=>by
  have la:a.data.toList.length=a.size:=by rw[Array.length_toList];rfl
  have lb:b.data.toList.length=b.size:=by rw[Array.length_toList];rfl
  simp only[zN_l1,dlt]
  by_cases h1:i<a.size
  ·by_cases h2:i<b.size
   ·    have e1:a.data.toList.drop i=a[i]::a.data.toList.drop (i+1):=by rw[List.drop_eq_getElem_cons (by omega)];rfl
        have e2:b.data.toList.drop i=b[i]::b.data.toList.drop (i+1):=by rw[List.drop_eq_getElem_cons (by omega)];rfl
        have hwr:∀u:UInt8,IntKind.wrap IntKind.i64 (u.toNat:Int)=(u.toNat:Int):=fun u=>wrap64 (by omega) (by have:=u.toNat_lt;omega)
        simp only[h1,h2,decide_true,cond_true,zN_j2,zN_j3,idxS_lt h1,idxS_lt h2,Option.bind_some,hwr,ints_eq,wrapS (show i<9223372036854775807 by omega)]
        rw[texts_loop m a b ha M (i+1) (by omega) (by omega) (by omega),e1,e2]
        simp only[cmpL]
        by_cases e:((a[i].toNat:Int))=(b[i].toNat:Int)
        ·have e3:cmpU a[i] b[i]=0:=by
          rcases cmpI_cases (a[i].toNat:Int) (b[i].toNat:Int) with⟨g,f⟩| ⟨g,f⟩| ⟨g,f⟩
          ·omega
          ·exact f
          ·omega
         rw[bne_f e,bne_f e3]
        ·have e3:cmpU a[i] b[i]≠0:=by
          rcases cmpI_cases (a[i].toNat:Int) (b[i].toNat:Int) with⟨g,f⟩| ⟨g,f⟩| ⟨g,f⟩
          ·intro x;rw[show cmpU a[i] b[i]= -1 from f] at x;omega
          ·omega
          ·intro x;rw[show cmpU a[i] b[i]=1 from f] at x;omega
         rw[bne_t e,bne_t e3]
         rfl
   ·    have:i=b.size:=by omega
        simp only[h1,h2,decide_true,decide_false,cond_true,cond_false,zN_j4,ints_eq,Option.bind_some]
        rw[cmpDrop (by omega) (by omega) (.inr (by omega)),la,lb]
  ·simp only[h1,decide_false,cond_false,zN_j4,ints_eq,Option.bind_some]
   rw[cmpDrop (by omega) (by omega) (.inl (by omega)),la,lb]
theorem texts_eq (m:Nat) (a b:ByteArray) (hm:a.size≤m) (hm2:m<1000000000000):zN (m+2) a b=some (cmpT a b):=by
 have:=texts_loop m a b (by omega) (m+2) 0 (by omega) (by omega) (by omega)
 rw[cmpT,cmpB_eq]
 exact this
theorem rcmp_l2 (m:Nat) (self:Dt→Dt→Option Int) (c:Dt→Dt→Int) (a b:Dt) (hl:(Dt.L a 3).length<1000000000000) (hs:∀x∈Dt.L a 3,∀y,self x y=some (c x y)):∀(M i:Nat),i≤(Dt.L a 3).length→i≤(Dt.L b 3).length→(Dt.L a 3).length-i<M→
  qB_l4 (m+1) self M (i:Int) a b=some (cmpL c ((Dt.L a 3).drop i) ((Dt.L b 3).drop i))
 |0,i,_,_,h=>by omega
 |M+    1,i,hi,hi2,h=>by
  simp only[qB_l4,dlt]
  by_cases ha:i<(Dt.L a 3).length
  ·by_cases hb:i<(Dt.L b 3).length
   ·    simp only[ha,hb,decide_true,cond_true,qB_j5,qB_j6,idx_lt ha,idx_lt hb,Option.bind_some,hs _ (List.getElem_mem ha),wrapS (show i<9223372036854775807 by omega)]
        rw[rcmp_l2 m self c a b hl hs M (i+1) (by omega) (by omega) (by omega),List.drop_eq_getElem_cons ha,List.drop_eq_getElem_cons hb]
        simp only[cmpL]
        cases (c (Dt.L a 3)[i] (Dt.L b 3)[i] !=0)<;>rfl
   ·    simp only[ha,hb,decide_true,decide_false,cond_true,cond_false,qB_j7,ints_eq,Option.bind_some]
        rw[cmpDrop hi hi2 (by omega)]
  ·simp only[ha,decide_false,cond_false,qB_j7,ints_eq,Option.bind_some]
   rw[cmpDrop hi hi2 (by omega)]
theorem rcmp_l7 (m:Nat) (hm:1≤m) (self:Dt→Dt→Option Int) (c:Dt→Dt→Int) (a b:Dt) (hl:(Dt.L a 4).length<1000000000000) (ht:∀x∈Dt.L a 4,∀y,zN (m+1) (Dt.S x 0) (Dt.S y 0)=some (cmpT (Dt.S x 0) (Dt.S y 0))) (hs:∀x∈Dt.L a 4,∀y,self (Dt.fld x 1) (Dt.fld y 1)=some (c (Dt.fld x 1) (Dt.fld y 1))):∀(M i:Nat),i≤(Dt.L a 4).length→i≤(Dt.L b 4).length→(Dt.L a 4).length-i<M→
  qB_l9 (m+1) self M (i:Int) a b=some (cmpL (cmpF c) ((Dt.L a 4).drop i) ((Dt.L b 4).drop i))
 |0,i,_,_,h=>by omega
 |M+    1,i,hi,hi2,h=>by
  simp only[qB_l9,dlt]
  by_cases ha:i<(Dt.L a 4).length
  ·by_cases hb:i<(Dt.L b 4).length
   ·    simp only[ha,hb,decide_true,cond_true,qB_j10,qB_j11,qB_j12,idx_lt ha,idx_lt hb,Option.bind_some,ht _ (List.getElem_mem ha),hs _ (List.getElem_mem ha),wrapS (show i<9223372036854775807 by omega)]
        rw[rcmp_l7 m hm self c a b hl ht hs M (i+1) (by omega) (by omega) (by omega),List.drop_eq_getElem_cons ha,List.drop_eq_getElem_cons hb]
        simp only[cmpL,cmpF]
        by_cases e:cmpT (Dt.S (Dt.L a 4)[i] 0) (Dt.S (Dt.L b 4)[i] 0)=0
        ·have e1:(cmpT (Dt.S (Dt.L a 4)[i] 0) (Dt.S (Dt.L b 4)[i] 0)==0)=true:=by simpa using e
         rw[e1]
         simp only[cond_true]
         rw[bne_f e]
         by_cases e2:c (Dt.fld (Dt.L a 4)[i] 1) (Dt.fld (Dt.L b 4)[i] 1)=0
         ·rw[bne_f e2,bne_f e2]
         ·rw[bne_t e2,bne_t e2]
        ·have e1:(cmpT (Dt.S (Dt.L a 4)[i] 0) (Dt.S (Dt.L b 4)[i] 0)==0)=false:=by simpa using e
         rw[e1]
         simp only[cond_false]
         rw[bne_t e,bne_t e,bne_t e]
   ·    simp only[ha,hb,decide_true,decide_false,cond_true,cond_false,qB_j13,ints_eq,Option.bind_some]
        rw[cmpDrop hi hi2 (by omega)]
  ·simp only[ha,decide_false,cond_false,qB_j13,ints_eq,Option.bind_some]
   rw[cmpDrop hi hi2 (by omega)]
theorem rcmp_j0 (m:Nat) (self:Dt→Dt→Option Int) (a b:Dt):qB_j0 m self a b=
  bif (Dt.I a 0==3||Dt.I a 0==9||Dt.I a 0==10) then zU m (Dt.I a 1) (Dt.I b 1)
  else bif (Dt.I a 0==4||Dt.I a 0==7||Dt.I a 0==8) then zN m (Dt.S a 2) (Dt.S b 2)
  else bif Dt.I a 0==6 then qB_j3 m self 0 a b
  else bif Dt.I a 0==5 then qB_j8 m self 0 a b else qB_j14 m self:=by
 have hb:∀x:Option Int,(x.bind fun r=>some r)=x:=fun x=>by cases x<;>rfl
 simp only[qB_j0,qB_j1,qB_j2,hb]
 cases (Dt.I a 0==3)<;>cases (Dt.I a 0==9)<;>cases (Dt.I a 0==10)<;>cases (Dt.I a 0==4)<;>cases (Dt.I a 0==7)<;>cases (Dt.I a 0==8)<;>rfl
theorem rcmp_eq:∀(n:Nat) (a b:Dt),a.bulk≤n→n<900000000000→∀m,n≤m→m<900000000000→qB (m+3) a b=some (cmpV n a b)
 |0,a,_,h,_,_,_,_=>by have:=bulk_posA a;omega
 |n+    1,a,b,h,hn,m,hm,hm2=>by
  obtain⟨m,rfl⟩:∃k,m=k+1:=⟨m-1,by omega⟩
  have h3:=L_len a 3
  have h4:=L_len a 4
  have e3:=rcmp_l2 (m+2) (qB (m+3)) (cmpV n) a b (by omega) (fun x hx y=>rcmp_eq n x y (by have:=L_mem hx;omega) (by omega) m (by omega) (by omega)) (m+4) 0 (Nat.zero_le _) (Nat.zero_le _) (by omega)
  have e4:=rcmp_l7 (m+2) (by omega) (qB (m+3)) (cmpV n) a b (by omega) (fun x hx y=>texts_eq (m+1) _ _ (by have:=L_mem hx;have:=S_size x 0;omega) (by omega)) (fun x hx y=>rcmp_eq n _ _ (by have:=L_mem hx;have:=fld_bulk x 1;omega) (by omega) m (by omega) (by omega)) (m+4) 0 (Nat.zero_le _) (Nat.zero_le _) (by omega)
  rw[List.drop_zero,List.drop_zero] at e3 e4
  have e3':qB_j3 (m+3) (qB (m+3)) 0 a b=_:=e3
  have e4':qB_j8 (m+3) (qB (m+3)) 0 a b=_:=e4
  show (bif (Dt.I a 0 !=Dt.I b 0) then(zU (m+3) (Dt.I a 0) (Dt.I b 0)).bind (fun r=>some r) else qB_j0 (m+3) (qB (m+3)) a b)=_
  simp only[rcmp_j0,show m+3=(m+2)+1 from rfl,ints_eq,cmpV,Option.bind_some]
  cases (Dt.I a 0 !=Dt.I b 0)
  ·simp only[cond_false,cmpK]
   cases (Dt.I a 0==3||Dt.I a 0==9||Dt.I a 0==10)
   ·    cases (Dt.I a 0==4||Dt.I a 0==7||Dt.I a 0==8)
        ·cases (Dt.I a 0==6)
         ·cases (Dt.I a 0==5)
          ·rfl
          ·exact e4'
         ·exact e3'
        ·exact texts_eq (m+1) _ _ (by have:=S_size a 2;omega) (by omega)
   ·rfl
  ·rfl
theorem rcmp_D (a b:Dt) (m:Nat) (hm:a.bulk≤m) (hm2:m<900000000000):qB (m+3) a b=some (cmpD a b):=by
 rw[rcmp_eq a.bulk a b (Nat.le_refl _) (by omega) m hm hm2,cmpV_D (Nat.le_refl _)]
end Go.Proofs.YtpifchdngodgjaaGreatDoor
