/- Comparing values: the program's function, in plain Lean (parts numbered as since session 5). -/
import Derived.Test.YtpifchdngodgjaaGreatDoorSh
import Derived.Test.YtpifchdngodgjaaGreatDoorMA
import Derived.Test.YtpifchdngodgjaaGreatDoorMC
import Derived.Test.YtpifchdngodgjaaGreatDoorMTpo
set_option linter.unusedVariables false
set_option linter.unusedSimpArgs false
namespace Go.Proofs.YtpifchdngodgjaaGreatDoor
open Go.Am
theorem cmpF_congr {c c':Dt→Dt→Int} {f g:Dt} (h:c (Dt.fld f 1) (Dt.fld g 1)=c' (Dt.fld f 1) (Dt.fld g 1)):cmpF c f g=cmpF c' f g:=by unfold cmpF;rw[h]
theorem cmpV_fuel:∀(n n':Nat) (a b:Dt),a.bulk≤n→a.bulk≤n'→cmpV n a b=cmpV n' a b
 |0,_,a,_,h,_=>by have:=bulk_posA a;omega
 |_,0,a,_,_,h=>by have:=bulk_posA a;omega
 |n+1,n'+1,a,b,h,h'=>by
  simp only[cmpV]
  congr 1
  unfold cmpK
  rw[cmpL_congr (l:=Dt.L a 3) (c:=cmpV n) (c':=cmpV n') fun x hx y _=>cmpV_fuel n n' x y (by have:=L_mem hx;omega) (by have:=L_mem hx;omega),
   cmpL_congr (l:=Dt.L a 4) (c:=cmpF (cmpV n)) (c':=cmpF (cmpV n')) fun x hx y _=>cmpF_congr (cmpV_fuel n n' _ _ (by have:=L_mem hx;have:=fld_bulk x 1;omega) (by have:=L_mem hx;have:=fld_bulk x 1;omega))]
def cmpD (a b:Dt):Int:=cmpV (a.bulk+b.bulk) a b
theorem cmpV_D {n:Nat} {a b:Dt} (h:a.bulk≤n):cmpV n a b=cmpD a b:=cmpV_fuel _ _ _ _ h (by omega)
theorem tpoD:TPO cmpD:=by
 have e:∀(a b:Dt) (n:Nat),a.bulk≤n→cmpD a b=cmpV n a b:=fun a b n h=>(cmpV_D h).symm
 refine⟨fun a b=>?_,fun a b=>?_,fun a b d h1 h2=>?_⟩
 ·exact(tpoV _).rng a b
 ·rw[e a b (a.bulk+b.bulk) (by omega),e b a (a.bulk+b.bulk) (by omega)]
  exact(tpoV _).anti a b
 ·rw[e a b (a.bulk+b.bulk+d.bulk) (by omega)] at h1
  rw[e b d (a.bulk+b.bulk+d.bulk) (by omega)] at h2
  rw[e a d (a.bulk+b.bulk+d.bulk) (by omega)]
  exact(tpoV _).tr a b d h1 h2
theorem cmpI_eq (m:Nat) (a b:Int):zE (m+2) a b=some (cmpI a b):=by
 have e:∀x:Int,(x !=x)=false:=fun x=>by simp
 simp only[zE,zX,Option.bind_some,e,cond_false,zE_j0,zE_j4,zE_j3,zE_j2,zE_j1,cmpI]
 cases decide (a<b)<;>cases decide (b<a)<;>rfl
theorem cmpLen {A:Type} {c:A→A→Int}:∀{l r:List A},(l=[]∨r=[])→cmpL c l r=cmpI (l.length:Int) (r.length:Int)
 | [],[],_=>rfl
 | [],_::r,_=>by
   show (-1:Int)=_
   rcases cmpI_cases (([]:List A).length:Int) ((‹A› ::r).length:Int) with⟨_,e⟩| ⟨h,e⟩| ⟨h,e⟩
   ·rw[e]
   ·simp at h;omega
   ·simp at h;omega
 | _::l,[],_=>by
   show (1:Int)=_
   rcases cmpI_cases ((‹A› ::l).length:Int) (([]:List A).length:Int) with⟨h,e⟩| ⟨h,e⟩| ⟨_,e⟩
   ·simp at h;omega
   ·simp at h;omega
   ·rw[e]
 |_::_,_::_,h=>by simp at h
theorem cmpI_shift (a b k:Int):cmpI (a+k) (b+k)=cmpI a b:=by
 rcases cmpI_cases a b with⟨h,e⟩| ⟨h,e⟩| ⟨h,e⟩<;>rcases cmpI_cases (a+k) (b+k) with⟨g,f⟩| ⟨g,f⟩| ⟨g,f⟩<;>omega
theorem cmpDrop {A:Type} {c:A→A→Int} {l r:List A} {i:Nat} (hl:i≤l.length) (hr:i≤r.length) (h:i=l.length∨i=r.length):cmpL c (l.drop i) (r.drop i)=cmpI (l.length:Int) (r.length:Int):=by
 rw[cmpLen]
 ·rw[List.length_drop,List.length_drop,show ((l.length:Nat):Int)=((l.length-i:Nat):Int)+i by omega,show ((r.length:Nat):Int)=((r.length-i:Nat):Int)+i by omega,cmpI_shift]
 ·rcases h with h|h
  ·exact .inl (List.drop_eq_nil_of_le (by omega))
  ·exact .inr (List.drop_eq_nil_of_le (by omega))
theorem vcmp_l2 (m:Nat) (self:Dt→Dt→Option Int) (c:Dt→Dt→Int) (a b:Dt) (hl:(Dt.L a 3).length<1000000000000) (hs:∀x∈Dt.L a 3,∀y,self x y=some (c x y)):∀(M i:Nat),i≤(Dt.L a 3).length→i≤(Dt.L b 3).length→min (Dt.L a 3).length (Dt.L b 3).length-i<M→
  qC_l4 (m+2) self M ((min (Dt.L a 3).length (Dt.L b 3).length:Nat):Int) (i:Int) a b=some (cmpL c ((Dt.L a 3).drop i) ((Dt.L b 3).drop i))
 |0,i,_,_,h=>by omega
 |M+1,i,hi,hi2,h=>by
  simp only[qC_l4,dlt]
  by_cases h1:i<min (Dt.L a 3).length (Dt.L b 3).length
  ·have ha:i<(Dt.L a 3).length:=by omega
   have hb:i<(Dt.L b 3).length:=by omega
   simp only[h1,decide_true,cond_true,qC_j5,qC_j6,idx_lt ha,idx_lt hb,Option.bind_some,hs _ (List.getElem_mem ha),wrapS (show i<9223372036854775807 by omega)]
   rw[vcmp_l2 m self c a b hl hs M (i+1) (by omega) (by omega) (by omega),List.drop_eq_getElem_cons ha,List.drop_eq_getElem_cons hb]
   simp only[cmpL]
   cases (c (Dt.L a 3)[i] (Dt.L b 3)[i] !=0)<;>rfl
  ·simp only[h1,decide_false,cond_false,qC_j7,cmpI_eq,Option.bind_some]
   rw[cmpDrop hi hi2 (by omega)]
theorem vcmp_l7 (m:Nat) (self:Dt→Dt→Option Int) (c:Dt→Dt→Int) (a b:Dt) (hl:(Dt.L a 4).length<1000000000000) (hs:∀x∈Dt.L a 4,∀y,self (Dt.fld x 1) (Dt.fld y 1)=some (c (Dt.fld x 1) (Dt.fld y 1))):∀(M i:Nat),i≤(Dt.L a 4).length→i≤(Dt.L b 4).length→min (Dt.L a 4).length (Dt.L b 4).length-i<M→
  qC_l9 (m+2) self M ((min (Dt.L a 4).length (Dt.L b 4).length:Nat):Int) (i:Int) a b=some (cmpL (cmpF c) ((Dt.L a 4).drop i) ((Dt.L b 4).drop i))
 |0,i,_,_,h=>by omega
 |M+    1,i,hi,hi2,h=>by
  simp only[qC_l9,dlt]
  by_cases h1:i<min (Dt.L a 4).length (Dt.L b 4).length
  ·have ha:i<(Dt.L a 4).length:=by omega
   have hb:i<(Dt.L b 4).length:=by omega
   simp only[h1,decide_true,cond_true,qC_j10,qC_j11,qC_j12,idx_lt ha,idx_lt hb,Option.bind_some,strings_Compare,hs _ (List.getElem_mem ha),wrapS (show i<9223372036854775807 by omega)]
   rw[vcmp_l7 m self c a b hl hs M (i+1) (by omega) (by omega) (by omega),List.drop_eq_getElem_cons ha,List.drop_eq_getElem_cons hb]
   simp only[cmpL,cmpF,cmpT]
   by_cases e1:Lib.compareBytes (Dt.S (Dt.L a 4)[i] 0).data.toList (Dt.S (Dt.L b 4)[i] 0).data.toList=0
   ·    rw[bne_f e1,bne_f e1]
        by_cases e2:c (Dt.fld (Dt.L a 4)[i] 1) (Dt.fld (Dt.L b 4)[i] 1)=0
        ·rw[bne_f e2,bne_f e2]
        ·rw[bne_t e2,bne_t e2]
   ·rw[bne_t e1,bne_t e1,bne_t e1]
  ·simp only[h1,decide_false,cond_false,qC_j13,cmpI_eq,Option.bind_some]
   rw[cmpDrop hi hi2 (by omega)]
theorem min_int (x y:Nat):(bif decide ((y:Int)<(x:Int)) then(y:Int) else(x:Int))=((min x y:Nat):Int):=by
 rw[dlt]
 by_cases h:y<x
 ·simp only[h,decide_true,cond_true];omega
 ·simp only[h,decide_false,cond_false];omega
theorem vcmp_j0 (m:Nat) (self:Dt→Dt→Option Int) (a b:Dt):qC_j0 m self a b=
  bif (Dt.I a 0==3||Dt.I a 0==9||Dt.I a 0==10) then zE m (Dt.I a 1) (Dt.I b 1)
  else bif (Dt.I a 0==4||Dt.I a 0==7||Dt.I a 0==8) then strings_Compare (Dt.S a 2) (Dt.S b 2)
  else bif Dt.I a 0==6 then qC_j3 m self ((min (Dt.L a 3).length (Dt.L b 3).length:Nat):Int) 0 a b
  else bif Dt.I a 0==5 then qC_j8 m self ((min (Dt.L a 4).length (Dt.L b 4).length:Nat):Int) 0 a b else qC_j14 m self:=by
 have hb:∀x:Option Int,(x.bind fun r=>some r)=x:=fun x=>by cases x<;>rfl
 simp only[qC_j0,qC_j1,qC_j2,min_int,hb]
 cases (Dt.I a 0==3)<;>cases (Dt.I a 0==9)<;>cases (Dt.I a 0==10)<;>cases (Dt.I a 0==4)<;>cases (Dt.I a 0==7)<;>cases (Dt.I a 0==8)<;>rfl
theorem vcmp_eq:∀(n:Nat) (a b:Dt),a.bulk≤n→n<1000000000000→∀m,n≤m→qC (m+3) a b=some (cmpV n a b)
 |0,a,_,h,_,_,_=>by have:=bulk_posA a;omega
 |n+    1,a,b,h,hn,m,hm=>by
  obtain⟨m,rfl⟩:∃k,m=k+1:=⟨m-1,by omega⟩
  have h3:=L_len a 3
  have h4:=L_len a 4
  have e3:=vcmp_l2 (m+1) (qC (m+3)) (cmpV n) a b (by omega) (fun x hx y=>vcmp_eq n x y (by have:=L_mem hx;omega) (by omega) m (by omega)) (m+4) 0 (Nat.zero_le _) (Nat.zero_le _) (by omega)
  have e4:=vcmp_l7 (m+1) (qC (m+3)) (cmpV n) a b (by omega) (fun x hx y=>vcmp_eq n _ _ (by have:=L_mem hx;have:=fld_bulk x 1;omega) (by omega) m (by omega)) (m+4) 0 (Nat.zero_le _) (Nat.zero_le _) (by omega)
  rw[List.drop_zero,List.drop_zero] at e3 e4
  have e3':qC_j3 (m+3) (qC (m+3)) ((min (Dt.L a 3).length (Dt.L b 3).length:Nat):Int) 0 a b=_:=e3
  have e4':qC_j8 (m+3) (qC (m+3)) ((min (Dt.L a 4).length (Dt.L b 4).length:Nat):Int) 0 a b=_:=e4
  show (bif (Dt.I a 0 !=Dt.I b 0) then(zE (m+3) (Dt.I a 0) (Dt.I b 0)).bind (fun r=>some r) else qC_j0 (m+3) (qC (m+3)) a b)=_
  simp only[vcmp_j0,show m+3=(m+1)+2 from rfl,cmpI_eq,cmpV,Option.bind_some]
  cases (Dt.I a 0 !=Dt.I b 0)
  ·simp only[cond_false,cmpK]
   cases (Dt.I a 0==3||Dt.I a 0==9||Dt.I a 0==10)
   ·    cases (Dt.I a 0==4||Dt.I a 0==7||Dt.I a 0==8)
        ·cases (Dt.I a 0==6)
         ·cases (Dt.I a 0==5)
          ·rfl
          ·exact e4'
         ·exact e3'
        ·rfl
   ·rfl
  ·rfl
theorem vcmp_D (a b:Dt) (m:Nat) (hm:a.bulk≤m) (hm2:a.bulk<1000000000000):qC (m+3) a b=some (cmpD a b):=by
 rw[vcmp_eq a.bulk a b (Nat.le_refl _) hm2 m hm,cmpV_D (Nat.le_refl _)]
end Go.Proofs.YtpifchdngodgjaaGreatDoor
