/- What a path passes to: the program's function and the reference's.
Reach and Leaves:the program's functions and the reference's. -/
import Derived.Test.YtameompfdamfpaaGreatDoorRB
import Derived.Test.YtameompfdamfpaaGreatDoorMA
set_option linter.unusedVariables false
set_option linter.unusedSimpArgs false
namespace Go.Proofs.YtameompfdamfpaaGreatDoor
open Go.Am
def DL:Nat→Dt→Prop
 |0,_=>False
 |n+1,d=>∀e∈prts d,DL n e
theorem bulkL_app:∀a b:List Dt,Dt.bulkL (a++b)=Dt.bulkL a+Dt.bulkL b
 | [],b=>by simp[Dt.bulkL]
 |x::a,b=>by simp only[List.cons_append,Dt.bulkL,bulkL_app a b];omega
theorem cutL_nat {l:List Dt} {i j:Nat} (h1:i≤j) (h2:j≤l.length):cutL l (i:Int) (j:Int)=some ((l.drop i).take (j-i)):=by
 unfold cutL
 rw[if_pos ⟨by omega,by omega,by omega⟩]
 simp
theorem cutL_tail (x:Dt) (q:List Dt):cutL (x::q) 1 (((x::q).length:Nat):Int)=some q:=by
 have:=cutL_nat (l:=x::q) (i:=1) (j:=(x::q).length) (by simp) (Nat.le_refl _)
 rw[show ((1:Nat):Int)=1 from rfl] at this
 rw[this]
 simp
theorem idx_head (x:Dt) (q:List Dt):idx (x::q) 0=some x:=by
 have:=idx_lt (l:=x::q) (i:=0) (by simp)
 exact this
theorem rget_b (m:Nat) (s:ByteArray) (v:Dt) (hw:WV v) (h5:Dt.I v 0=5) (hm:v.bulk≤m) (hm2:m<9223372036854775807):ref01_Get (m+2) v s=some (gtV v s,(fi s (Dt.L v 4)).isSome):=by
 have hn:=L_len v 4
 rw[ref01_Get,at_eq m s v h5 (by omega) hm2,Option.bind_some,gtV]
 cases h:fi s (Dt.L v 4) with
 |none=>rw[oIn,dn2,cond_true];rfl
 |some k=>
  have hk:=fi_lt h
  obtain⟨e1,e2,e3⟩:=ch_F hw hk
  rw[oI0,dp2,cond_false,ref01_Get_j0,idx_lt hk,Option.bind_some,←e1];rfl
theorem pass_loop {Q:Dt→Prop} (m m':Nat) (self:Dt→List Dt→List Dt→Option (List Dt)) (self':Dt→List Dt→Option (List Dt)) (p:List Dt) (d:Dt) (c:Nat) (hl:(Dt.L d 3).length<9223372036854775807)
  (hs:∀e∈Dt.L d 3,∃r,(∀x∈r,Q x)∧Dt.bulkL r≤c*e.bulk∧self' e p=some r∧∀l,l.length+c*e.bulk≤137438953472→self e p l=some (l++r)):∀(M M' i:Nat),i≤(Dt.L d 3).length→(Dt.L d 3).length-i<M→(Dt.L d 3).length-i<M'→
  ∃R,(∀x∈R,Q x)∧Dt.bulkL R≤c*Dt.bulkL ((Dt.L d 3).drop i)∧
   (∀l:List Dt,l.length+c*Dt.bulkL ((Dt.L d 3).drop i)≤137438953472→i64_l3 m self M p (Dt.L d 3) ((Dt.L d 3).length:Int) (i:Int) l d=i64_j6 m self p (l++R) d)∧
   (∀l:List Dt,l.length+c*Dt.bulkL ((Dt.L d 3).drop i)≤137438953472→ref04_Pass_l5 m' self' M' p (i:Int) d l=ref04_Pass_j8 m' self' p d (l++R))
 |0,_,i,_,h,_=>by omega
 |_,0,i,_,_,h=>by omega
 |M+    1,M'+1,i,hi,h,h'=>by
  by_cases hlt:i<(Dt.L d 3).length
  ·obtain⟨R,hR1,hR2,hR3,hR4⟩:=pass_loop m m' self self' p d c hl hs M M' (i+1) (by omega) (by omega) (by omega)
   obtain⟨r,hr1,hr2,hr3,hr4⟩:=hs _ (List.getElem_mem hlt)
   have hdrop:c*Dt.bulkL ((Dt.L d 3).drop i)=c*(Dt.L d 3)[i].bulk+c*Dt.bulkL ((Dt.L d 3).drop (i+1)):=by
        rw[List.drop_eq_getElem_cons hlt]
        simp only[Dt.bulkL]
        exact Nat.mul_add _ _ _
   have hlr:=len_bulk r
   cases hk:(Dt.I (Dt.L d 3)[i] 0==5)
   ·    refine⟨R,hR1,by omega,fun l hle=>?_,fun l hle=>?_⟩
        ·simp only[i64_l3,dlt,hlt,decide_true,cond_true,i64_j4,i64_j5,idx_lt hlt,Option.bind_some,hk,cond_false,wrapS (show i<9223372036854775807 by omega)]
         exact hR3 l (by omega)
        ·simp only[ref04_Pass_l5,dlt,hlt,decide_true,cond_true,ref04_Pass_j6,ref04_Pass_j7,idx_lt hlt,Option.bind_some,hk,cond_false,wrapS (show i<9223372036854775807 by omega)]
         exact hR4 l (by omega)
   ·    refine⟨r++R,fun x hx=>?_,by rw[bulkL_app];omega,fun l hle=>?_,fun l hle=>?_⟩
        ·rcases List.mem_append.1 hx with hx|hx
         ·exact hr1 x hx
         ·exact hR1 x hx
        ·simp only[i64_l3,dlt,hlt,decide_true,cond_true,i64_j4,i64_j5,idx_lt hlt,Option.bind_some,hk,hr4 l (by omega),wrapS (show i<9223372036854775807 by omega)]
         rw[hR3 (l++r) (by rw[List.length_append];omega),List.append_assoc]
        ·simp only[ref04_Pass_l5,dlt,hlt,decide_true,cond_true,ref04_Pass_j6,ref04_Pass_j7,idx_lt hlt,Option.bind_some,hk,hr3,app_le (show l.length+r.length≤137438953472 by omega),wrapS (show i<9223372036854775807 by omega)]
         rw[hR4 (l++r) (by rw[List.length_append];omega),List.append_assoc]
  ·refine⟨[],by simp,by simp[Dt.bulkL],fun l _=>?_,fun l _=>?_⟩
   ·simp only[i64_l3,dlt,hlt,decide_false,cond_false,List.append_nil]
   ·simp only[ref04_Pass_l5,dlt,hlt,decide_false,cond_false,List.append_nil]
theorem rpass_eq:∀(N:Nat) (d:Dt),d.bulk≤N→N≤137438953472→WV d→∀n,DL n d→2^n*d.bulk≤137438953472→∀(p:List Dt) (m m':Nat),N+10≤m→N+10≤m'→m<9223372036854775807→m'<9223372036854775807→
  ∃r,(∀x∈r,WV x)∧Dt.bulkL r≤2^n*d.bulk∧ref04_Pass (m'+1) d p=some r∧∀l,l.length+2^n*d.bulk≤137438953472→i64 (m+1) d p l=some (l++r)
 |0,d,h,_,_,_,_,_,_,_,_,_,_,_,_=>by have:=bulk_pos d;omega
 |N+1,d,h,hN,hw,0,hD,_,_,_,_,_,_,_,_=>hD.elim
 |N+1,d,h,hN,hw,n+1,hD,hlim,[],m,m',hm,hm',_,_=>by
  have hp:1≤2^(n+1):=Nat.one_le_two_pow
  have hb:=bulk_pos d
  have h1:d.bulk≤2^(n+1)*d.bulk:=Nat.le_mul_of_pos_left _ hp
  refine⟨[d],fun x hx=>by rw[List.mem_singleton.1 hx];exact hw,by simpa [Dt.bulkL] using h1,rfl,fun l hl=>?_⟩
  show Option.bind (app l [d]) _=_
  rw[app_le (by simp;omega)]
  rfl
 |N+    1,d,h,hN,hw,n+1,hD,hlim,x::q,m,m',hm,hm',hm2,hm2'=>by
  have hw0:=hw
  obtain⟨m,rfl⟩:∃k,m=k+2:=⟨m-2,by omega⟩
  obtain⟨m',rfl⟩:∃k,m'=k+2:=⟨m'-2,by omega⟩
  have hpw:2^(n+1)*d.bulk=2^n*d.bulk+2^n*d.bulk:=by rw[Nat.pow_succ,Nat.mul_assoc,Nat.two_mul,Nat.mul_add]
  have hsub:∀e∈prts d,2^n*e.bulk≤2^n*d.bulk:=fun e he=>Nat.mul_le_mul_left _ (Nat.le_of_lt (prts_wv hw0 e he).2)
  have ih:∀e∈prts d,∀p',∃r,(∀x∈r,WV x)∧Dt.bulkL r≤2^n*e.bulk∧ref04_Pass (m'+2) e p'=some r∧∀l,l.length+2^n*e.bulk≤137438953472→i64 (m+2) e p' l=some (l++r):=fun e he p'=>by
   have h1:=hsub e he
   exact rpass_eq N e (by have:=(prts_wv hw0 e he).2;omega) (by omega) (prts_wv hw0 e he).1 n (hD e he) (by omega) p' (m+1) (m'+1) (by omega) (by omega) (by omega) (by omega)
  have hne:((((x::q).length:Nat):Int)==0)=false:=by rw[beq_eq_false_iff_ne];simp;omega
  have hl3:=L_len d 3
  have hl4:=L_len d 4
  have hb3:Dt.bulkL (Dt.L d 3)≤d.bulk:=by
   cases hw with
   | @mk k i t l ds hl hd=>rw[bulk_val];show Dt.bulkL l≤_;omega
  have E1:ref04_Pass (m'+2+1) d (x::q)=ref04_Pass_j0 (m'+2) (ref04_Pass (m'+2)) (x::q) d:=by
   show (bif ((((x::q).length:Nat):Int)==0) then _ else _)=_
   rw[hne]
   rfl
  have E2:∀l,i64 (m+2+1) d (x::q) l=i64_j0 (m+2) (i64 (m+2)) (x::q) l d:=fun l=>by
   show (bif ((((x::q).length:Nat):Int)==0) then _ else _)=_
   rw[hne]
   rfl
  have hpn:=path_num (m+1) (by omega) (Dt.toStr x)
  have hrn:=ref_num (m'+1) (by omega) (Dt.toStr x)
  simp only[E1,E2,i64_j0,ref04_Pass_j0]
  by_cases h5:Dt.I d 0=5
  ·have hpl:prts d=(Dt.L d 4).map (·.fld 1):=by unfold prts;rw[h5];rfl
   have hf:=path_field_fi (m+1) (Dt.toStr x) (Dt.L d 4) (by omega) (by omega)
   have hg:=rget_b m' (Dt.toStr x) d hw0 h5 (by omega) (by omega)
   simp only[h5,show ((5:Int)==5)=true from rfl,cond_true,idx_head,Option.bind_some,hf,hg]
   cases hfi:fi (Dt.toStr x) (Dt.L d 4) with
   |    none=>
        refine⟨[],by simp,by simp[Dt.bulkL],rfl,fun l _=>?_⟩
        simp[oIn,i64_j1]
   |    some j=>
        have hj:=fi_lt hfi
        obtain⟨e1,_,_⟩:=ch_F hw0 hj
        have hm4:chF d j∈prts d:=by rw[hpl,e1];exact List.mem_map_of_mem (List.getElem_mem hj)
        obtain⟨r,hr1,hr2,hr3,hr4⟩:=ih _ hm4 q
        have hs1:=hsub _ hm4
        have hgt:gtV d (Dt.toStr x)=chF d j:=by unfold gtV;rw[hfi]
        refine⟨r,hr1,by omega,?_,fun l hle=>?_⟩
        ·simp only[Option.isSome_some,cond_true,cutL_tail,Option.bind_some,hgt,hr3]
        ·simp only[oI0,dp1,cond_true,idx_lt hj,Option.bind_some,cutL_tail,←e1,hr4 l (by omega),i64_j1]
  ·have e5  :(Dt.I d 0==5)=false:=by rw[beq_eq_false_iff_ne];exact h5
   by_cases h6:Dt.I d 0=6
   ·    have hpl:prts d=Dt.L d 3:=by unfold prts;rw[h6];rfl
        obtain⟨R,hR1,hR2,hR3,hR4⟩:=pass_loop (Q:=WV) (m+2) (m'+2) (i64 (m+2)) (ref04_Pass (m'+2)) (x::q) d (2^n) (by omega) (fun e he=>ih e (by rw[hpl];exact he) (x::q)) (m+3) (m'+3) 0 (Nat.zero_le _) (by omega) (by omega)
        rw[List.drop_zero] at hR2 hR3 hR4
        have hcb:2^n*Dt.bulkL (Dt.L d 3)≤2^n*d.bulk:=Nat.mul_le_mul_left _ hb3
        have hlR:=len_bulk R
        have h3':∀l:List Dt,l.length+2^n*Dt.bulkL (Dt.L d 3)≤137438953472→i64_l3 (m+2) (i64 (m+2)) (Nat.succ (m+2)) (x::q) (Dt.L d 3) ((Dt.L d 3).length:Int) 0 l d=i64_j6 (m+2) (i64 (m+2)) (x::q) (l++R) d:=hR3
        have h4':ref04_Pass_l5 (m'+2) (ref04_Pass (m'+2)) (Nat.succ (m'+2)) (x::q) 0 d []=ref04_Pass_j8 (m'+2) (ref04_Pass (m'+2)) (x::q) d ([]++R):=hR4 [] (by simp;omega)
        simp only[e5,h6,show ((6:Int)==5)=false from rfl,show ((6:Int)==6)=true from rfl,show ((6:Int) !=6)=false from rfl,cond_true,cond_false,ref04_Pass_j2,ref04_Pass_j3,ref04_Pass_j4,i64_j2,h4',List.nil_append,ref04_Pass_j8,idx_head,Option.bind_some,hrn]
        cases hnu:nu (Dt.toStr x) with
        |none=>
         refine⟨R,hR1,by omega,by simp only[oPn,cond_false,ref04_Pass_j9,ref04_Pass_j10],fun l hle=>?_⟩
         rw[h3' l (by omega)]
         simp only[i64_j6,idx_head,Option.bind_some,hpn,hnu,oPn,cond_false,i64_j7,i64_j1]
        |some j=>
         by_cases h8:j<(Dt.L d 3).length
         ·have hm3:(Dt.L d 3)[j]∈prts d:=by rw[hpl];exact List.getElem_mem h8
          obtain⟨r,hr1,hr2,hr3,hr4⟩:=ih _ hm3 q
          have hs1:=hsub _ hm3
          have hlr:=len_bulk r
          have h8':(((j:Nat):Int)<((Dt.L d 3).length:Int))=True:=eq_true (by omega)
          refine⟨R++r,fun y hy=>?_,by rw[bulkL_app];omega,?_,fun l hle=>?_⟩
          · rcases List.mem_append.1 hy with hy|hy
            ·exact hR1 y hy
            ·exact hr1 y hy
          ·simp only[oP1,cond_true,h8',decide_true,decide_false,ref04_Pass_j9,ref04_Pass_j10,idx_lt h8,Option.bind_some,cutL_tail,hr3,app_le (show R.length+r.length≤137438953472 by omega)]
          · rw[h3' l (by omega)]
            simp only[i64_j6,idx_head,Option.bind_some,hpn,hnu,oP1,cond_true,h8',decide_true,decide_false,i64_j7,idx_lt h8,cutL_tail,hr4 (l++R) (by rw[List.length_append];omega),i64_j1,List.append_assoc]
         ·have h8':(((j:Nat):Int)<((Dt.L d 3).length:Int))=False:=eq_false (by omega)
          refine⟨R,hR1,by omega,by simp only[oP1,cond_true,h8',decide_true,decide_false,ref04_Pass_j9,ref04_Pass_j10,cond_false],fun l hle=>?_⟩
          rw[h3' l (by omega)]
          simp only[i64_j6,idx_head,Option.bind_some,hpn,hnu,oP1,cond_true,h8',decide_true,decide_false,i64_j7,cond_false,i64_j1]
   ·    have e6:(Dt.I d 0==6)=false:=by rw[beq_eq_false_iff_ne];exact h6
        have n6:(Dt.I d 0 !=6)=true:=by rw[bne,e6];rfl
        refine⟨[],by simp,by simp[Dt.bulkL],by simp only[e5,cond_false,ref04_Pass_j2,n6,cond_true],fun l _=>?_⟩
        simp only[e5,e6,cond_false,i64_j1,List.append_nil]
end Go.Proofs.YtameompfdamfpaaGreatDoor
namespace Go.Proofs.YtameompfdamfpaaGreatDoor
open Go.Am
theorem reach_loop (m:Nat) (L:List Dt) (hl:L.length<9223372036854775807) (hc:∀e∈L,IsVal e∧path_clone m e=some (prt5 e)):∀(M i:Nat),i≤L.length→L.length-i<M→path_Reach_l2 m M (L.length:Int) (i:Int) L=some L
 |0,i,_,h=>by omega
 |M+1,i,hi,h=>by
  simp only[path_Reach_l2,dlt]
  by_cases hlt:i<L.length
  ·obtain⟨e1,e2⟩:=hc _ (List.getElem_mem hlt)
   simp only[hlt,decide_true,cond_true,path_Reach_j3,path_Reach_j4,inL_lt hlt,Int.toNat_natCast,List.getElem?_eq_getElem hlt,Option.bind_some,e2,prt5_back e1,List.set_getElem_self,wrapS (show i<9223372036854775807 by omega)]
   exact reach_loop m L hl hc M (i+1) (by omega) (by omega)
  ·simp[hlt,path_Reach_j5]
theorem kz_wv:WV kza2373:= .mk (by simp) (by simp)
theorem reach_eq (d:Dt) (hw:WV d) (n:Nat) (hD:DL n d) (hb:2^n*d.bulk≤68719476736) (p:List Dt) (m:Nat) (hm:68719476800≤m) (hm2:m<9223372036854775000):
  ∃r,(∀x∈r,WV x)∧Dt.bulkL r≤68719476736∧path_Reach (m+1) d p=some r∧ref04_Reach (m+1) d p=some r:=by
 have hp:1≤2^n:=Nat.one_le_two_pow
 have h1:d.bulk≤2^n*d.bulk:=Nat.le_mul_of_pos_left _ hp
 obtain⟨m,rfl⟩:∃k,m=k+2:=⟨m-2,by omega⟩
 obtain⟨r,r1,r2,r3,r4⟩:=rpass_eq d.bulk d (Nat.le_refl _) (by omega) hw n hD (by omega) p (m+1) (m+1) (by omega) (by omega) (by omega) (by omega)
 have r4:=r4 [] (by simp;omega)
 rw[List.nil_append] at r4
 rw[path_Reach,ref04_Reach,r3,r4,Option.bind_some,Option.bind_some]
 cases r with
 |nil=>exact⟨[kza2373],fun x hx=>by rw[List.mem_singleton.1 hx];exact kz_wv,by decide,rfl,rfl⟩
 |cons x q=>
  have hne:((((x::q).length:Nat):Int)==0)=false:=by rw[beq_eq_false_iff_ne];simp;omega
  have hlr:=len_bulk (x::q)
  refine⟨x::q,r1,by omega,?_,?_⟩
  ·rw[hne,cond_false]
   exact reach_loop (m+2) (x::q) (by omega) (fun e he=>⟨(r1 e he).isVal,path_clone_cp _ e (Nat.le_refl _) (by have:=bulk_mem he;omega) (r1 e he) (m+1) (by have:=bulk_mem he;omega)⟩) (m+3) 0 (Nat.zero_le _) (by omega)
  ·rw[hne,cond_false,ref04_Reach_j0]
def lvs (x:Dt):List Dt:=x::(bif (Dt.I x 0==6) then Dt.L x 3 else[])
def lv:List Dt→List Dt
 | []=>[]
 |x::r=>lvs x++lv r
theorem lvs_ok {x:Dt} (hw:WV x):(∀y∈lvs x,WV y∧y.bulk≤x.bulk)∧(lvs x).length≤x.bulk:=by
 have h3:=L_len x 3
 have hL:=(wv_L hw).1
 unfold lvs
 cases (Dt.I x 0==6) with
 |true=>
  refine⟨fun y hy=>?_,by simp only[cond_true,List.length_cons];omega⟩
  rcases List.mem_cons.1 hy with rfl|hy
  ·exact⟨hw,Nat.le_refl _⟩
  ·exact⟨hL y hy,Nat.le_of_lt (L_mem hy)⟩
 |false=>
  have:=bulk_pos x
  refine⟨fun y hy=>?_,by simp only[cond_false,List.length_cons,List.length_nil];omega⟩
  rw[List.mem_singleton.1 hy]
  exact⟨hw,Nat.le_refl _⟩
theorem lv_ok:∀{L:List Dt},(∀x∈L,WV x)→(∀y∈lv L,WV y∧y.bulk≤Dt.bulkL L)∧(lv L).length≤Dt.bulkL L
 | [],_=>⟨by simp[lv],by simp[lv]⟩
 |x::r,h=>by
  obtain⟨a1,a2⟩:=lvs_ok (h x (by simp))
  obtain⟨b1,b2⟩:=lv_ok (L:=r) fun y hy=>h y (by simp[hy])
  simp only[lv,Dt.bulkL,List.length_append]
  refine⟨fun y hy=>?_,by omega⟩
  rcases List.mem_append.1 hy with hy|hy
  ·exact⟨(a1 y hy).1,by have:=(a1 y hy).2;omega⟩
  ·exact⟨(b1 y hy).1,by have:=(b1 y hy).2;omega⟩
theorem pleaves_l4 (m:Nat) (rec1:List Dt→Int→Int→List Dt→Option (List Dt)) (x0:List Dt) (x1 x2:Int) (E:List Dt) (hl:E.length<9223372036854775807) (hc:∀e∈E,IsVal e∧path_clone m e=some (prt5 e)):∀(M i:Nat) (out:List Dt),i≤E.length→E.length-i<M→out.length+(E.length-i)≤137438953472→
  path_Leaves_l4 m rec1 M x0 x1 x2 E (E.length:Int) (i:Int) out=path_Leaves_j7 m rec1 x0 x1 x2 (out++E.drop i)
 |0,i,_,_,h,_=>by omega
 |M+1,i,out,hi,h,ho=>by
  simp only[path_Leaves_l4,dlt]
  by_cases hlt:i<E.length
  ·obtain⟨e1,e2⟩:=hc _ (List.getElem_mem hlt)
   simp only[hlt,decide_true,cond_true,path_Leaves_j5,path_Leaves_j6,idx_lt hlt,Option.bind_some,e2,prt5_back e1,app_one (show out.length<137438953472 by omega),wrapS (show i<9223372036854775807 by omega)]
   rw[pleaves_l4 m rec1 x0 x1 x2 E hl hc M (i+1) (out++[E[i]]) (by omega) (by omega) (by simp;omega),List.drop_eq_getElem_cons hlt]
   simp
  ·have e:i=E.length:=by omega
   subst e
   simp
theorem pleaves_loop (m:Nat) (L:List Dt) (hL:∀x∈L,WV x) (hb:Dt.bulkL L≤68719476736) (hm:68719476800≤m):∀(M i:Nat) (out:List Dt),i≤L.length→L.length-i<M→out.length+Dt.bulkL (L.drop i)≤137438953472→
  path_Leaves_l1 (m+1) M L (L.length:Int) (i:Int) out=some (out++lv (L.drop i))
 |0,i,_,_,h,_=>by omega
 |M+    1,i,out,hi,h,ho=>by
  simp only[path_Leaves_l1,dlt]
  have hlL:=len_bulk L
  by_cases hlt:i<L.length
  ·have hw:=hL _ (List.getElem_mem hlt)
   obtain⟨a1,a2⟩:=lvs_ok hw
   have h3:=L_len L[i] 3
   have hbm:=bulk_mem (List.getElem_mem hlt)
   rw[List.drop_eq_getElem_cons hlt] at ho ⊢
   simp only[Dt.bulkL] at ho
   simp only[hlt,decide_true,cond_true,path_Leaves_j2,idx_lt hlt,Option.bind_some,app_one (show out.length<137438953472 by omega),lv]
   have ih:=fun out' h'=>pleaves_loop m L hL hb hm M (i+1) out' (by omega) (by omega) h'
   cases h6:(Dt.I L[i] 0==6) with
   |    true=>
        have hlv:lvs L[i]=L[i]::Dt.L L[i] 3:=by unfold lvs;rw[h6];rfl
        rw[hlv,List.length_cons] at a2
        have hc:∀e∈Dt.L L[i] 3,IsVal e∧path_clone (m+1) e=some (prt5 e):=fun e he=>by
         have hw':=(wv_L hw).1 e he
         have:=L_mem he
         exact⟨hw'.isVal,path_clone_cp _ e (Nat.le_refl _) (by omega) hw' m (by omega)⟩
        have key:=pleaves_l4 (m+1) (path_Leaves_l1 (m+1) M) L (L.length:Int) (i:Int) (Dt.L L[i] 3) (by omega) hc (m+2) 0 (out++[L[i]]) (Nat.zero_le _) (by omega) (by simp;omega)
        simp only[cond_true,path_Leaves_j3]
        refine Eq.trans key ?_
        rw[List.drop_zero,path_Leaves_j7,wrapS (show i<9223372036854775807 by omega),ih _ (by simp;omega),hlv]
        simp
   |    false=>
        have hlv:lvs L[i]=[L[i]]:=by unfold lvs;rw[h6];rfl
        simp only[cond_false,path_Leaves_j7,wrapS (show i<9223372036854775807 by omega)]
        rw[ih _ (by have:=bulk_pos L[i];simp;omega),hlv]
        simp
  ·have e:i=L.length:=by omega
   subst e
   simp[path_Leaves_j8,lv]
theorem rleaves_loop (m:Nat) (L:List Dt) (hL:∀x∈L,WV x) (hb:Dt.bulkL L≤68719476736):∀(M i:Nat) (out:List Dt),i≤L.length→L.length-i<M→out.length+Dt.bulkL (L.drop i)≤137438953472→
  ref04_Leaves_l1 m M L (i:Int) out=some (out++lv (L.drop i))
 |0,i,_,_,h,_=>by omega
 |M+    1,i,out,hi,h,ho=>by
  simp only[ref04_Leaves_l1,dlt]
  have hlL:=len_bulk L
  by_cases hlt:i<L.length
  ·have hw:=hL _ (List.getElem_mem hlt)
   obtain⟨a1,a2⟩:=lvs_ok hw
   have h3:=L_len L[i] 3
   rw[List.drop_eq_getElem_cons hlt] at ho ⊢
   simp only[Dt.bulkL] at ho
   have ih:=fun out' h'=>rleaves_loop m L hL hb M (i+1) out' (by omega) (by omega) h'
   simp only[hlt,decide_true,cond_true,ref04_Leaves_j2,idx_lt hlt,Option.bind_some,app_one (show out.length<137438953472 by omega),lv]
   cases h6:(Dt.I L[i] 0==6) with
   |    true=>
        have hlv:lvs L[i]=L[i]::Dt.L L[i] 3:=by unfold lvs;rw[h6];rfl
        rw[hlv,List.length_cons] at a2
        have ha:(out++[L[i]]).length+(Dt.L L[i] 3).length≤137438953472:=by simp;omega
        simp only[cond_true,app_le ha,Option.bind_some,ref04_Leaves_j3,wrapS (show i<9223372036854775807 by omega)]
        rw[ih _ (by simp;omega),hlv]
        simp
   |    false=>
        have hlv:lvs L[i]=[L[i]]:=by unfold lvs;rw[h6];rfl
        simp only[cond_false,ref04_Leaves_j3,wrapS (show i<9223372036854775807 by omega)]
        rw[ih _ (by have:=bulk_pos L[i];simp;omega),hlv]
        simp
  ·have e:i=L.length:=by omega
   subst e
   simp[ref04_Leaves_j4,lv]
theorem leaves_eq (d:Dt) (hw:WV d) (n:Nat) (hD:DL n d) (hb:2^n*d.bulk≤68719476736) (p:List Dt) (m:Nat) (hm:68719476900≤m) (hm2:m<9223372036854775000):
  ∃l,(∀y∈l,WV y∧y.bulk≤68719476736)∧l.length≤68719476736∧path_Leaves (m+1) d p=some l∧ref04_Leaves (m+1) d p=some l:=by
 obtain⟨m,rfl⟩:∃k,m=k+1:=⟨m-1,by omega⟩
 obtain⟨r,r1,r2,r3,r4⟩:=reach_eq d hw n hD hb p m (by omega) (by omega)
 obtain⟨a1,a2⟩:=lv_ok r1
 have hlr:=len_bulk r
 refine⟨lv r,fun y hy=>⟨(a1 y hy).1,by have:=(a1 y hy).2;omega⟩,by omega,?_,?_⟩
 ·rw[path_Leaves,r3,Option.bind_some]
  have:=pleaves_loop m r r1 r2 (by omega) (m+2) 0 [] (Nat.zero_le _) (by omega) (by rw[List.drop_zero];simp;omega)
  rw[List.drop_zero,List.nil_append] at this
  exact this
 ·rw[ref04_Leaves,r4,Option.bind_some]
  have:=rleaves_loop (m+1) r r1 r2 (m+2) 0 [] (Nat.zero_le _) (by omega) (by rw[List.drop_zero];simp;omega)
  rw[List.drop_zero,List.nil_append] at this
  exact this
end Go.Proofs.YtameompfdamfpaaGreatDoor
