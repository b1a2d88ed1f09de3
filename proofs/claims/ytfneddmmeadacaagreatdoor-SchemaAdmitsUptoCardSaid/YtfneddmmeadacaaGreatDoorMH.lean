/- Valid of the program: it ends, and a valid schema is right in all its parts.
The reference's violations are the program's.
Check of the program is Check of the reference. -/
import Derived.Test.YtfneddmmeadacaaGreatDoorMD
import Derived.Test.YtfneddmmeadacaaGreatDoorMG
import Derived.Test.YtfneddmmeadacaaGreatDoorMF
set_option linter.unusedVariables false
set_option linter.unusedSimpArgs false
namespace Go.Proofs.YtfneddmmeadacaaGreatDoor
open Go.Am
inductive AllS:Dt→Prop where
 |mk {s:Dt} (h:sgl s=0) (h9:∀p∈Dt.L s 9,AllS (Dt.fld p 1)) (h11:∀e∈Dt.L s 11,AllS e):AllS s
def ChkT (x:Dt) (p p':Int→Int→Option (Int×Int)):Prop:=
 ∀level seen:Nat,level≤17→seen≤64→∃(e n:Int),p (level:Int) (seen:Int)=some (e,n)∧p' (level:Int) (seen:Int)=some (e,n)∧(e=0→level≤16∧(∃n':Nat,n=(n':Int)∧n'≤64)∧AllS x)
theorem chk_items (m m':Nat) (self self':Dt→Int→Int→Option (Int×Int)) (L:List Dt) (hl:L.length<1000000000000) (level:Nat) (hlv:level≤16)
  (hs:∀e∈L,ChkT e (self e) (self' e)):∀(M M' i seen:Nat),i≤L.length→L.length-i<M→L.length-i<M'→seen≤64→
  ∃(e n:Int),i32_l9 m self M (level:Int) L (L.length:Int) (i:Int) (seen:Int)=some (e,n)∧i32_l9 m' self' M' (level:Int) L (L.length:Int) (i:Int) (seen:Int)=some (e,n)∧(e=0→(∃n':Nat,n=(n':Int)∧n'≤64)∧∀x∈L.drop i,AllS x)
 |0,_,i,_,_,h,_,_=>by omega
 |_+1,0,i,_,_,_,h,_=>by omega
 |M+    1,M'+1,i,seen,hi,h,h',hn=>by
  simp only[i32_l9,dlt]
  by_cases hlt:i<L.length
  ·obtain⟨e,n,c1,c2,c3⟩:=hs _ (List.getElem_mem hlt) (level+1) seen (by omega) hn
   simp only[hlt,decide_true,cond_true,i32_j6,i32_j5,i32_j11,i32_j10,i32_j12,i32_j8,i32_j7,i32_j3,i32_j2,i32_j1,i32_j0,idx_lt hlt,Option.bind_some,wrapS (show level<9223372036854775807 by omega),c1,c2]
   by_cases he:e=0
   ·    obtain⟨_,⟨n',hn1,hn2⟩,hA⟩:=c3 he
        subst he hn1
        simp only[bne_self_eq_false,cond_false,wrapS (show i<9223372036854775807 by omega)]
        obtain⟨e,n,g1,g2,g3⟩:=chk_items m m' self self' L hl level hlv hs M M' (i+1) n' (by omega) (by omega) (by omega) hn2
        refine⟨e,n,g1,g2,fun h=>⟨(g3 h).1,fun x hx=>?_⟩⟩
        rw[List.drop_eq_getElem_cons hlt] at hx
        rcases List.mem_cons.1 hx with rfl|hx
        ·exact hA
        ·exact(g3 h).2 x hx
   ·    have hb:(e !=0)=true:=by simpa using he
        simp only[hb,cond_true]
        exact⟨e,n,rfl,rfl,fun h=>absurd h he⟩
  ·simp only[hlt,decide_false,cond_false,i32_j6,i32_j5,i32_j11,i32_j10,i32_j12,i32_j8,i32_j7,i32_j3,i32_j2,i32_j1,i32_j0]
   exact⟨0,_,rfl,rfl,fun _=>⟨⟨seen,rfl,hn⟩,fun x hx=>by rw[List.drop_eq_nil_of_le (by omega)] at hx;cases hx⟩⟩
theorem chk_props (m m':Nat) (self self':Dt→Int→Int→Option (Int×Int)) (s:Dt) (L:List Dt) (hl:L.length<1000000000000) (hl2:(Dt.L s 11).length≤m) (hl3:(Dt.L s 11).length≤m') (hm:m<900000000000) (level:Nat) (hlv:level≤16)
  (hp:∀q∈L,ChkT (Dt.fld q 1) (self (Dt.fld q 1)) (self' (Dt.fld q 1))) (hs:∀e∈Dt.L s 11,ChkT e (self e) (self' e)):∀(M M' i seen:Nat),i≤L.length→L.length-i<M→L.length-i<M'→seen≤64→
  ∃(e n:Int),i32_l4 m self M (level:Int) L (L.length:Int) (i:Int) (seen:Int) s=some (e,n)∧i32_l4 m' self' M' (level:Int) L (L.length:Int) (i:Int) (seen:Int) s=some (e,n)∧(e=0→(∃n':Nat,n=(n':Int)∧n'≤64)∧(∀q∈L.drop i,AllS (Dt.fld q 1))∧∀x∈Dt.L s 11,AllS x)
 |0,_,i,_,_,h,_,_=>by omega
 |_+1,0,i,_,_,_,h,_=>by omega
 |M+    1,M'+1,i,seen,hi,h,h',hn=>by
  by_cases hlt:i<L.length
  ·simp only[i32_l4,dlt]
   obtain⟨e,n,c1,c2,c3⟩:=hp _ (List.getElem_mem hlt) (level+1) seen (by omega) hn
   simp only[hlt,decide_true,cond_true,i32_j6,i32_j5,i32_j11,i32_j10,i32_j12,i32_j8,i32_j7,i32_j3,i32_j2,i32_j1,i32_j0,idx_lt hlt,Option.bind_some,wrapS (show level<9223372036854775807 by omega),c1,c2]
   by_cases he:e=0
   ·    obtain⟨_,⟨n',hn1,hn2⟩,hA⟩:=c3 he
        subst he hn1
        simp only[bne_self_eq_false,cond_false,wrapS (show i<9223372036854775807 by omega)]
        obtain⟨e,n,g1,g2,g3⟩:=chk_props m m' self self' s L hl hl2 hl3 hm level hlv hp hs M M' (i+1) n' (by omega) (by omega) (by omega) hn2
        refine⟨e,n,g1,g2,fun h=>⟨(g3 h).1,fun x hx=>?_,(g3 h).2.2⟩⟩
        rw[List.drop_eq_getElem_cons hlt] at hx
        rcases List.mem_cons.1 hx with rfl|hx
        ·exact hA
        ·exact(g3 h).2.1 x hx
   ·    have hb:(e !=0)=true:=by simpa using he
        simp only[hb,cond_true]
        exact⟨e,n,rfl,rfl,fun h=>absurd h he⟩
  ·obtain⟨e,n,g1,g2,g3⟩:=chk_items m m' self self' (Dt.L s 11) (by omega) level hlv hs (m+1) (m'+1) 0 seen (Nat.zero_le _) (by omega) (by omega) hn
   rw[i32_l4,i32_l4]
   simp only[dlt,hlt,decide_false,cond_false,i32_j6,i32_j5,i32_j11,i32_j10,i32_j12,i32_j8,i32_j7,i32_j3,i32_j2,i32_j1,i32_j0]
   rw[List.drop_zero] at g3
   exact⟨e,n,g1,g2,fun h=>⟨(g3 h).1,fun x hx=>(by rw[List.drop_eq_nil_of_le (by omega)] at hx;cases hx),(g3 h).2⟩⟩
theorem chk_tot:∀(N:Nat) (s:Dt),s.bulk≤N→N≤1000000000→WS s→∀m m':Nat,4*N+500≤m→m<800000000000→4*N+500≤m'→ChkT s (i32 (m+10) s) (i32 (m'+10) s)
 |0,s,h,_,_,_,_,_,_,_=>by have:=bulk_posA s;omega
 |N+    1,s,h,hN,hw,m,m',hm,hm2,hm'=>by
  intro level seen hlv hn
  have p1':=checkOne_eq hw (m'-1) (by omega) (by omega)
  rw[show m'-1+10=m'+9 by omega] at p1'
  have p1:=checkOne_eq hw (m-1) (by omega) (by omega)
  rw[show m-1+10=m+9 by omega] at p1
  have l9:=L_len s 9
  have l11:=L_len s 11
  rw[i32,i32]
  by_cases h16:16<level
  ·have d1:decide ((16:Int)<(level:Int))=true:=decide_eq_true (by omega)
   simp only[d1,cond_true,i32_j6,i32_j5,i32_j11,i32_j10,i32_j12,i32_j8,i32_j7,i32_j3,i32_j2,i32_j1,i32_j0]
   exact⟨2,_,rfl,rfl,fun h=>by cases h⟩
  ·have d1  :decide ((16:Int)<(level:Int))=false:=decide_eq_false (by omega)
   by_cases h64:seen=64
   ·    have d2:(((seen:Nat):Int)==64)=true:=by rw[beq_iff_eq];omega
        simp only[d1,d2,cond_true,cond_false,i32_j6,i32_j5,i32_j11,i32_j10,i32_j12,i32_j8,i32_j7,i32_j3,i32_j2,i32_j1,i32_j0]
        exact⟨2,_,rfl,rfl,fun h=>by cases h⟩
   ·    have d2:(((seen:Nat):Int)==64)=false:=by rw[beq_eq_false_iff_ne];omega
        simp only[d1,d2,cond_false,i32_j6,i32_j5,i32_j11,i32_j10,i32_j12,i32_j8,i32_j7,i32_j3,i32_j2,i32_j1,i32_j0,p1,p1',Option.bind_some,wrapS (show seen<9223372036854775807 by omega)]
        by_cases he:sgl s=0
        ·have hb:(sgl s !=0)=false:=by simpa using he
         cases hw with
         |mk h0 h2 h4 h5 h9 h11=>
          have ih:∀x:Dt,WS x→x.bulk≤N→ChkT x (i32 (m+9) x) (i32 (m'+9) x):=fun x hx hbx=>by
            have:=chk_tot N x hbx (by omega) hx (m-1) (m'-1) (by omega) (by omega) (by omega)
            rw[show m-1+10=m+9 by omega,show m'-1+10=m'+9 by omega] at this
            exact this
          obtain⟨e,n,c1,c2,c3⟩:=chk_props (m+9) (m'+9) (i32 (m+9)) (i32 (m'+9)) s (Dt.L s 9) (by omega) (by omega) (by omega) (by omega) level (by omega)
            (fun p hp=>ih _ (h9 p hp) (by have:=L_mem (d:=s) (i:=9) hp;have:=fld_bulk p 1;omega)) (fun x hx=>ih _ (h11 x hx) (by have:=L_mem (d:=s) (i:=11) hx;omega)) (m+10) (m'+10) 0 (seen+1) (Nat.zero_le _) (by omega) (by omega) (by omega)
          simp only[hb,cond_false]
          rw[List.drop_zero] at c3
          exact⟨e,n,c1,c2,fun h=>⟨by omega,(c3 h).1,.mk he (c3 h).2.1 (c3 h).2.2⟩⟩
        ·have hb:(sgl s !=0)=true:=by simpa using he
         simp only[hb,cond_true]
         exact⟨_,_,rfl,rfl,fun h=>absurd h he⟩
theorem valid_tot {s:Dt} (hw:WS s) (hb:s.bulk≤1000000000) (m m':Nat) (hm:5000000000≤m) (hm2:m<700000000000) (hm':5000000000≤m'):∃e,schema_Valid (m+11) s=some e∧schema_Valid (m'+11) s=some e∧(e=0→AllS s):=by
 obtain⟨e,n,c1,c2,c3⟩:=chk_tot s.bulk s (Nat.le_refl _) hb hw m m' (by omega) (by omega) (by omega) 1 0 (by omega) (by omega)
 have c2':i32 (m'+10) s 1 0=some (e,n):=c2
 have c1':i32 (m+10) s 1 0=some (e,n):=c1
 refine⟨e,by rw[schema_Valid,c1'];rfl,by rw[schema_Valid,c2'];rfl,fun he=>?_⟩
 exact(c3 he).2.2
end Go.Proofs.YtfneddmmeadacaaGreatDoor
namespace Go.Proofs.YtfneddmmeadacaaGreatDoor
open Go.Am
theorem ln_one {c:Bool} {x y:Dt} {n:Nat} (h:(Dt.L y 0).length≤n) (hx:x∈(bif c then[y] else[])):(Dt.L x 0).length≤n:=by
 cases c
 ·cases hx
 ·cases hx with
  |head=>exact h
  |tail _ hx=>cases hx
theorem ln_vio (p st:List Dt) (r:Int):(Dt.L (vio p st r) 0).length=p.length+st.length:=by
 show (p++st).length=_
 rw[List.length_append]
theorem ln_hd {s v:Dt} {p:List Dt} {x:Dt} (hx:x∈hd5 s v p):(Dt.L x 0).length≤p.length:=by
 unfold hd5 at hx
 have e:∀r,(Dt.L (vio p [] r) 0).length≤p.length:=fun r=>by rw[ln_vio];simp
 rcases List.mem_append.1 hx with hx|hx
 ·exact ln_one (e _) hx
 rcases List.mem_append.1 hx with hx|hx
 ·exact ln_one (e _) hx
 rcases List.mem_append.1 hx with hx|hx
 ·exact ln_one (e _) hx
 rcases List.mem_append.1 hx with hx|hx
 ·exact ln_one (e _) hx
 ·exact ln_one (e _) hx
theorem ln_req {v:Dt} {p:List Dt} {x:Dt}:∀{L:List Dt},x∈reqs v p L→(Dt.L x 0).length≤p.length+1
 | [],hx=>by cases hx
 |n::r,hx=>by
  rw[reqs] at hx
  rcases List.mem_append.1 hx with hx|hx
  ·exact ln_one (by rw[ln_vio];simp) hx
  ·exact ln_req hx
theorem ln_clo {s:Dt} {p:List Dt} {x:Dt}:∀{L:List Dt},x∈clos s p L→(Dt.L x 0).length≤p.length+1
 | [],hx=>by cases hx
 |n::r,hx=>by
  rw[clos] at hx
  rcases List.mem_append.1 hx with hx|hx
  ·exact ln_one (by rw[ln_vio];simp) hx
  ·exact ln_clo hx
theorem ln_vl:∀(N:Nat) (s v:Dt) (p:List Dt),∀x∈vl N s v p,(Dt.L x 0).length≤p.length+N+1
 |0,_,_,_,x,hx=>by cases hx
 |N+    1,s, v,p,x,hx=>by
  rw[vl] at hx
  rcases List.mem_append.1 hx with hx|hx
  ·have:=ln_hd hx;omega
  cases h5:(Dt.I v 0==5)
  ·rw[   h5, cond_false] at hx
   cases h6:(Dt.I v 0==6)
   ·rw[h6,cond_false] at hx;cases hx
   ·    rw[h6,cond_true] at hx
        rcases List.mem_append.1 hx with hx|hx
        ·unfold unis at hx
         exact ln_one (by rw[ln_vio];simp;omega) hx
        ·generalize Dt.L s 11=L at hx
         induction L with
         |nil=>cases hx
         | cons c r ih=>
           rw[itms] at hx
           rcases List.mem_append.1 hx with hx|hx
           · have key:∀(L':List Dt) (i:Nat),x∈elms (vl N) c p i L'→(Dt.L x 0).length≤p.length+(N+1)+1:=by
              intro L'
              induction L' with
              |nil=>intro i hx;cases hx
              |cons e r ih2=>
               intro i hx
               rw[elms] at hx
               rcases List.mem_append.1 hx with hx|hx
               · have:=ln_vl N _ _ _ x hx
                 rw[List.length_append,List.length_cons,List.length_nil] at this
                 omega
               ·exact ih2 (i+1) hx
             exact key _ 0 hx
           ·exact ih hx
  ·rw[   h5, cond_true] at hx
   rcases List.mem_append.1 hx with hx|hx
   ·have:=ln_req hx;omega
   rcases List.mem_append.1 hx with hx|hx
   ·have:=ln_clo hx;omega
   ·    generalize Dt.L s 9=L at hx
        induction L with
        |nil=>cases hx
        |cons q r ih=>
         rw[prps] at hx
         rcases List.mem_append.1 hx with hx|hx
         · cases hf:fnd (Dt.S q 0) (Dt.L v 4) with
           |none=>rw[hf] at hx;cases hx
           | some y=>
             rw[hf] at hx
             have:=ln_vl N _ _ _ x hx
             rw[List.length_append,List.length_cons,List.length_nil] at this
             omega
         ·exact ih hx
def HR (self:Dt→Dt→List Dt→Option (List Dt)) (w:Dt→Dt→List Dt→List Dt) (c:Dt):Prop:=
 ∀(x:Dt) (p:List Dt),WV x→x.bulk≤1048576→p.length+c.bulk≤10000000→c.bulk*x.bulk≤412316860416→self c x p=some (w c x p)
variable {self:Dt→Dt→List Dt→Option (List Dt)} {w:Dt→Dt→List Dt→List Dt} {s v:Dt} {p:List Dt}
theorem r_props (m:Nat) (h5:Dt.I v 0=5) (hm:v.bulk+10≤m) (hm2:m<900000000000) (hw:WV v) (hv:v.bulk≤1048576) (hp:p.length+Dt.bulkL (Dt.L s 9)<10000000) (hmul:Dt.bulkL (Dt.L s 9)*v.bulk≤412316860416) (hs:∀q∈Dt.L s 9,HR self w (Dt.fld q 1)):∀(M i:Nat),i≤(Dt.L s 9).length→(Dt.L s 9).length-i<M→∀l:List Dt,(l++prps w v p ((Dt.L s 9).drop i)).length≤137438953472→
  ref14_violations_l1 (m+2) self M p (i:Int) s v l=ref14_violations_j4 (m+2) self p s v (l++prps w v p ((Dt.L s 9).drop i))
 |0,i,_,h=>by omega
 |M+    1,i,hi,h=>by
  intro l hl
  have hn:=len_bulkA (Dt.L s 9)
  obtain⟨_,_,_,p4⟩:=wv_parts hw
  simp only[ref14_violations_l1,dlt]
  by_cases hlt:i<(Dt.L s 9).length
  ·rw[dropC hlt,prps] at hl ⊢
   have hq:=bulk_memA (List.getElem_mem hlt)
   have hc:=fld_bulk (Dt.L s 9)[i] 1
   have hg:ref01_Get (m+2) v (Dt.S (Dt.L s 9)[i] 0)=some (fndP (Dt.S (Dt.L s 9)[i] 0) (Dt.L v 4)):=get_doc m v _ h5 (by omega) (by omega)
   have hst:ref14_step (m+2) p (Dt.S (Dt.L s 9)[i] 0)=_:=step_eq (m+1) p _ (by omega)
   simp only[hlt,decide_true,cond_true,ref14_violations_j2,ref14_violations_j3,idx_lt hlt,Option.bind_some,hg,hst,wrapS (show i<9223372036854775807 by omega)]
   cases hf:fnd (Dt.S (Dt.L s 9)[i] 0) (Dt.L v 4) with
   |    some y=>
        rw[hf] at hl
        dsimp only at hl ⊢
        rw[fndP_some hf]
        obtain⟨f,hfm,rfl⟩:=fnd_mem hf
        have hx:=p4 f hfm
        have hm1:(Dt.fld (Dt.L s 9)[i] 1).bulk*(Dt.fld f 1).bulk≤Dt.bulkL (Dt.L s 9)*v.bulk:=Nat.mul_le_mul (by omega) (by omega)
        have k1:=hs _ (List.getElem_mem hlt) (Dt.fld f 1) (p++[Dt.str (Dt.S (Dt.L s 9)[i] 0)]) hx.1 (by omega) (by simp;omega) (by omega)
        simp only[cond_true,k1,Option.bind_some]
        simp only[List.length_append] at hl
        rw[app_le (by omega)]
        simp only[Option.bind_some]
        rw[r_props m h5 hm hm2 hw hv hp hmul hs M (i+1) (by omega) (by omega) _ (by simp only[List.length_append];omega),List.append_assoc]
   |    none=>
        rw[hf] at hl
        dsimp only at hl ⊢
        rw[fndP_none hf]
        simp only[cond_false,List.nil_append] at hl ⊢
        exact r_props m h5 hm hm2 hw hv hp hmul hs M (i+1) (by omega) (by omega) l hl
  ·rw[dropN hlt]
   simp only[hlt,decide_false,cond_false,prps,List.append_nil]
theorem r_noprops (m:Nat) (h5:Dt.I v 0≠5) (hl:(Dt.L s 9).length<1000000000000) (l:List Dt):∀(M i:Nat),i≤(Dt.L s 9).length→(Dt.L s 9).length-i<M→
  ref14_violations_l1 (m+2) self M p (i:Int) s v l=ref14_violations_j4 (m+2) self p s v l
 |0,i,_,h=>by omega
 |M+1,i,hi,h=>by
  simp only[ref14_violations_l1,dlt]
  by_cases hlt:i<(Dt.L s 9).length
  ·have hg:=get_no m v (Dt.S (Dt.L s 9)[i] 0) h5
   simp only[hlt,decide_true,cond_true,ref14_violations_j2,ref14_violations_j3,idx_lt hlt,Option.bind_some,hg,cond_false,wrapS (show i<9223372036854775807 by omega)]
   exact r_noprops m h5 hl l M (i+1) (by omega) (by omega)
  ·simp only[hlt,decide_false,cond_false]
theorem r_elems (m:Nat) (hm:40≤m) (hm2:m<900000000000) (hw:WV v) (hv:v.bulk≤1048576) (c:Dt) (h1:Dt.L s 11=[c]) (hp:p.length+1+c.bulk≤10000000) (hmul:c.bulk*v.bulk≤412316860416) (hs:HR self w c):∀(M i:Nat),i≤(Dt.L v 3).length→(Dt.L v 3).length-i<M→∀l:List Dt,(l++elms w c p i ((Dt.L v 3).drop i)).length≤137438953472→
  ref14_violations_l7 (m+2) self M p (i:Int) s v l=some (l++elms w c p i ((Dt.L v 3).drop i))
 |0,i,_,h=>by omega
 |M+1,i,hi,h=>by
  intro l hl
  obtain⟨_,_,p3,_⟩:=wv_parts hw
  have hn:=L_len v 3
  simp only[ref14_violations_l7,dlt]
  by_cases hlt:i<(Dt.L v 3).length
  ·rw[dropC hlt,elms] at hl ⊢
   have hx:=p3 _ (List.getElem_mem hlt)
   have hi0:idx (Dt.L s 11) 0=some c:=by rw[h1];rfl
   have hd:ref05_Decimal (m+2) (i:Int)=some (strI i):=decimal_eq m i (by omega) (by omega)
   have hst:ref14_step (m+2) p (strI i)=_:=step_eq (m+1) p _ (by omega)
   have hm1:c.bulk*(Dt.L v 3)[i].bulk≤c.bulk*v.bulk:=Nat.mul_le_mul (Nat.le_refl _) (by omega)
   have k1:=hs (Dt.L v 3)[i] (p++[Dt.str (strI i)]) hx.1 (by omega) (by simp;omega) (by omega)
   rw[itoaB_eq i (by omega)] at hl ⊢
   simp only[List.length_append] at hl
   simp only[hlt,decide_true,cond_true,ref14_violations_j8,ref14_violations_j9,hi0,idx_lt hlt,Option.bind_some,hd,hst,k1,wrapS (show i<9223372036854775807 by omega)]
   rw[app_le (by omega)]
   simp only[Option.bind_some]
   rw[r_elems m hm hm2 hw hv c h1 hp hmul hs M (i+1) (by omega) (by omega) _ (by simp only[List.length_append];omega),List.append_assoc]
  ·rw[dropN hlt]
   simp only[hlt,decide_false,cond_false,ref14_violations_j10,elms,List.append_nil]
theorem rv_eq:∀(N:Nat) (s:Dt),s.bulk≤N→N≤1048576→BS s→AllS s→∀m,3010000000+N≤m→m<700000000000→HR (ref14_violations (m+7)) (vl N) s
 |0,s,h,_,_,_,_,_,_=>by have:=bulk_posA s;omega
 |N+    1,s, h,hN,hb,ha,m,hm,hm2=>by
  intro x p hx hbx hp hmul
  have hlen:=(vl_eq (N+1) s h hN hb 3020000000 (by omega) (by omega) x p [] hx hbx hp (by simpa using hmul)).2
  cases hb with
  |mk hb  h9 h11=>
   cases ha with
   |    mk hsg a9 a11=>
        have ih:∀c:Dt,BS c→AllS c→c.bulk≤N→HR (ref14_violations (m+6)) (vl N) c:=fun c hc hac hbc=>by
         have:=rv_eq N c hbc (by omega) hc hac (m-1) (by omega) (by omega)
         rw[show m-1+7=m+6 by omega] at this
         exact this
        have l9:=L_len s 9
        have b9:=L_bulk s 9
        have w6:=wv6 hx
        have hown:ref14_own (m+6) s x p=_:=r_own m (by omega) (by omega) (by omega) (by omega) hsg
        have h11l:=(sgl_parts hsg).2.2.2
        have hmul2:(14+Dt.bulkL (Dt.L s 8)+Dt.bulkL (Dt.L s 9)+Dt.bulkL (Dt.L s 11))*x.bulk≤s.bulk*x.bulk:=Nat.mul_le_mul hb (Nat.le_refl _)
        rw[Nat.add_mul,Nat.add_mul,Nat.add_mul] at hmul2
        rw[ref14_violations]
        simp only[hown,Option.bind_some,ref14_violations_j0]
        have hrfl:vl (N+1) s x p=hd5 s x p++(bif Dt.I x 0==5 then reqs x p (Dt.L s 8)++(clos s p (Dt.L x 4)++prps (vl N) x p (Dt.L s 9)) else bif Dt.I x 0==6 then unis s x p++itms (vl N) x p (Dt.L s 11) else[]):=rfl
        by_cases h5:Dt.I x 0=5
        ·have y5:(Dt.I x 0==5)=true:=by rw[h5];rfl
         have n6:(Dt.I x 0==6)=false:=by rw[h5];rfl
         have eo:owt s x p=reqs x p (Dt.L s 8)++clos s p (Dt.L x 4):=by unfold owt;rw[y5];rfl
         rw[hrfl,y5,cond_true] at hlen ⊢
         rw[eo]
         have b1:=r_props (self:=ref14_violations (m+6)) (w:=vl N) (s:=s) (p:=p) (m+4) h5 (by omega) (by omega) hx hbx (by omega) (by omega) (fun q hq=>ih _ (h9 q hq) (a9 q hq) (by have:=L_mem (d:=s) (i:=9) hq;have:=fld_bulk q 1;omega)) (m+7) 0 (Nat.zero_le _) (by omega) (hd5 s x p++(reqs x p (Dt.L s 8)++clos s p (Dt.L x 4))) (by rw[List.drop_zero];simp only[List.length_append] at hlen ⊢;omega)
         rw[List.drop_zero] at b1
         refine b1.trans ?_
         have j10:∀l:List Dt,ref14_violations_j10 (m+4+2) (ref14_violations (m+6)) l=some l:=fun l=>by simp only[ref14_violations_j10]
         simp only[ref14_violations_j4,ref14_violations_j5,n6,cond_false,j10,List.append_assoc]
         cases (((Dt.L s 11).length:Int)==1)<;>rfl
        ·have y5:(Dt.I x 0==5)=false:=by rw[beq_eq_false_iff_ne];exact h5
         have j10:∀l:List Dt,ref14_violations_j10 (m+4+2) (ref14_violations (m+6)) l=some l:=fun l=>by simp only[ref14_violations_j10]
         have b1:=r_noprops (self:=ref14_violations (m+6)) (s:=s) (v:=x) (p:=p) (m+4) h5 (by omega) (hd5 s x p++owt s x p) (m+7) 0 (Nat.zero_le _) (by omega)
         refine b1.trans ?_
         rw[hrfl,y5,cond_false] at hlen ⊢
         cases h6:(Dt.I x 0==6)
         ·have eo:owt s x p=[]:=by unfold owt;rw[y5,h6];rfl
          simp only[ref14_violations_j4,ref14_violations_j5,h6,cond_false,j10,eo,List.append_nil]
          cases (((Dt.L s 11).length:Int)==1)<;>rfl
         ·have eo:owt s x p=unis s x p:=by unfold owt;rw[y5,h6];rfl
          rw[h6,cond_true] at hlen
          rw[eo]
          simp only[ref14_violations_j4,h6,cond_true]
          match hL:Dt.L s 11,h11l with
          |  [],_=>
             have e1:((([]:List Dt).length:Int)==1)=false:=rfl
             simp only[e1,cond_false,ref14_violations_j5,j10,itms,List.append_nil]
          |  [c],_=>
             have e1:((([c]:List Dt).length:Int)==1)=true:=rfl
             rw[hL] at hlen hmul2
             have hcm:c∈Dt.L s 11:=by rw[hL];exact List.mem_cons_self ..
             have hcb:=L_mem (d:=s) (i:=11) hcm
             have l3:=L_len x 3
             have hcb2:Dt.bulkL [c]=c.bulk:=rfl
             rw[hcb2] at hmul2
             simp only[itms,List.append_nil] at hlen ⊢
             have b2:=r_elems (self:=ref14_violations (m+6)) (w:=vl N) (s:=s) (v:=x) (p:=p) (m+4) (by omega) (by omega) hx hbx c hL (by omega) (by omega) (ih _ (h11 c hcm) (a11 c hcm) (by omega)) (m+7) 0 (Nat.zero_le _) (by omega) (hd5 s x p++unis s x p) (by rw[List.drop_zero];simp only[List.length_append] at hlen ⊢;omega)
             rw[List.drop_zero] at b2
             simp only[e1,cond_true,ref14_violations_j5,ref14_violations_j6]
             refine b2.trans ?_
             rw[List.append_assoc]
          |_::_::_,h=>simp at h
end Go.Proofs.YtfneddmmeadacaaGreatDoor
namespace Go.Proofs.YtfneddmmeadacaaGreatDoor
open Go.Am
theorem check_both {s v:Dt} (hs:WS s) (hb:BS s) (hw:WV v) (hbk:s.bulk+v.bulk≤1048576) (m:Nat) (hm:10000000000≤m) (hm2:m<600000000000):∃L,schema_Check (m+20) s v=some L∧ref14_Check (m+20) s v=some L∧3*L.length≤412316860416∧∀x∈L,(Dt.L x 0).length≤1048577:=by
 obtain⟨e,h1,h2⟩:=sValid_sim hs (by omega) (m+8) (m+8) (by omega) (by omega) (by omega)
 obtain⟨e',h3,_,h4⟩:=valid_tot hs (by omega) (m+8) (m+8) (by omega) (by omega) (by omega)
 have h1':schema_Valid (m+19) s=some e:=h1
 have h2':ref14_Valid (m+19) s=some e:=h2
 have h3':schema_Valid (m+19) s=some e':=h3
 have he:e=e':=Option.some.inj (h1'.symm.trans h3')
 rw[show m+20=m+19+1 from rfl,schema_Check,ref14_Check]
 simp only[h1',h2',Option.bind_some]
 by_cases hq0:e=0
 ·obtain⟨k1,k2⟩:=vl_root hb hw hbk (m+12) (by omega) (by omega)
  have hp:=prod_le hbk
  have k3:=rv_eq s.bulk s (Nat.le_refl _) (by omega) hb (h4 (he▸hq0)) (m+12) (by omega) (by omega) v [] hw (by omega) (by simp;omega) hp
  have k1':i12 (m+19) s v [] []=some (vl s.bulk s v []):=k1
  have k3':ref14_violations (m+19) s v []=some (vl s.bulk s v []):=k3
  subst hq0
  simp only[bne_self_eq_false,cond_false,schema_Check_j0,ref14_Check_j0,k1',k3',Option.bind_some]
  refine⟨_,rfl,rfl,k2,fun x hx=>?_⟩
  have:=ln_vl _ _ _ _ x hx
  rw[List.length_nil] at this
  omega
 ·have hne:(e !=0)=true:=by simpa using hq0
  simp only[hne,cond_true]
  exact⟨[],rfl,rfl,by simp,fun x hx=>by cases hx⟩
theorem few_ok {s v:Dt} (hw:WV v) (hbk:s.bulk+v.bulk≤1048576) (m:Nat) (hm:10000000000≤m):∃b,law14_few (m+10) s v=some b:=by
 obtain⟨c,hc⟩:=sc_tot s.bulk s (Nat.le_refl _) (by omega) (m+8) (by omega) 81
 obtain⟨f,hf⟩:=few_tot hw (by omega) (m+7) (by omega) 300
 have hc':ref14_Count (m+9) s 81=some c:=hc
 have hf':ref02_Few (m+9) v 300=some f:=hf
 rw[show m+10=m+9+1 from rfl,law14_few]
 simp only[hc',hf',Option.bind_some]
 cases decide (c≤80)<;>exact⟨_,rfl⟩
end Go.Proofs.YtfneddmmeadacaaGreatDoor
