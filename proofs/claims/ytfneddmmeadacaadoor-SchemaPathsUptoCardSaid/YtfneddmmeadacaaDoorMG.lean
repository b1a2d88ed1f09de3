/- The walk that starts without a path is the walk at the empty path.
Valid of the program:it ends,and a valid schema is right in all its parts.
Decimal numerals:their first digit;reading them.
A field of a document,by the reference.
The path of each violation leads to a value,but those of missing fields. -/
import Derived.Test.YtfneddmmeadacaaDoorMF
import Derived.Test.YtfneddmmeadacaaDoorMD
import Derived.Test.YtfneddmmeadacaaDoorMC
import Derived.Test.YtfneddmmeadacaaDoorMA
set_option linter.unusedVariables false
set_option linter.unusedSimpArgs false
namespace Go.Proofs.YtfneddmmeadacaaDoor
open Go.Am
theorem mapB {A B C:Type} {x:Option A} {f:A→Option B} {g:B→C}:(x.bind f).map g=x.bind fun a=>(f a).map g:=by cases x<;>rfl
theorem mapC {A B:Type} {b:Bool} {x y:Option A} {g:A→B}:(bif b then x else y).map g=bif b then x.map g else y.map g:=by cases b<;>rfl
theorem e_l5 (m:Nat) (x0:List Dt) (rec1:List Dt→Int→Int→List Dt→List Dt→Dt→List Dt→Option (List Dt×List Dt)) (rec2:List Dt→Int→Int→List Dt→Dt→List Dt→Option (List Dt))
  (hrec:∀X a b l v p,rec1 X a b x0 l v p=(rec2 X a b l v p).map fun r=>(x0,r)):∀(M:Nat) (X:List Dt) (a b:Int) (L:List Dt) (n i:Int) (l:List Dt) (v:Dt) (p:List Dt) (c:Dt),i9_l24 m rec1 M X a b L n i x0 l v p c=(i24_l24 m (i24 m) rec2 M X a b L n i l v p c).map fun r=>(x0,r)
 |0,_,_,_,_,_,_,_,_,_,_=>rfl
 |M+1,X,a,b,L,n,i,l,v,p,c=>by
  simp only[i9_l24,i24_l24,i9_j25,i24_j25,i9_j26,i24_j26,i9_j27,i24_j27,mapB,mapC,hrec,e_l5 m x0 rec1 rec2 hrec M]
theorem e_l4 (m:Nat) (x0:List Dt):∀(M:Nat) (X:List Dt) (a b:Int) (l:List Dt) (v:Dt) (p:List Dt),i9_l21 m M X a b x0 l v p=(i24_l21 m (i24 m) M X a b l v p).map fun r=>(x0,r)
 |0,_,_,_,_,_,_=>rfl
 |M+1,X,a,b,l,v,p=>by
  simp only[i9_l21,i24_l21,i9_j22,i24_j22,i9_j23,i24_j23,i9_j28,i24_j28,mapB,mapC,e_l5 m x0 _ _ (e_l4 m x0 M),Option.map_some]
theorem e_j18 (m:Nat) (x0 l:List Dt) (s v:Dt) (p:List Dt):i9_j18 m x0 l s v p=(i24_j18 m (i24 m) l s v p).map fun r=>(x0,r):=by
 simp only[i9_j18,i24_j18,i9_j19,i24_j19,i9_j20,i24_j20,i9_j28,i24_j28,mapB,mapC,e_l4,Option.map_some]
theorem e_l3 (m:Nat) (x0:List Dt):∀(M:Nat) (X:List Dt) (a b:Int) (l:List Dt) (s v:Dt) (p:List Dt),i9_l15 m M X a b x0 l s v p=(i24_l15 m (i24 m) M X a b l s v p).map fun r=>(x0,r)
 |0,_,_,_,_,_,_,_=>rfl
 |M+1,X,a,b,l,s,v,p=>by
  simp only[i9_l15,i24_l15,i9_j16,i24_j16,i9_j17,i24_j17,mapB,mapC,e_l3 m x0 M,e_j18]
theorem e_l2 (m:Nat) (x0:List Dt):∀(M:Nat) (X:List Dt) (a b:Int) (l:List Dt) (s v:Dt) (p:List Dt),i9_l10 m M X a b x0 l s v p=(i24_l10 m (i24 m) M X a b l s v p).map fun r=>(x0,r)
 |0,_,_,_,_,_,_,_=>rfl
 |M+1,X,a,b,l,s,v,p=>by
  simp only[i9_l10,i24_l10,i9_j11,i24_j11,i9_j12,i24_j12,i9_j13,i24_j13,i9_j14,i24_j14,mapB,mapC,e_l2 m x0 M,e_l3]
theorem e_l1 (m:Nat) (x0:List Dt):∀(M:Nat) (X:List Dt) (a b:Int) (l:List Dt) (s v:Dt) (p:List Dt),i9_l5 m M X a b x0 l s v p=(i24_l5 m (i24 m) M X a b l s v p).map fun r=>(x0,r)
 |0,_,_,_,_,_,_,_=>rfl
 |M+1,X,a,b,l,s,v,p=>by
  simp only[i9_l5,i24_l5,i9_j6,i24_j6,i9_j7,i24_j7,i9_j8,i24_j8,i9_j9,i24_j9,mapB,mapC,e_l1 m x0 M,e_l2]
theorem e_j3 (m:Nat) (x0 l:List Dt) (s v:Dt) (p:List Dt):i9_j3 m x0 l s v p=(i24_j3 m (i24 m) l s v p).map fun r=>(x0,r):=by
 simp only[i9_j3,i24_j3,i9_j4,i24_j4,mapB,mapC,e_l1,e_j18]
theorem e_j0 (m:Nat) (x0 l:List Dt) (s v:Dt) (p:List Dt):i9_j0 m x0 l s v p=(i24_j0 m (i24 m) l s v p).map fun r=>(x0,r):=by
 simp only[i9_j0,i24_j0,i9_j1,i24_j1,i9_j2,i24_j2,mapB,mapC,e_j3]
theorem e_top (m:Nat) (s v:Dt) (p l:List Dt):i9 (m+1) s v l p=(i24 (m+1) s v p l).map fun r=>(p,r):=by
 have ea:∀(b:Bool) (r:Int) (st:List Dt),i11 m b r st l p=(i17 m b r st l p).map fun r=>(r.1,p,r.2):=fun b r st=>by
  cases m with
  |zero=>rfl
  |succ m=>cases b<;>simp only[i11,i17,cond_true,cond_false,mapB,Option.map_some]
 have eb:∀{A B C:Type} (x:Option A) (f:A→B) (g:B→Option C),(x.map f).bind g=x.bind fun a=>g (f a):=fun x f g=>by cases x<;>rfl
 rw[i9,i24]
 simp only[ea,eb,mapB,mapC,e_j0]
theorem check_own {s v:Dt} (m:Nat) (h0:schema_Valid (m+1) s=some 0) {r:List Dt} (hr:i24 (m+1) s v [] []=some r):schema_Check (m+2) s v=some r:=by
 simp only[schema_Check,h0,Option.bind_some,bne_self_eq_false,cond_false,schema_Check_j0,e_top,hr,Option.map_some]
end Go.Proofs.YtfneddmmeadacaaDoor
namespace Go.Proofs.YtfneddmmeadacaaDoor
open Go.Am
inductive AllS:Dt→Prop where
 |mk {s:Dt} (h:sgl s=0) (h9:∀p∈Dt.L s 9,AllS (Dt.fld p 1)) (h11:∀e∈Dt.L s 11,AllS e):AllS s
def ChkT (x:Dt) (p p':Int→Int→Option (Int×Int)):Prop:=
 ∀level seen:Nat,level≤17→seen≤64→∃(e n:Int),p (level:Int) (seen:Int)=some (e,n)∧p' (level:Int) (seen:Int)=some (e,n)∧(e=0→level≤16∧(∃n':Nat,n=(n':Int)∧n'≤64)∧AllS x)
theorem chk_items (m m':Nat) (self self':Dt→Int→Int→Option (Int×Int)) (L:List Dt) (hl:L.length<1000000000000) (level:Nat) (hlv:level≤16)
  (hs:∀e∈L,ChkT e (self e) (self' e)):∀(M M' i seen:Nat),i≤L.length→L.length-i<M→L.length-i<M'→seen≤64→
  ∃(e n:Int),i29_l9 m self M (level:Int) L (L.length:Int) (i:Int) (seen:Int)=some (e,n)∧i29_l9 m' self' M' (level:Int) L (L.length:Int) (i:Int) (seen:Int)=some (e,n)∧(e=0→(∃n':Nat,n=(n':Int)∧n'≤64)∧∀x∈L.drop i,AllS x)
 |0,_,i,_,_,h,_,_=>by omega
 |_+1,0,i,_,_,_,h,_=>by omega
 |M+    1,M'+1,i,seen,hi,h,h',hn=>by
  simp only[i29_l9,dlt]
  by_cases hlt:i<L.length
  ·obtain⟨e,n,c1,c2,c3⟩:=hs _ (List.getElem_mem hlt) (level+1) seen (by omega) hn
   simp only[hlt,decide_true,cond_true,i29_j6,i29_j5,i29_j11,i29_j10,i29_j12,i29_j8,i29_j7,i29_j3,i29_j2,i29_j1,i29_j0,idx_lt hlt,Option.bind_some,wrapS (show level<9223372036854775807 by omega),c1,c2]
   by_cases he:e=0
   ·    obtain⟨_,⟨n',hn1,hn2⟩,hA⟩:=c3 he
        subst he hn1
        simp only[bne_self_eq_false,cond_false,wrapS (show i<9223372036854775807 by omega)]
        obtain⟨e,n,g1,g2,g3⟩:=chk_items m m' self self' L hl level hlv hs M M' (i+1) n' (by omega) (by omega) (by omega) hn2
        refine⟨e,n,g1,g2,fun h=>⟨(g3 h).1,fun x hx=>?_⟩⟩
        rw[List.drop_eq_getElem_cons hlt] at hx
        rcases List.mem_cons.1 hx with rfl|hx
        ·exact hA
        ·exact(g3 h).2 x hx
   ·    have hb:(e !=0)=true:=by simpa using he
        simp only[hb,cond_true]
        exact⟨e,n,rfl,rfl,fun h=>absurd h he⟩
  ·simp only[hlt,decide_false,cond_false,i29_j6,i29_j5,i29_j11,i29_j10,i29_j12,i29_j8,i29_j7,i29_j3,i29_j2,i29_j1,i29_j0]
   exact⟨0,_,rfl,rfl,fun _=>⟨⟨seen,rfl,hn⟩,fun x hx=>by rw[List.drop_eq_nil_of_le (by omega)] at hx;cases hx⟩⟩
theorem chk_props (m m':Nat) (self self':Dt→Int→Int→Option (Int×Int)) (s:Dt) (L:List Dt) (hl:L.length<1000000000000) (hl2:(Dt.L s 11).length≤m) (hl3:(Dt.L s 11).length≤m') (hm:m<900000000000) (level:Nat) (hlv:level≤16)
  (hp:∀q∈L,ChkT (Dt.fld q 1) (self (Dt.fld q 1)) (self' (Dt.fld q 1))) (hs:∀e∈Dt.L s 11,ChkT e (self e) (self' e)):∀(M M' i seen:Nat),i≤L.length→L.length-i<M→L.length-i<M'→seen≤64→
  ∃(e n:Int),i29_l4 m self M (level:Int) L (L.length:Int) (i:Int) (seen:Int) s=some (e,n)∧i29_l4 m' self' M' (level:Int) L (L.length:Int) (i:Int) (seen:Int) s=some (e,n)∧(e=0→(∃n':Nat,n=(n':Int)∧n'≤64)∧(∀q∈L.drop i,AllS (Dt.fld q 1))∧∀x∈Dt.L s 11,AllS x)
 |0,_,i,_,_,h,_,_=>by omega
 |_+1,0,i,_,_,_,h,_=>by omega
 |M+    1,M'+1,i,seen,hi,h,h',hn=>by
  by_cases hlt:i<L.length
  ·simp only[i29_l4,dlt]
   obtain⟨e,n,c1,c2,c3⟩:=hp _ (List.getElem_mem hlt) (level+1) seen (by omega) hn
   simp only[hlt,decide_true,cond_true,i29_j6,i29_j5,i29_j11,i29_j10,i29_j12,i29_j8,i29_j7,i29_j3,i29_j2,i29_j1,i29_j0,idx_lt hlt,Option.bind_some,wrapS (show level<9223372036854775807 by omega),c1,c2]
   by_cases he:e=0
   ·    obtain⟨_,⟨n',hn1,hn2⟩,hA⟩:=c3 he
        subst he hn1
        simp only[bne_self_eq_false,cond_false,wrapS (show i<9223372036854775807 by omega)]
        obtain⟨e,n,g1,g2,g3⟩:=chk_props m m' self self' s L hl hl2 hl3 hm level hlv hp hs M M' (i+1) n' (by omega) (by omega) (by omega) hn2
        refine⟨e,n,g1,g2,fun h=>⟨(g3 h).1,fun x hx=>?_,(g3 h).2.2⟩⟩
        rw[List.drop_eq_getElem_cons hlt] at hx
        rcases List.mem_cons.1 hx with rfl|hx
        ·exact hA
        ·exact(g3 h).2.1 x hx
   ·    have hb:(e !=0)=true:=by simpa using he
        simp only[hb,cond_true]
        exact⟨e,n,rfl,rfl,fun h=>absurd h he⟩
  ·obtain⟨e,n,g1,g2,g3⟩:=chk_items m m' self self' (Dt.L s 11) (by omega) level hlv hs (m+1) (m'+1) 0 seen (Nat.zero_le _) (by omega) (by omega) hn
   rw[i29_l4,i29_l4]
   simp only[dlt,hlt,decide_false,cond_false,i29_j6,i29_j5,i29_j11,i29_j10,i29_j12,i29_j8,i29_j7,i29_j3,i29_j2,i29_j1,i29_j0]
   rw[List.drop_zero] at g3
   exact⟨e,n,g1,g2,fun h=>⟨(g3 h).1,fun x hx=>(by rw[List.drop_eq_nil_of_le (by omega)] at hx;cases hx),(g3 h).2⟩⟩
theorem chk_tot:∀(N:Nat) (s:Dt),s.bulk≤N→N≤1000000000→WS s→∀m m':Nat,4*N+500≤m→m<800000000000→4*N+500≤m'→ChkT s (i29 (m+10) s) (i29 (m'+10) s)
 |0,s,h,_,_,_,_,_,_,_=>by have:=bulk_posA s;omega
 |N+    1,s,h,hN,hw,m,m',hm,hm2,hm'=>by
  intro level seen hlv hn
  have p1':=checkOne_eq hw (m'-1) (by omega) (by omega)
  rw[show m'-1+10=m'+9 by omega] at p1'
  have p1:=checkOne_eq hw (m-1) (by omega) (by omega)
  rw[show m-1+10=m+9 by omega] at p1
  have l9:=L_len s 9
  have l11:=L_len s 11
  rw[i29,i29]
  by_cases h16:16<level
  ·have d1:decide ((16:Int)<(level:Int))=true:=decide_eq_true (by omega)
   simp only[d1,cond_true,i29_j6,i29_j5,i29_j11,i29_j10,i29_j12,i29_j8,i29_j7,i29_j3,i29_j2,i29_j1,i29_j0]
   exact⟨2,_,rfl,rfl,fun h=>by cases h⟩
  ·have d1  :decide ((16:Int)<(level:Int))=false:=decide_eq_false (by omega)
   by_cases h64:seen=64
   ·    have d2:(((seen:Nat):Int)==64)=true:=by rw[beq_iff_eq];omega
        simp only[d1,d2,cond_true,cond_false,i29_j6,i29_j5,i29_j11,i29_j10,i29_j12,i29_j8,i29_j7,i29_j3,i29_j2,i29_j1,i29_j0]
        exact⟨2,_,rfl,rfl,fun h=>by cases h⟩
   ·    have d2:(((seen:Nat):Int)==64)=false:=by rw[beq_eq_false_iff_ne];omega
        simp only[d1,d2,cond_false,i29_j6,i29_j5,i29_j11,i29_j10,i29_j12,i29_j8,i29_j7,i29_j3,i29_j2,i29_j1,i29_j0,p1,p1',Option.bind_some,wrapS (show seen<9223372036854775807 by omega)]
        by_cases he:sgl s=0
        ·have hb:(sgl s !=0)=false:=by simpa using he
         cases hw with
         |mk h0 h2 h4 h5 h9 h11=>
          have ih:∀x:Dt,WS x→x.bulk≤N→ChkT x (i29 (m+9) x) (i29 (m'+9) x):=fun x hx hbx=>by
            have:=chk_tot N x hbx (by omega) hx (m-1) (m'-1) (by omega) (by omega) (by omega)
            rw[show m-1+10=m+9 by omega,show m'-1+10=m'+9 by omega] at this
            exact this
          obtain⟨e,n,c1,c2,c3⟩:=chk_props (m+9) (m'+9) (i29 (m+9)) (i29 (m'+9)) s (Dt.L s 9) (by omega) (by omega) (by omega) (by omega) level (by omega)
            (fun p hp=>ih _ (h9 p hp) (by have:=L_mem (d:=s) (i:=9) hp;have:=fld_bulk p 1;omega)) (fun x hx=>ih _ (h11 x hx) (by have:=L_mem (d:=s) (i:=11) hx;omega)) (m+10) (m'+10) 0 (seen+1) (Nat.zero_le _) (by omega) (by omega) (by omega)
          simp only[hb,cond_false]
          rw[List.drop_zero] at c3
          exact⟨e,n,c1,c2,fun h=>⟨by omega,(c3 h).1,.mk he (c3 h).2.1 (c3 h).2.2⟩⟩
        ·have hb:(sgl s !=0)=true:=by simpa using he
         simp only[hb,cond_true]
         exact⟨_,_,rfl,rfl,fun h=>absurd h he⟩
theorem valid_tot {s:Dt} (hw:WS s) (hb:s.bulk≤1000000000) (m m':Nat) (hm:5000000000≤m) (hm2:m<700000000000) (hm':5000000000≤m'):∃e,schema_Valid (m+11) s=some e∧schema_Valid (m'+11) s=some e∧(e=0→AllS s):=by
 obtain⟨e,n,c1,c2,c3⟩:=chk_tot s.bulk s (Nat.le_refl _) hb hw m m' (by omega) (by omega) (by omega) 1 0 (by omega) (by omega)
 have c2':i29 (m'+10) s 1 0=some (e,n):=c2
 have c1':i29 (m+10) s 1 0=some (e,n):=c1
 refine⟨e,by rw[schema_Valid,c1'];rfl,by rw[schema_Valid,c2'];rfl,fun he=>?_⟩
 exact(c3 he).2.2
end Go.Proofs.YtfneddmmeadacaaDoor
namespace Go.Proofs.YtfneddmmeadacaaDoor
open Go.Am
theorem dec_head:∀(u:Nat),1≤u→∀c r,Lib.decDigits u=c::r→c.toNat≠48:=by
 intro u
 induction u using Nat.strongRecOn with
 |_ u   ih=>
  intro hu c r h
  rw[Lib.decDigits] at h
  split at h
  · injection h with h1 h2
    rw[←h1,dig_toNat (by omega)];omega
  · cases hd:Lib.decDigits (u/10) with
    |nil=>exact absurd hd (dec_ne _)
    |   cons a b=>
        rw[hd,List.cons_append] at h
        injection h with h1 h2
        rw[←h1]
        exact ih (u/10) (by omega) (by omega) a b hd
def vA (a:Nat) (l:List UInt8):Nat:=l.foldl (fun a c=>10*a+(c.toNat-48)) a
theorem vA_ge:∀(l:List UInt8) (a:Nat),a≤vA a l
 | [],a=>Nat.le_refl _
 |c::r,a=>by
  have:=vA_ge r (10*a+(c.toNat-48))
  show a≤vA (10*a+(c.toNat-48)) r
  omega
theorem vA_dec (u:Nat):vA 0 (Lib.decDigits u)=u:=valD_dec u
theorem itoaB_eq (i:Nat) (h:i<9223372036854775807):itoaB i=strI i:=by rw[itoaB,itoa_eq i h];rfl
end Go.Proofs.YtfneddmmeadacaaDoor
namespace Go.Proofs.YtfneddmmeadacaaDoor
open Go.Am
theorem at_loop (m:Nat) (x:ByteArray) (v:Dt) (hl:(Dt.L v 4).length<9223372036854775807):∀(M i:Nat),i≤(Dt.L v 4).length→(Dt.L v 4).length-i<M→(∃(k:Nat) (h:k<(Dt.L v 4).length),ref01_at_l2 m M x (i:Int) v=some (k:Int)∧fnd x ((Dt.L v 4).drop i)=some (Dt.fld (Dt.L v 4)[k] 1))∨(ref01_at_l2 m M x (i:Int) v=some (-1)∧fnd x ((Dt.L v 4).drop i)=none)
 |0,i,_,h=>by omega
 |M+1,i,hi,h=>by
  simp only[ref01_at_l2,dlt]
  by_cases hlt:i<(Dt.L v 4).length
  ·rw[dropC hlt,fnd]
   simp only[hlt,decide_true,cond_true,ref01_at_j4,ref01_at_j3,ref01_at_j5,ref01_at_j1,ref01_at_j0,idx_lt hlt,Option.bind_some,wrapS (show i<9223372036854775807 by omega)]
   cases (ByteArray.toList (Dt.S (Dt.L v 4)[i] 0)==ByteArray.toList x)
   ·exact at_loop m x v hl M (i+1) (by omega) (by omega)
   ·exact .inl ⟨i,hlt,rfl,rfl⟩
  ·rw[dropN hlt]
   simp only[hlt,decide_false,cond_false,ref01_at_j4,ref01_at_j3,ref01_at_j5,ref01_at_j1,ref01_at_j0]
   exact .inr ⟨trivial,rfl⟩
theorem get_doc (m:Nat) (v:Dt) (x:ByteArray) (h5:Dt.I v 0=5) (hm:v.bulk≤m) (hm2:m<9223372036854775807):ref01_Get (m+2) v x=some (fndP x (Dt.L v 4)):=by
 have hn:=L_len v 4
 have y5:(Dt.I v 0 !=5)=false:=by rw[h5];rfl
 have h:=at_loop m x v (by omega) (m+1) 0 (Nat.zero_le _) (by omega)
 rw[List.drop_zero] at h
 rcases h with⟨k,hk,h1,h2⟩| ⟨h1,h2⟩
 ·have ha:ref01_at (m+1) v x=some (k:Int):=by
   simp only[ref01_at,y5,cond_false]
   exact h1
  have d0:decide ((k:Int)<0)=false:=decide_eq_false (by omega)
  simp only[ref01_Get,ref01_Get_j0,ha,Option.bind_some,d0,cond_false,idx_lt hk,fndP,h2]
 ·have ha:ref01_at (m+1) v x=some (-1):=by
   simp only[ref01_at,y5,cond_false]
   exact h1
  have d0:decide ((-1:Int)<0)=true:=rfl
  simp only[ref01_Get,ha,Option.bind_some,d0,cond_true,fndP,h2]
theorem get_no (m:Nat) (v:Dt) (x:ByteArray) (h5:Dt.I v 0≠5):ref01_Get (m+2) v x=some (kza2373,false):=by
 have y5:(Dt.I v 0 !=5)=true:=by simpa using h5
 have ha:ref01_at (m+1) v x=some (-1):=by
  simp only[ref01_at,y5,cond_true]
 have d0:decide ((-1:Int)<0)=true:=rfl
 simp only[ref01_Get,ha,Option.bind_some,d0,cond_true]
end Go.Proofs.YtfneddmmeadacaaDoor
namespace Go.Proofs.YtfneddmmeadacaaDoor
open Go.Am
inductive Ld:Dt→List Dt→Bool→Prop where
 |nil {v:Dt}:Ld v [] true
 |doc {v x:Dt} {n:ByteArray} {r:List Dt} {b:Bool} (h5:Dt.I v 0=5) (hl:(Dt.L v 4).length≤10000) (hf:fnd n (Dt.L v 4)=some x) (h:Ld x r b):Ld v (.str n::r) b
 |miss {v:Dt} {n:ByteArray} (h5:Dt.I v 0=5) (hl:(Dt.L v 4).length≤10000) (hf:fnd n (Dt.L v 4)=none):Ld v [.str n] false
 |el {v x:Dt} {i:Nat} {r:List Dt} {b:Bool} (h6:Dt.I v 0=6) (hl:(Dt.L v 3).length≤10000) (hi:(Dt.L v 3)[i]? =some x) (h:Ld x r b):Ld v (.str (itoaB i)::r) b
def Gd (v:Dt) (p:List Dt) (x:Dt):Prop:=∃q r b,x= .agg [.lst (p++q),.int r]∧1≤r∧r≤8∧Ld v q b∧b=!(r==6)
theorem gd_nil {v:Dt} {p:List Dt} {r:Int} (h1:1≤r) (h2:r≤8) (h:(r==6)=false):Gd v p (vio p [] r):=⟨[],r,true,rfl,h1,h2,.nil,by rw[h];rfl⟩
theorem gd_one {v:Dt} {p:List Dt} {c:Bool} {x y:Dt} (h:c=true→Gd v p y) (hx:x∈(bif c then[y] else[])):Gd v p x:=by
 cases c
 ·cases hx
 ·cases hx with
  |head=>exact h rfl
  |tail _ hx=>cases hx
theorem gd_hd {s v:Dt} {p:List Dt} {x:Dt} (hx:x∈hd5 s v p):Gd v p x:=by
 unfold hd5 at hx
 rcases List.mem_append.1 hx with hx|hx
 ·exact gd_one (fun _=>gd_nil (by decide) (by decide) rfl) hx
 rcases List.mem_append.1 hx with hx|hx
 ·exact gd_one (fun _=>gd_nil (by decide) (by decide) rfl) hx
 rcases List.mem_append.1 hx with hx|hx
 ·exact gd_one (fun _=>gd_nil (by decide) (by decide) rfl) hx
 rcases List.mem_append.1 hx with hx|hx
 ·exact gd_one (fun _=>gd_nil (by decide) (by decide) rfl) hx
 ·exact gd_one (fun _=>gd_nil (by decide) (by decide) rfl) hx
theorem gd_req {v:Dt} {p:List Dt} {x:Dt} (h5:Dt.I v 0=5) (hl:(Dt.L v 4).length≤10000):∀{L:List Dt},x∈reqs v p L→Gd v p x
 | [],hx=>by cases hx
 |n::r,hx=>by
  rw[reqs] at hx
  rcases List.mem_append.1 hx with hx|hx
  ·refine gd_one (fun h=>⟨[.str (Dt.toStr n)],6,false,rfl,by decide,by decide,.miss h5 hl (Option.isNone_iff_eq_none.1 h),rfl⟩) hx
  ·exact gd_req h5 hl hx
theorem fnd_of {f:Dt}:∀{L:List Dt},f∈L→∃y,fnd (Dt.S f 0) L=some y
 | [],h=>by cases h
 |g::r,h=>by
  rw[fnd]
  cases hb:(ByteArray.toList (Dt.S g 0)==ByteArray.toList (Dt.S f 0))
  ·cases h with
   |head=>rw[beq_self_eq_true] at hb;cases hb
   |    tail _ h=>
        obtain⟨y,e⟩:=fnd_of h
        exact⟨y,e⟩
  ·exact⟨_,rfl⟩
theorem gd_clo {s v:Dt} {p:List Dt} {x:Dt} (h5:Dt.I v 0=5) (hl:(Dt.L v 4).length≤10000):∀{L:List Dt},(∀f∈L,f∈Dt.L v 4)→x∈clos s p L→Gd v p x
 | [],_,hx=>by cases hx
 |f::r,hs,hx=>by
  rw[clos] at hx
  rcases List.mem_append.1 hx with hx|hx
  ·refine gd_one (fun _=>?_) hx
   obtain⟨y,hy⟩:=fnd_of (hs f (List.mem_cons_self ..))
   exact⟨[.str (Dt.S f 0)],7,true,rfl,by decide,by decide,.doc h5 hl hy .nil,rfl⟩
  ·exact gd_clo h5 hl (fun g hg=>hs g (List.mem_cons_of_mem _ hg)) hx
theorem gd_step {v y x q:Dt} {p:List Dt} (h:Gd y (p++[q]) x) (hl:∀r b,Ld y r b→Ld v (q::r) b):Gd v p x:=by
 obtain⟨r,k,b,e,h1,h2,h3,h4⟩:=h
 exact⟨q::r,k,b,by rw[e,List.append_assoc];rfl,h1,h2,hl _ _ h3,h4⟩
theorem nds_sub {v:Dt} (hw:WV v):(∀e∈prts v,nds e≤nds v)∧(prts v).length≤nds v:=by
 rw[nds_eq hw]
 have key:∀L:List Dt,(∀e∈L,WV e)→(∀e∈L,nds e≤(L.map nds).sum)∧L.length≤(L.map nds).sum:=by
  intro L
  induction L with
  |nil=>exact fun _=>⟨fun e he=>(by cases he),Nat.le_refl _⟩
  |cons a r ih=>
   intro hL
   obtain⟨i1,i2⟩:=ih fun e he=>hL e (List.mem_cons_of_mem _ he)
   have:=nds_pos (hL a (List.mem_cons_self ..))
   rw[List.map_cons,List.sum_cons,List.length_cons]
   refine⟨fun e he=>?_,by omega⟩
   rcases List.mem_cons.1 he with rfl|he
   ·omega
   ·have:=i1 e he;omega
 obtain⟨k1,k2⟩:=key (prts v) fun e he=>(prts_wv hw e he).1
 exact⟨fun e he=>by have:=k1 e he;omega,by omega⟩
theorem gd_vl: ∀(N:Nat) (s v:Dt) (p:List Dt),WV v→nds v≤1024→∀x∈vl N s v p,Gd v p x
 |0,_,_,_,_,_,x,hx=>by cases hx
 |N+    1,s, v,p,hw,hn,x,hx=>by
  obtain⟨n1,n2⟩:=nds_sub hw
  have wp:=prts_wv hw
  rw[vl] at hx
  rcases List.mem_append.1 hx with hx|hx
  ·exact gd_hd hx
  by_cases h5:Dt.I v 0=5
  ·have y5   :(Dt.I v 0==5)=true:=by rw[h5];rfl
   have pe:prts v=(Dt.L v 4).map fun f=>Dt.fld f 1:=by
        unfold prts
        rw[h5];rfl
   have hl:(Dt.L v 4).length≤10000:=by rw[pe,List.length_map] at n2;omega
   rw[y5,cond_true] at hx
   rcases List.mem_append.1 hx with hx|hx
   ·exact gd_req h5 hl hx
   rcases List.mem_append.1 hx with hx|hx
   ·exact gd_clo h5 hl (fun f hf=>hf) hx
   ·    generalize Dt.L s 9=L at hx
        induction L with
        |nil=>cases hx
        |cons q r ih=>
         rw[prps] at hx
         rcases List.mem_append.1 hx with hx|hx
         ·cases hf:fnd (Dt.S q 0) (Dt.L v 4) with
          |none=>rw[hf] at hx;cases hx
          |  some y=>
             rw[hf] at hx
             obtain⟨f,hfm,rfl⟩:=fnd_mem hf
             have hm:Dt.fld f 1∈prts v:=by rw[pe];exact List.mem_map.2 ⟨f,hfm,rfl⟩
             exact gd_step (gd_vl N _ _ _ (wp _ hm).1 (by have:=n1 _ hm;omega) x hx) fun r b h=> .doc h5 hl hf h
         ·exact ih hx
  ·have y5   : (Dt.I v 0==5)=false:=by rw[beq_eq_false_iff_ne];exact h5
   rw[y5,cond_false] at hx
   by_cases h6:Dt.I v 0=6
   ·    have y6:(Dt.I v 0==6)=true:=by rw[h6];rfl
        have pe:prts v=Dt.L v 3:=by
         unfold prts
         rw[h6];rfl
        have hl:(Dt.L v 3).length≤10000:=by rw[pe] at n2;omega
        rw[y6,cond_true] at hx
        rcases List.mem_append.1 hx with hx|hx
        ·unfold unis at hx
         exact gd_one (fun _=>gd_nil (by decide) (by decide) rfl) hx
        ·generalize Dt.L s 11=L at hx
         induction L with
         |nil=>cases hx
         |cons c r ih=>
          rw[itms] at hx
          rcases List.mem_append.1 hx with hx|hx
          ·  have key:∀(L':List Dt) (i:Nat),(Dt.L v 3).drop i=L'→x∈elms (vl N) c p i L'→Gd v p x:=by
               intro L'
               induction L' with
               |nil=>intro i _ hx;cases hx
               |cons e r ih2=>
                intro i hd hx
                have hi:i<(Dt.L v 3).length:=by
                 apply Classical.byContradiction
                 intro hge
                 rw[dropN hge] at hd
                 cases hd
                rw[dropC hi] at hd
                injection hd with e1 e2
                rw[elms] at hx
                rcases List.mem_append.1 hx with hx|hx
                ·have hm:e∈prts v:=by rw[pe,←e1];exact List.getElem_mem hi
                 exact gd_step (gd_vl N _ _ _ (wp _ hm).1 (by have:=n1 _ hm;omega) x hx) fun r b h=> .el h6 hl (by rw[List.getElem?_eq_getElem hi,e1]) h
                ·exact ih2 (i+1) e2 hx
             exact key _ 0 (List.drop_zero ..) hx
          ·exact ih hx
   ·    have y6:(Dt.I v 0==6)=false:=by rw[beq_eq_false_iff_ne];exact h6
        rw[y6,cond_false] at hx
        cases hx
end Go.Proofs.YtfneddmmeadacaaDoor
