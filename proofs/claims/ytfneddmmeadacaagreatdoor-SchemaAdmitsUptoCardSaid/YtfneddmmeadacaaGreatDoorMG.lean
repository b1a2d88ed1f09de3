/- Unique: neighbours in a sorted list are equal exactly if two elements are. Kinds: a bit of a set, in two ways.
Decimal numerals:their first digit;reading them.
A field of a document,by the reference.
Comparing values:the reference's function (parts numbered as since session 5).
The reference's violations:its small functions.
The reference's own violations of a schema. -/
import Derived.Test.YtfneddmmeadacaaGreatDoorMF
import Derived.Test.YtfneddmmeadacaaGreatDoorMC
import Derived.Test.YtfneddmmeadacaaGreatDoorMCm
import Derived.KernelRfl
import Derived.Test.YtfneddmmeadacaaGreatDoorMD
set_option linter.unusedVariables false
set_option linter.unusedSimpArgs false
namespace Go.Proofs.YtfneddmmeadacaaGreatDoor
open Go.Am Go.Am.Srt
def Dif (a b:Dt):Prop:=cmpD a b≠0
theorem dif_symm {a b:Dt} (h:Dif a b):Dif b a:=by
 unfold Dif at h ⊢
 have:=tpoD.anti a b
 omega
theorem adj_pw:∀X:List Dt,Asc (ltc cmpD) X→(adjB X=false↔X.Pairwise Dif)
 | [],_=>by simp[adjB]
 | [a],_=>by simp[adjB]
 |a::b::r,h=>by
  have h1:=h.1
  have h2:Asc (ltc cmpD) (b::r):=h.2
  have ih:=adj_pw (b::r) h2
  rw[adjB,List.pairwise_cons,Bool.or_eq_false_iff,ih]
  refine⟨fun⟨g1,g2⟩=>⟨fun y hy=>?_,g2⟩,fun⟨g1,g2⟩=>⟨?_,g2⟩⟩
  ·have gab:cmpD a b≠0:=by simpa using g1
   have lab:cmpD a b<0:=by
        have:=h1 b (List.mem_cons_self ..)
        simp only[ltc,decide_eq_false_iff_not] at this
        have:=tpoD.anti a b
        omega
   rcases List.mem_cons.1 hy with rfl|hy'
   ·exact gab
   ·    have:=h2.1 y hy'
        simp only[ltc,decide_eq_false_iff_not] at this
        have a2:=tpoD.anti b y
        have:=tpoD.ltl (d:=y) lab (by omega)
        unfold Dif
        omega
  ·have:cmpD a b≠0:=g1 b (List.mem_cons_self ..)
   simpa using this
theorem rep_pw (L:List Dt):repB L=false↔L.Pairwise Dif:=by
 unfold repB
 rw[adj_pw _ (asc_isort (swo tpoD) L)]
 exact(perm_isort L).pairwise_iff fun h=>dif_symm h
def twB:List Dt→List Dt→Bool
 |_,[]=>false
 |P,x::r=>amg x P||twB (P++[x]) r
theorem amg_false {x:Dt}:∀{P:List Dt},amg x P=false↔∀y∈P,Dif y x
 | []=>by simp[amg]
 |y::r=>by
  rw[amg,Bool.or_eq_false_iff,amg_false]
  simp[Dif]
theorem tw_pw:∀(P L:List Dt),P.Pairwise Dif→(twB P L=false↔(P++L).Pairwise Dif)
 |P,[],h=>by simpa [twB] using h
 |P,x::r,h=>by
  rw[twB,Bool.or_eq_false_iff,amg_false]
  refine⟨fun⟨g1,g2⟩=>?_,fun g=>?_⟩
  ·have hp:(P++[x]).Pairwise Dif:=by
        rw[List.pairwise_append]
        exact⟨h,List.pairwise_singleton _ _,fun a ha b hb=>by rw[List.mem_singleton.1 hb];exact g1 a ha⟩
   have:=(tw_pw (P++[x]) r hp).1 g2
   rwa [List.append_assoc] at this
  ·have g':=g
   rw[List.pairwise_append] at g'
   have g1:∀y∈P,Dif y x:=fun y hy=>g'.2.2 y hy x (List.mem_cons_self ..)
   have hp:(P++[x]).Pairwise Dif:=by
        rw[List.pairwise_append]
        exact⟨h,List.pairwise_singleton _ _,fun a ha b hb=>by rw[List.mem_singleton.1 hb];exact g1 a ha⟩
   exact⟨g1,(tw_pw (P++[x]) r hp).2 (by rw[List.append_assoc];exact g)⟩
theorem tw_rep (L:List Dt):twB [] L=repB L:=by
 have h:=(tw_pw [] L List.Pairwise.nil).trans (rep_pw L).symm
 cases h1:twB [] L<;>cases h2:repB L
 ·rfl
 ·rw[h1,h2] at h;simp at h
 ·rw[h1,h2] at h;simp at h
 ·rfl
theorem and_one (x:Nat) (h:x<4096):andI IntKind.i64 (x:Int) 1=((x%2:Nat):Int):=by
 show IntKind.wrap .i64 (((BitVec.ofInt 64 (x:Int)&&& BitVec.ofInt 64 1:BitVec 64).toNat:Nat):Int)=_
 have e0:(BitVec.ofInt 64 (x:Int)).toNat=((x:Int)%18446744073709551616).toNat:=by simp[BitVec.toNat_ofInt];omega
 have e1:(BitVec.ofInt 64 (x:Int)).toNat=x:=by rw[e0];omega
 have e2:(BitVec.ofInt 64 (x:Int)&&& BitVec.ofInt 64 1:BitVec 64).toNat=x%2:=by
  rw[BitVec.toNat_and,e1,show (BitVec.ofInt 64 1).toNat=1 from rfl,Nat.and_one_is_mod]
 rw[e2,wrap64 (by omega) (by omega)]
theorem shr_nat (k d:Nat) (hd:d≤11):shrI IntKind.i64 (k:Int) (d:Int)=((k/2^d:Nat):Int):=by
 unfold shrI
 have e:Nat.min (d:Int).toNat IntKind.i64.bits=d:=by
  show Nat.min d 64=d
  exact Nat.min_eq_left (by omega)
 rw[e,Int.fdiv_eq_ediv_of_nonneg _ (by exact Int.pow_nonneg (by decide))]
 rw[Int.natCast_ediv,Int.natCast_pow]
 rfl
theorem hk_eq {k d:Int} (h0:0≤k) (h1:k<4096) (h2:Int.tmod k 2≠1):(!hkB k d)=(bif k !=0 then bif decide (d<1) then true else bif decide (11<d) then true else Int.tmod (shrI IntKind.i64 k d) 2==0 else false):=by
 obtain⟨n,rfl⟩:∃n:Nat,k=(n:Int):=⟨k.toNat,by omega⟩
 have hb:hkB (n:Int) d=(bif (n:Int)==0 then true else bif decide (0≤d) then bif decide (d≤11) then andI IntKind.i64 (shrI IntKind.i64 (n:Int) d) 1==1 else false else false):=by
  unfold hkB
  simp only[schema_hasKind]
  cases ((n:Int)==0)<;>cases decide (0≤d)<;>cases decide (d≤11)<;>rfl
 rw[hb]
 by_cases hz:(n:Int)=0
 ·have z1:((n:Int)==0)=true:=by rw[beq_iff_eq];exact hz
  have z2:((n:Int) !=0)=false:=by simpa using hz
  rw[z1,z2];rfl
 ·have z1 :((n:Int)==0)=false:=by rw[beq_eq_false_iff_ne];exact hz
  have z2:((n:Int) !=0)=true:=by simpa using hz
  rw[z1,z2,cond_false,cond_true]
  by_cases d0:d<0
  ·rw[decide_eq_false (show ¬0≤d by omega),decide_eq_true (show d<1 by omega)];rfl
  ·by_cases d11:11<d
   ·rw[decide_eq_true (show 0≤d by omega),decide_eq_false (show ¬d≤11 by omega),decide_eq_false (show ¬d<1 by omega),decide_eq_true d11];rfl
   ·    obtain⟨j,rfl⟩:∃j:Nat,d=(j:Int):=⟨d.toNat,by omega⟩
        have hlt:n/2^j<4096:=Nat.lt_of_le_of_lt (Nat.div_le_self _ _) (by omega)
        rw[decide_eq_true (show 0≤(j:Int) by omega),decide_eq_true (show (j:Int)≤11 by omega),decide_eq_false d11,shr_nat n j (by omega),and_one _ hlt]
        rw[Int.tmod_eq_emod_of_nonneg (by omega)] at h2
        have hy:j=0→n/2^j=n:=fun h=>by subst h;simp
        generalize n/2^j=y at hlt hy ⊢
        rw[Int.tmod_eq_emod_of_nonneg (show (0:Int)≤(y:Int) by omega)]
        simp only[cond_true,cond_false]
        by_cases j0:j=0
        ·have hyn:=hy j0
         subst j0
         rw[decide_eq_true (show ((0:Nat):Int)<1 by omega),cond_true]
         have hb:((((y%2:Nat):Int))==1)=false:=by rw[beq_eq_false_iff_ne];omega
         rw[hb];rfl
        ·rw[decide_eq_false (show ¬(j:Int)<1 by omega),cond_false]
         rcases Nat.mod_two_eq_zero_or_one y with e|e
         ·have e2:((y:Int)%2)=0:=by omega
          rw[e,e2];rfl
         ·have e2:((y:Int)%2)=1:=by omega
          rw[e,e2];rfl
end Go.Proofs.YtfneddmmeadacaaGreatDoor
namespace Go.Proofs.YtfneddmmeadacaaGreatDoor
open Go.Am
theorem dec_head:∀(u:Nat),1≤u→∀c r,Lib.decDigits u=c::r→c.toNat≠48:=by
 intro u
 induction u using Nat.strongRecOn with
 |_ u   ih=>
  intro hu c r h
  rw[Lib.decDigits] at h
  split at h
  · injection h with h1 h2
    rw[←h1,dig_toNat (by omega)];omega
  · cases hd:Lib.decDigits (u/10) with
    |nil=>exact absurd hd (dec_ne _)
    |   cons a b=>
        rw[hd,List.cons_append] at h
        injection h with h1 h2
        rw[←h1]
        exact ih (u/10) (by omega) (by omega) a b hd
def vA (a:Nat) (l:List UInt8):Nat:=l.foldl (fun a c=>10*a+(c.toNat-48)) a
theorem vA_ge:∀(l:List UInt8) (a:Nat),a≤vA a l
 | [],a=>Nat.le_refl _
 |c::r,a=>by
  have:=vA_ge r (10*a+(c.toNat-48))
  show a≤vA (10*a+(c.toNat-48)) r
  omega
theorem vA_dec (u:Nat):vA 0 (Lib.decDigits u)=u:=valD_dec u
theorem itoaB_eq (i:Nat) (h:i<9223372036854775807):itoaB i=strI i:=by rw[itoaB,itoa_eq i h];rfl
end Go.Proofs.YtfneddmmeadacaaGreatDoor
namespace Go.Proofs.YtfneddmmeadacaaGreatDoor
open Go.Am
theorem at_loop (m:Nat) (x:ByteArray) (v:Dt) (hl:(Dt.L v 4).length<9223372036854775807):∀(M i:Nat),i≤(Dt.L v 4).length→(Dt.L v 4).length-i<M→(∃(k:Nat) (h:k<(Dt.L v 4).length),ref01_at_l2 m M x (i:Int) v=some (k:Int)∧fnd x ((Dt.L v 4).drop i)=some (Dt.fld (Dt.L v 4)[k] 1))∨(ref01_at_l2 m M x (i:Int) v=some (-1)∧fnd x ((Dt.L v 4).drop i)=none)
 |0,i,_,h=>by omega
 |M+1,i,hi,h=>by
  simp only[ref01_at_l2,dlt]
  by_cases hlt:i<(Dt.L v 4).length
  ·rw[dropC hlt,fnd]
   simp only[hlt,decide_true,cond_true,ref01_at_j4,ref01_at_j3,ref01_at_j5,ref01_at_j1,ref01_at_j0,idx_lt hlt,Option.bind_some,wrapS (show i<9223372036854775807 by omega)]
   cases (ByteArray.toList (Dt.S (Dt.L v 4)[i] 0)==ByteArray.toList x)
   ·exact at_loop m x v hl M (i+1) (by omega) (by omega)
   ·exact .inl ⟨i,hlt,rfl,rfl⟩
  ·rw[dropN hlt]
   simp only[hlt,decide_false,cond_false,ref01_at_j4,ref01_at_j3,ref01_at_j5,ref01_at_j1,ref01_at_j0]
   exact .inr ⟨trivial,rfl⟩
theorem get_doc (m:Nat) (v:Dt) (x:ByteArray) (h5:Dt.I v 0=5) (hm:v.bulk≤m) (hm2:m<9223372036854775807):ref01_Get (m+2) v x=some (fndP x (Dt.L v 4)):=by
 have hn:=L_len v 4
 have y5:(Dt.I v 0 !=5)=false:=by rw[h5];rfl
 have h:=at_loop m x v (by omega) (m+1) 0 (Nat.zero_le _) (by omega)
 rw[List.drop_zero] at h
 rcases h with⟨k,hk,h1,h2⟩| ⟨h1,h2⟩
 ·have ha:ref01_at (m+1) v x=some (k:Int):=by
   simp only[ref01_at,y5,cond_false]
   exact h1
  have d0:decide ((k:Int)<0)=false:=decide_eq_false (by omega)
  simp only[ref01_Get,ref01_Get_j0,ha,Option.bind_some,d0,cond_false,idx_lt hk,fndP,h2]
 ·have ha:ref01_at (m+1) v x=some (-1):=by
   simp only[ref01_at,y5,cond_false]
   exact h1
  have d0:decide ((-1:Int)<0)=true:=rfl
  simp only[ref01_Get,ha,Option.bind_some,d0,cond_true,fndP,h2]
theorem get_no (m:Nat) (v:Dt) (x:ByteArray) (h5:Dt.I v 0≠5):ref01_Get (m+2) v x=some (kza2373,false):=by
 have y5:(Dt.I v 0 !=5)=true:=by simpa using h5
 have ha:ref01_at (m+1) v x=some (-1):=by
  simp only[ref01_at,y5,cond_true]
 have d0:decide ((-1:Int)<0)=true:=rfl
 simp only[ref01_Get,ha,Option.bind_some,d0,cond_true]
end Go.Proofs.YtfneddmmeadacaaGreatDoor
namespace Go.Proofs.YtfneddmmeadacaaGreatDoor
open Go.Am
theorem ints_eq (m:Nat) (a b:Int):ref01_Ints (m+1) a b=some (cmpI a b):=by
 simp only[ref01_Ints,ref01_Ints_j0,ref01_Ints_j1,cmpI]
 cases decide (a<b)<;>cases decide (b<a)<;>rfl
theorem texts_loop (m:Nat) (a b:ByteArray) (ha:a.size<1000000000000):∀(M i:Nat),i≤a.size→i≤b.size→a.size-i<M→ref01_Texts_l1 (m+1) M a b (i:Int)=some (cmpL cmpU (a.data.toList.drop i) (b.data.toList.drop i))
 |0,i,_,_,h=>by omega
 |M+    1,i,hi,hi2,h=>by
  have la:a.data.toList.length=a.size:=by rw[Array.length_toList];rfl
  have lb:b.data.toList.length=b.size:=by rw[Array.length_toList];rfl
  simp only[ref01_Texts_l1,dlt]
  by_cases h1:i<a.size
  ·by_cases h2:i<b.size
   ·    have e1:a.data.toList.drop i=a[i]::a.data.toList.drop (i+1):=by rw[List.drop_eq_getElem_cons (by omega)];rfl
        have e2:b.data.toList.drop i=b[i]::b.data.toList.drop (i+1):=by rw[List.drop_eq_getElem_cons (by omega)];rfl
        have hwr:∀u:UInt8,IntKind.wrap IntKind.i64 (u.toNat:Int)=(u.toNat:Int):=fun u=>wrap64 (by omega) (by have:=u.toNat_lt;omega)
        simp only[h1,h2,decide_true,cond_true,ref01_Texts_j2,ref01_Texts_j3,idxS_lt h1,idxS_lt h2,Option.bind_some,hwr,ints_eq,wrapS (show i<9223372036854775807 by omega)]
        rw[texts_loop m a b ha M (i+1) (by omega) (by omega) (by omega),e1,e2]
        simp only[cmpL]
        by_cases e:((a[i].toNat:Int))=(b[i].toNat:Int)
        ·have e3:cmpU a[i] b[i]=0:=by
          rcases cmpI_cases (a[i].toNat:Int) (b[i].toNat:Int) with⟨g,f⟩| ⟨g,f⟩| ⟨g,f⟩
          ·omega
          ·exact f
          ·omega
         rw[bne_f e,bne_f e3]
        ·have e3:cmpU a[i] b[i]≠0:=by
          rcases cmpI_cases (a[i].toNat:Int) (b[i].toNat:Int) with⟨g,f⟩| ⟨g,f⟩| ⟨g,f⟩
          ·intro x;rw[show cmpU a[i] b[i]= -1 from f] at x;omega
          ·omega
          ·intro x;rw[show cmpU a[i] b[i]=1 from f] at x;omega
         rw[bne_t e,bne_t e3]
         rfl
   ·    have:i=b.size:=by omega
        simp only[h1,h2,decide_true,decide_false,cond_true,cond_false,ref01_Texts_j4,ints_eq,Option.bind_some]
        rw[cmpDrop (by omega) (by omega) (.inr (by omega)),la,lb]
  ·simp only[h1,decide_false,cond_false,ref01_Texts_j4,ints_eq,Option.bind_some]
   rw[cmpDrop (by omega) (by omega) (.inl (by omega)),la,lb]
theorem texts_eq (m:Nat) (a b:ByteArray) (hm:a.size≤m) (hm2:m<1000000000000):ref01_Texts (m+2) a b=some (cmpT a b):=by
 have:=texts_loop m a b (by omega) (m+2) 0 (by omega) (by omega) (by omega)
 rw[cmpT,cmpB_eq]
 exact this
theorem rcmp_l2 (m:Nat) (self:Dt→Dt→Option Int) (c:Dt→Dt→Int) (a b:Dt) (hl:(Dt.L a 3).length<1000000000000) (hs:∀x∈Dt.L a 3,∀y,self x y=some (c x y)):∀(M i:Nat),i≤(Dt.L a 3).length→i≤(Dt.L b 3).length→(Dt.L a 3).length-i<M→
  ref01_Compare_l4 (m+1) self M (i:Int) a b=some (cmpL c ((Dt.L a 3).drop i) ((Dt.L b 3).drop i))
 |0,i,_,_,h=>by omega
 |M+    1,i,hi,hi2,h=>by
  simp only[ref01_Compare_l4,dlt]
  by_cases ha:i<(Dt.L a 3).length
  ·by_cases hb:i<(Dt.L b 3).length
   ·    simp only[ha,hb,decide_true,cond_true,ref01_Compare_j5,ref01_Compare_j6,idx_lt ha,idx_lt hb,Option.bind_some,hs _ (List.getElem_mem ha),wrapS (show i<9223372036854775807 by omega)]
        rw[rcmp_l2 m self c a b hl hs M (i+1) (by omega) (by omega) (by omega),List.drop_eq_getElem_cons ha,List.drop_eq_getElem_cons hb]
        simp only[cmpL]
        cases (c (Dt.L a 3)[i] (Dt.L b 3)[i] !=0)<;>rfl
   ·    simp only[ha,hb,decide_true,decide_false,cond_true,cond_false,ref01_Compare_j7,ints_eq,Option.bind_some]
        rw[cmpDrop hi hi2 (by omega)]
  ·simp only[ha,decide_false,cond_false,ref01_Compare_j7,ints_eq,Option.bind_some]
   rw[cmpDrop hi hi2 (by omega)]
theorem rcmp_l7 (m:Nat) (hm:1≤m) (self:Dt→Dt→Option Int) (c:Dt→Dt→Int) (a b:Dt) (hl:(Dt.L a 4).length<1000000000000) (ht:∀x∈Dt.L a 4,∀y,ref01_Texts (m+1) (Dt.S x 0) (Dt.S y 0)=some (cmpT (Dt.S x 0) (Dt.S y 0))) (hs:∀x∈Dt.L a 4,∀y,self (Dt.fld x 1) (Dt.fld y 1)=some (c (Dt.fld x 1) (Dt.fld y 1))):∀(M i:Nat),i≤(Dt.L a 4).length→i≤(Dt.L b 4).length→(Dt.L a 4).length-i<M→
  ref01_Compare_l9 (m+1) self M (i:Int) a b=some (cmpL (cmpF c) ((Dt.L a 4).drop i) ((Dt.L b 4).drop i))
 |0,i,_,_,h=>by omega
 |M+    1,i,hi,hi2,h=>by
  simp only[ref01_Compare_l9,dlt]
  by_cases ha:i<(Dt.L a 4).length
  ·by_cases hb:i<(Dt.L b 4).length
   ·    simp only[ha,hb,decide_true,cond_true,ref01_Compare_j10,ref01_Compare_j11,ref01_Compare_j12,idx_lt ha,idx_lt hb,Option.bind_some,ht _ (List.getElem_mem ha),hs _ (List.getElem_mem ha),wrapS (show i<9223372036854775807 by omega)]
        rw[rcmp_l7 m hm self c a b hl ht hs M (i+1) (by omega) (by omega) (by omega),List.drop_eq_getElem_cons ha,List.drop_eq_getElem_cons hb]
        simp only[cmpL,cmpF]
        by_cases e:cmpT (Dt.S (Dt.L a 4)[i] 0) (Dt.S (Dt.L b 4)[i] 0)=0
        ·have e1:(cmpT (Dt.S (Dt.L a 4)[i] 0) (Dt.S (Dt.L b 4)[i] 0)==0)=true:=by simpa using e
         rw[e1]
         simp only[cond_true]
         rw[bne_f e]
         by_cases e2:c (Dt.fld (Dt.L a 4)[i] 1) (Dt.fld (Dt.L b 4)[i] 1)=0
         ·rw[bne_f e2,bne_f e2]
         ·rw[bne_t e2,bne_t e2]
        ·have e1:(cmpT (Dt.S (Dt.L a 4)[i] 0) (Dt.S (Dt.L b 4)[i] 0)==0)=false:=by simpa using e
         rw[e1]
         simp only[cond_false]
         rw[bne_t e,bne_t e,bne_t e]
   ·    simp only[ha,hb,decide_true,decide_false,cond_true,cond_false,ref01_Compare_j13,ints_eq,Option.bind_some]
        rw[cmpDrop hi hi2 (by omega)]
  ·simp only[ha,decide_false,cond_false,ref01_Compare_j13,ints_eq,Option.bind_some]
   rw[cmpDrop hi hi2 (by omega)]
theorem rcmp_j0 (m:Nat) (self:Dt→Dt→Option Int) (a b:Dt):ref01_Compare_j0 m self a b=
  bif (Dt.I a 0==3||Dt.I a 0==9||Dt.I a 0==10) then ref01_Ints m (Dt.I a 1) (Dt.I b 1)
  else bif (Dt.I a 0==4||Dt.I a 0==7||Dt.I a 0==8) then ref01_Texts m (Dt.S a 2) (Dt.S b 2)
  else bif Dt.I a 0==6 then ref01_Compare_j3 m self 0 a b
  else bif Dt.I a 0==5 then ref01_Compare_j8 m self 0 a b else ref01_Compare_j14 m self:=by
 have hb:∀x:Option Int,(x.bind fun r=>some r)=x:=fun x=>by cases x<;>rfl
 simp only[ref01_Compare_j0,ref01_Compare_j1,ref01_Compare_j2,hb]
 cases (Dt.I a 0==3)<;>cases (Dt.I a 0==9)<;>cases (Dt.I a 0==10)<;>cases (Dt.I a 0==4)<;>cases (Dt.I a 0==7)<;>cases (Dt.I a 0==8)<;>rfl
theorem rcmp_eq:∀(n:Nat) (a b:Dt),a.bulk≤n→n<900000000000→∀m,n≤m→m<900000000000→ref01_Compare (m+3) a b=some (cmpV n a b)
 |0,a,_,h,_,_,_,_=>by have:=bulk_posA a;omega
 |n+    1,a,b,h,hn,m,hm,hm2=>by
  obtain⟨m,rfl⟩:∃k,m=k+1:=⟨m-1,by omega⟩
  have h3:=L_len a 3
  have h4:=L_len a 4
  have e3:=rcmp_l2 (m+2) (ref01_Compare (m+3)) (cmpV n) a b (by omega) (fun x hx y=>rcmp_eq n x y (by have:=L_mem hx;omega) (by omega) m (by omega) (by omega)) (m+4) 0 (Nat.zero_le _) (Nat.zero_le _) (by omega)
  have e4:=rcmp_l7 (m+2) (by omega) (ref01_Compare (m+3)) (cmpV n) a b (by omega) (fun x hx y=>texts_eq (m+1) _ _ (by have:=L_mem hx;have:=S_size x 0;omega) (by omega)) (fun x hx y=>rcmp_eq n _ _ (by have:=L_mem hx;have:=fld_bulk x 1;omega) (by omega) m (by omega) (by omega)) (m+4) 0 (Nat.zero_le _) (Nat.zero_le _) (by omega)
  rw[List.drop_zero,List.drop_zero] at e3 e4
  have e3':ref01_Compare_j3 (m+3) (ref01_Compare (m+3)) 0 a b=_:=e3
  have e4':ref01_Compare_j8 (m+3) (ref01_Compare (m+3)) 0 a b=_:=e4
  show (bif (Dt.I a 0 !=Dt.I b 0) then(ref01_Ints (m+3) (Dt.I a 0) (Dt.I b 0)).bind (fun r=>some r) else ref01_Compare_j0 (m+3) (ref01_Compare (m+3)) a b)=_
  simp only[rcmp_j0,show m+3=(m+2)+1 from rfl,ints_eq,cmpV,Option.bind_some]
  cases (Dt.I a 0 !=Dt.I b 0)
  ·simp only[cond_false,cmpK]
   cases (Dt.I a 0==3||Dt.I a 0==9||Dt.I a 0==10)
   ·    cases (Dt.I a 0==4||Dt.I a 0==7||Dt.I a 0==8)
        ·cases (Dt.I a 0==6)
         ·cases (Dt.I a 0==5)
          ·rfl
          ·exact e4'
         ·exact e3'
        ·exact texts_eq (m+1) _ _ (by have:=S_size a 2;omega) (by omega)
   ·rfl
  ·rfl
theorem rcmp_D (a b:Dt) (m:Nat) (hm:a.bulk≤m) (hm2:m<900000000000):ref01_Compare (m+3) a b=some (cmpD a b):=by
 rw[rcmp_eq a.bulk a b (Nat.le_refl _) (by omega) m hm hm2,cmpV_D (Nat.le_refl _)]
end Go.Proofs.YtfneddmmeadacaaGreatDoor
namespace Go.Proofs.YtfneddmmeadacaaGreatDoor
open Go.Am
theorem ba_ext {a b:ByteArray} (h:a.data.toList=b.data.toList):a=b:=by
 cases a
 cases b
 congr
 exact Array.toList_inj.1 h
def dgB (d:Nat):ByteArray:=⟨#[UInt8.ofNat (48+d)]⟩
theorem digit_eq (m d:Nat) (h:d<10):ref05_digit (m+1) (d:Int)=some (dgB d):=by
 match d,h with
 |0,_=>show ref05_digit (m+1) 0=some (dgB 0);kernel_rfl
 |1,_=>show ref05_digit (m+1) 1=some (dgB 1);kernel_rfl
 |2,_=>show ref05_digit (m+1) 2=some (dgB 2);kernel_rfl
 |3,_=>show ref05_digit (m+1) 3=some (dgB 3);kernel_rfl
 |4,_=>show ref05_digit (m+1) 4=some (dgB 4);kernel_rfl
 |5,_=>show ref05_digit (m+1) 5=some (dgB 5);kernel_rfl
 |6,_=>show ref05_digit (m+1) 6=some (dgB 6);kernel_rfl
 |7,_=>show ref05_digit (m+1) 7=some (dgB 7);kernel_rfl
 |8,_=>show ref05_digit (m+1) 8=some (dgB 8);kernel_rfl
 |9,_=>show ref05_digit (m+1) 9=some (dgB 9);kernel_rfl
def hdD (u:Nat):List UInt8:=if u<10 then[] else Lib.decDigits (u/10)
theorem dec_hd (u:Nat):Lib.decDigits u=hdD u++[UInt8.ofNat (48+u%10)]:=by
 rw[Lib.decDigits]
 unfold hdD
 split
 ·rename_i h
  rw[Nat.mod_eq_of_lt h];rfl
 ·rfl
theorem tdiv_nat (u:Nat):Int.tdiv (u:Int) 10=((u/10:Nat):Int):=by
 rw[Int.tdiv_eq_ediv_of_nonneg (by omega)];omega
theorem tmod_nat (u:Nat):Int.tmod (u:Int) 10=((u%10:Nat):Int):=by
 rw[Int.tmod_eq_emod_of_nonneg (by omega)];omega
theorem decimal_loop (m n:Nat):∀(k M u x:Nat) (s:ByteArray),k+x=20→u<10^(k+1)→u<4611686018427387904→k<M→s.size+k≤100→
  ∃t,ref05_Decimal_l2 (m+1) M (n:Int) (u:Int) s (x:Int)=some t∧t.data.toList=hdD u++s.data.toList
 |_,0,_,_,_,_,_,_,h,_=>by omega
 |k,M+1,u,x,s,hk,hu,hu2,hM,hs=>by
  have n0:decide ((n:Int)<0)=false:=decide_eq_false (by omega)
  simp only[ref05_Decimal_l2]
  by_cases hx:x<20
  ·have d1:decide ((x:Int)<20)=true:=decide_eq_true (by omega)
   by_cases h10:10≤u
   ·    obtain⟨k,rfl⟩:∃q,k=q+1:=⟨k-1,by omega⟩
        have d2:decide ((10:Int)≤(u:Int))=true:=decide_eq_true (by omega)
        have w1:IntKind.wrap IntKind.u64 (Int.tdiv (u:Int) 10)=((u/10:Nat):Int):=by rw[tdiv_nat,wrapU (by omega) (by omega)]
        have w2:IntKind.wrap IntKind.i64 (Int.tmod ((u/10:Nat):Int) 10)=((u/10%10:Nat):Int):=by rw[tmod_nat,wrap64 (by omega) (by omega)]
        have hd:=digit_eq m (u/10%10) (by omega)
        have hsz:(dgB (u/10%10)).size=1:=rfl
        have hb:Nat.ble ((dgB (u/10%10)).size+s.size) 1152921504606846976=true:=by rw[Nat.ble_eq,hsz];omega
        obtain⟨t,h1,h2⟩:=decimal_loop m n k M (u/10) (x+1) (dgB (u/10%10)++s) (by omega) (by rw[Nat.pow_succ] at hu;omega) (by omega) (by omega) (by rw[ByteArray.size_append,hsz];omega)
        refine⟨t,?_,?_⟩
        ·simp only[d1,d2,cond_true,ref05_Decimal_j4,ref05_Decimal_j3,ref05_Decimal_j6,ref05_Decimal_j5,ref05_Decimal_j1,ref05_Decimal_j0,w1,w2,hd,Option.bind_some,hb,wrapS (show x<9223372036854775807 by omega)]
         exact h1
        ·rw[h2,ByteArray.data_append,Array.toList_append]
         have e:hdD u=Lib.decDigits (u/10):=if_neg (by omega)
         rw[e,dec_hd (u/10),List.append_assoc]
         rfl
   ·    have d2:decide ((10:Int)≤(u:Int))=false:=decide_eq_false (by omega)
        simp only[d1,d2,cond_true,cond_false,ref05_Decimal_j4,ref05_Decimal_j3,ref05_Decimal_j6,ref05_Decimal_j5,ref05_Decimal_j1,ref05_Decimal_j0,n0]
        exact⟨s,rfl,by rw[show hdD u=[] from if_pos (by omega)];rfl⟩
  ·have d1:decide ((x:Int)<20)=false:=decide_eq_false (by omega)
   have hk0:k=0:=by omega
   subst hk0
   simp only[d1,cond_false,ref05_Decimal_j4,ref05_Decimal_j3,ref05_Decimal_j6,ref05_Decimal_j5,ref05_Decimal_j1,ref05_Decimal_j0,n0]
   exact⟨s,rfl,by rw[show hdD u=[] from if_pos (by simpa using hu)];rfl⟩
theorem decimal_eq (m i:Nat) (h:i<1000000000000) (hm:30≤m):ref05_Decimal (m+2) (i:Int)=some (strI i):=by
 have n0:decide ((i:Int)<0)=false:=decide_eq_false (by omega)
 have w0:IntKind.wrap IntKind.u64 (i:Int)=(i:Int):=wrapU (by omega) (by omega)
 have w2:IntKind.wrap IntKind.i64 (Int.tmod (i:Int) 10)=((i%10:Nat):Int):=by rw[tmod_nat,wrap64 (by omega) (by omega)]
 have hd:=digit_eq m (i%10) (by omega)
 obtain⟨t,h1,h2⟩:=decimal_loop m i 20 (m+2) i 0 (dgB (i%10)) rfl (Nat.lt_of_lt_of_le h (by decide)) (by omega) (by omega) (by show 1+20≤100;omega)
 have e:t=strI i:=ba_ext (by
  rw[h2,strI_list,dec_hd i];rfl)
 subst e
 simp only[ref05_Decimal,n0,cond_false,w0,ref05_Decimal_j0,w2,hd,Option.bind_some,ref05_Decimal_j1]
 exact h1
theorem step_eq (m:Nat) (p:List Dt) (s:ByteArray) (h:p.length+1≤137438953472):ref14_step (m+1) p s=some (p++[Dt.str s]):=by
 simp only[ref14_step]
 rw[app_le (by simp;omega)]
 simp only[Option.bind_some,List.nil_append]
 rw[app_le (by simp;omega)]
 rfl
theorem requal_D (a b:Dt) (m:Nat) (hm:a.bulk≤m) (hm2:m<900000000000):ref01_Equal (m+4) a b=some (cmpD a b==0):=by
 rw[ref01_Equal,rcmp_D a b m hm hm2];rfl
theorem among_loop (m:Nat) (v:Dt) (L:List Dt) (hL:∀x∈L,x.bulk≤m) (hl:L.length<1000000000000) (hm2:m<900000000000):∀(M i:Nat),i≤L.length→L.length-i<M→ref14_among_l1 (m+4) M L (i:Int) v=some (amg v (L.drop i))
 |0,i,_,h=>by omega
 |M+1,i,hi,h=>by
  simp only[ref14_among_l1,dlt]
  by_cases hlt:i<L.length
  ·rw[dropC hlt,amg]
   simp only[hlt,decide_true,cond_true,ref14_among_j3,ref14_among_j2,ref14_among_j4,ref14_among_j0,idx_lt hlt,Option.bind_some,requal_D L[i] v m (hL _ (List.getElem_mem hlt)) hm2,wrapS (show i<9223372036854775807 by omega)]
   cases (cmpD L[i] v==0)
   ·exact among_loop m v L hL hl hm2 M (i+1) (by omega) (by omega)
   ·rfl
  ·rw[dropN hlt]
   simp only[hlt,decide_false,cond_false,ref14_among_j3,ref14_among_j2,ref14_among_j4,ref14_among_j0]
   rfl
theorem among_eq (m:Nat) (v:Dt) (L:List Dt) (hL:∀x∈L,x.bulk≤m) (hl:L.length≤m) (hm2:m<900000000000):ref14_among (m+5) L v=some (amg v L):=by
 have h:=among_loop m v L hL (by omega) hm2 (m+5) 0 (Nat.zero_le _) (by omega)
 rw[List.drop_zero] at h
 exact h
theorem has_loop (m:Nat) (f s:Dt) (hl:(Dt.L s 9).length<1000000000000):∀(M i:Nat),i≤(Dt.L s 9).length→(Dt.L s 9).length-i<M→ref14_has_l1 m M (Dt.S f 0) (i:Int) s=some (namB f ((Dt.L s 9).drop i))
 |0,i,_,h=>by omega
 |M+1,i,hi,h=>by
  simp only[ref14_has_l1,dlt]
  by_cases hlt:i<(Dt.L s 9).length
  ·rw[dropC hlt,namB]
   simp only[hlt,decide_true,cond_true,ref14_has_j3,ref14_has_j2,ref14_has_j4,ref14_has_j0,idx_lt hlt,Option.bind_some,wrapS (show i<9223372036854775807 by omega)]
   cases (ByteArray.toList (Dt.S (Dt.L s 9)[i] 0)==ByteArray.toList (Dt.S f 0))
   ·exact has_loop m f s hl M (i+1) (by omega) (by omega)
   ·rfl
  ·rw[dropN hlt]
   simp only[hlt,decide_false,cond_false,ref14_has_j3,ref14_has_j2,ref14_has_j4,ref14_has_j0]
   rfl
theorem rhas_eq (m:Nat) (f s:Dt) (hl:(Dt.L s 9).length≤m) (hm:m<1000000000000):ref14_has (m+1) s (Dt.S f 0)=some (namB f (Dt.L s 9)):=by
 have h:=has_loop m f s (by omega) (m+1) 0 (Nat.zero_le _) (by omega)
 rw[List.drop_zero] at h
 exact h
theorem prefix_loop (m:Nat) (p:List Dt) (hl:p.length<1000000000000):∀(M i:Nat),i≤p.length→p.length-i<M→ref04_prefix_l2 m M p p (i:Int)=some true
 |0,i,_,h=>by omega
 |M+1,i,hi,h=>by
  simp only[ref04_prefix_l2,dlt]
  by_cases hlt:i<p.length
  ·simp only[hlt,decide_true,cond_true,ref04_prefix_j4,ref04_prefix_j3,ref04_prefix_j5,ref04_prefix_j1,ref04_prefix_j0,idx_lt hlt,Option.bind_some,beq_self_eq_true,Bool.not_true,cond_false,wrapS (show i<9223372036854775807 by omega)]
   exact prefix_loop m p hl M (i+1) (by omega) (by omega)
  ·simp only[hlt,decide_false,cond_false,ref04_prefix_j4,ref04_prefix_j3,ref04_prefix_j5,ref04_prefix_j1,ref04_prefix_j0]
theorem rsame_refl (m:Nat) (p:List Dt) (hl:p.length≤m) (hm:m<1000000000000):ref04_Same (m+2) p p=some true:=by
 have d0:decide ((p.length:Int)<(p.length:Int))=false:=decide_eq_false (by omega)
 have h:=prefix_loop m p (by omega) (m+1) 0 (Nat.zero_le _) (by omega)
 have hp:ref04_prefix (m+1) p p=some true:=by
  simp only[ref04_prefix,d0,cond_false]
  exact h
 simp only[ref04_Same,beq_self_eq_true,cond_true,hp,Option.bind_some]
theorem samelist_loop (m:Nat) (hm:m<1000000000000) (l:List Dt) (hl:l.length<1000000000000) (hp:∀x∈l,(Dt.L x 0).length≤m):∀(M i:Nat),i≤l.length→l.length-i<M→ref14_SameList_l2 (m+2) M l l (i:Int)=some true
 |0,i,_,h=>by omega
 |M+1,i,hi,h=>by
  simp only[ref14_SameList_l2,dlt]
  by_cases hlt:i<l.length
  ·simp only[hlt,decide_true,cond_true,ref14_SameList_j5,ref14_SameList_j4,ref14_SameList_j3,ref14_SameList_j6,ref14_SameList_j1,ref14_SameList_j0,idx_lt hlt,Option.bind_some,bne_self_eq_false,rsame_refl m _ (hp _ (List.getElem_mem hlt)) hm,Bool.not_true,cond_false,wrapS (show i<9223372036854775807 by omega)]
   exact samelist_loop m hm l hl hp M (i+1) (by omega) (by omega)
  ·simp only[hlt,decide_false,cond_false,ref14_SameList_j5,ref14_SameList_j4,ref14_SameList_j3,ref14_SameList_j6,ref14_SameList_j1,ref14_SameList_j0]
theorem samelist_refl (m:Nat) (hm:m<1000000000000) (l:List Dt) (hl:l.length≤m) (hp:∀x∈l,(Dt.L x 0).length≤m):ref14_SameList (m+3) l l=some true:=by
 have h:=samelist_loop m hm l (by omega) hp (m+3) 0 (Nat.zero_le _) (by omega)
 simp only[ref14_SameList,bne_self_eq_false,cond_false]
 exact h
theorem rlen (m:Nat) (v:Dt):∃n,ref14_length (m+1) v=some (n,(lenP v).2)∧((lenP v).2=true→n=(lenP v).1):=by
 unfold lenP
 simp only[ref14_length,ref14_length_j0,schema_length,schema_length_j1,schema_length_j0]
 by_cases h6:Dt.I v 0=6
 ·have y6:(Dt.I v 0==6)=true:=by rw[h6];rfl
  have y4:(Dt.I v 0==4)=false:=by rw[h6];rfl
  have y7:(Dt.I v 0==7)=false:=by rw[h6];rfl
  simp only[y6,y4,y7,cond_true,cond_false]
  exact⟨_,rfl,fun _=>rfl⟩
 ·have y6:(Dt.I v 0==6)=false:=by rw[beq_eq_false_iff_ne];exact h6
  simp only[y6,cond_false]
  cases (Dt.I v 0==4)<;>cases (Dt.I v 0==7)
  ·exact⟨_,rfl,fun h=>by cases h⟩
  ·exact⟨_,rfl,fun _=>rfl⟩
  ·exact⟨_,rfl,fun _=>rfl⟩
  ·exact⟨_,rfl,fun _=>rfl⟩
end Go.Proofs.YtfneddmmeadacaaGreatDoor
namespace Go.Proofs.YtfneddmmeadacaaGreatDoor
open Go.Am
theorem vio0 (p:List Dt) (r:Int):vio p [] r=Dt.agg [Dt.lst p,Dt.int r]:=by rw[vio,List.append_nil]
theorem r_add {A:Type} {b:Bool} {l p:List Dt} {r:Int} {K:List Dt→Option A} (hl:l.length<137438953472):(bif b then((app l [(Dt.agg [(Dt.lst p),(Dt.int r)])]).bind fun v=>K v) else K l)=K (l++bif b then[vio p [] r] else[]):=by
 cases b
 ·simp only[cond_false,List.append_nil]
 ·simp only[cond_true]
  rw[app_le (by simp;omega),Option.bind_some,vio0]
theorem clos_no {s:Dt} {p:List Dt} (h:Dt.B s 10=false):∀L:List Dt,clos s p L=[]
 | []=>rfl
 |f::r=>by rw[clos,clos_no h r,h];rfl
theorem sgl_parts {s:Dt} (h:sgl s=0):0≤Dt.I s 0∧Dt.I s 0<4096∧Int.tmod (Dt.I s 0) 2≠1∧(Dt.L s 11).length≤1:=by
 unfold sgl rest1 at h
 have hb:badA s=false:=by
  cases hb:badA s
  ·rfl
  ·rw[hb] at h
   revert h
   cases difS nm [] ((Dt.L s 8).map Dt.toStr)<;>cases difS nm [] ((Dt.L s 9).map fun p=>Dt.S p 0)<;>simp
 unfold badA at hb
 simp only[Bool.or_eq_false_iff,decide_eq_false_iff_not,beq_eq_false_iff_ne] at hb
 obtain⟨⟨⟨⟨⟨h1,h2⟩,h3⟩,_⟩,_⟩,h6⟩:=hb
 exact⟨by omega,by omega,h2,by omega⟩
variable {s v:Dt} {p:List Dt}
theorem r_req (m:Nat) (h5:Dt.I v 0=5) (hm:v.bulk≤m) (hm2:m<900000000000) (hp:p.length<10000000000) (hL:(Dt.L s 8).length<100000000000):∀(M i:Nat),i≤(Dt.L s 8).length→(Dt.L s 8).length-i<M→∀l:List Dt,l.length+((Dt.L s 8).length-i)<137438953472→
  ref14_own_l11 (m+5) M p (i:Int) s v l=ref14_own_j14 (m+5) p s v (l++reqs v p ((Dt.L s 8).drop i))
 |0,i,_,h=>by omega
 |M+    1,i,hi,h=>by
  intro l hl
  simp only[ref14_own_l11,dlt]
  by_cases hlt:i<(Dt.L s 8).length
  ·rw[dropC hlt,reqs]
   have hg:ref01_Get (m+5) v (Dt.toStr (Dt.L s 8)[i])=some (fndP (Dt.toStr (Dt.L s 8)[i]) (Dt.L v 4)):=get_doc (m+3) v _ h5 (by omega) (by omega)
   have hst:ref14_step (m+5) p (Dt.toStr (Dt.L s 8)[i])=_:=step_eq (m+4) p _ (by omega)
   simp only[hlt,decide_true,cond_true,ref14_own_j12,ref14_own_j13,idx_lt hlt,Option.bind_some,hg,wrapS (show i<9223372036854775807 by omega)]
   cases hf:fnd (Dt.toStr (Dt.L s 8)[i]) (Dt.L v 4) with
   |    some y=>
        rw[fndP_some hf]
        simp only[Bool.not_true,cond_false,Option.isNone_some,List.nil_append]
        exact r_req m h5 hm hm2 hp hL M (i+1) (by omega) (by omega) l (by omega)
   |    none=>
        rw[fndP_none hf]
        simp only[Bool.not_false,cond_true,hst,Option.bind_some,Option.isNone_none]
        rw[app_le (by simp;omega)]
        simp only[Option.bind_some]
        rw[r_req m h5 hm hm2 hp hL M (i+1) (by omega) (by omega) _ (by simp only[List.length_append,List.length_cons,List.length_nil];omega),←List.append_assoc]
        rfl
  ·rw[dropN hlt]
   simp only[hlt,decide_false,cond_false,reqs,List.append_nil]
theorem r_clo (m:Nat) (hm:(Dt.L s 9).length≤m) (hm2:m<900000000000) (hp:p.length<10000000000) (hL:(Dt.L v 4).length<100000000000):∀(M i:Nat),i≤(Dt.L v 4).length→(Dt.L v 4).length-i<M→∀l:List Dt,l.length+((Dt.L v 4).length-i)<137438953472→
  ref14_own_l16 (m+5) M p (i:Int) s v l=ref14_own_j19 (m+5) p s v (l++clos s p ((Dt.L v 4).drop i))
 |0,i,_,h=>by omega
 |M+    1,i,hi,h=>by
  intro l hl
  simp only[ref14_own_l16,dlt]
  by_cases hlt:i<(Dt.L v 4).length
  ·cases hb:Dt.B s 10
   ·    rw[clos_no hb,List.append_nil]
        simp only[hlt,decide_true,cond_true,cond_false]
   ·    rw[dropC hlt,clos,hb]
        have hh:ref14_has (m+5) s (Dt.S (Dt.L v 4)[i] 0)=some (namB (Dt.L v 4)[i] (Dt.L s 9)):=rhas_eq (m+4) _ s (by omega) (by omega)
        have hst:ref14_step (m+5) p (Dt.S (Dt.L v 4)[i] 0)=_:=step_eq (m+4) p _ (by omega)
        simp only[hlt,decide_true,cond_true,ref14_own_j17,ref14_own_j18,idx_lt hlt,Option.bind_some,hh,Bool.true_and,hst,wrapS (show i<9223372036854775807 by omega)]
        cases namB (Dt.L v 4)[i] (Dt.L s 9)
        ·simp only[Bool.not_false,cond_true]
         rw[app_le (by simp;omega)]
         simp only[Option.bind_some]
         rw[r_clo m hm hm2 hp hL M (i+1) (by omega) (by omega) _ (by simp only[List.length_append,List.length_cons,List.length_nil];omega),←List.append_assoc]
         rfl
        ·simp only[Bool.not_true,cond_false,List.nil_append]
         exact r_clo m hm hm2 hp hL M (i+1) (by omega) (by omega) l (by omega)
  ·rw[dropN hlt]
   simp only[hlt,decide_false,cond_false,clos,List.append_nil]
theorem r_uni (m:Nat) (hm:v.bulk≤m) (hm2:m<900000000000) (l:List Dt):∀(M i:Nat) (tw:Bool),i≤(Dt.L v 3).length→(Dt.L v 3).length-i<M→
  ref14_own_l22 (m+5) M p tw (i:Int) v l=ref14_own_j25 (m+5) p (tw||twB ((Dt.L v 3).take i) ((Dt.L v 3).drop i)) l
 |0,i,_,_,h=>by omega
 |M+    1,i,tw,hi,h=>by
  have hn:=L_len v 3
  simp only[ref14_own_l22,dlt]
  by_cases hlt:i<(Dt.L v 3).length
  ·have hb:∀x∈(Dt.L v 3).take i,x.bulk≤m:=fun x hx=>by
        have:=L_mem (d:=v) (i:=3) (List.mem_of_mem_take hx)
        omega
   have ha:ref14_among (m+5) ((Dt.L v 3).take i) (Dt.L v 3)[i]=some (amg (Dt.L v 3)[i] ((Dt.L v 3).take i)):=among_eq m _ _ hb (by rw[List.length_take];omega) hm2
   have ht:(Dt.L v 3).take i++[(Dt.L v 3)[i]]=(Dt.L v 3).take (i+1):=by rw[List.take_succ_eq_append_getElem hlt]
   rw[dropC hlt,twB,ht]
   simp only[hlt,decide_true,cond_true,ref14_own_j23,ref14_own_j24,cutL_zero (show i≤(Dt.L v 3).length by omega),idx_lt hlt,Option.bind_some,ha,wrapS (show i<9223372036854775807 by omega)]
   cases tw
   ·    simp only[cond_false,Bool.false_or]
        exact r_uni m hm hm2 l M (i+1) _ (by omega) (by omega)
   ·    simp only[cond_true,Bool.true_or]
        rw[r_uni m hm hm2 l M (i+1) true (by omega) (by omega),Bool.true_or]
  ·rw[dropN hlt]
   simp only[hlt,decide_false,cond_false,twB,Bool.or_false]
noncomputable def owt (s v:Dt) (p:List Dt):List Dt:=bif Dt.I v 0==5 then reqs v p (Dt.L s 8)++clos s p (Dt.L v 4) else bif Dt.I v 0==6 then unis s v p else[]
theorem r_tail (m:Nat) (hm:v.bulk+s.bulk+10≤m) (hm2:m<800000000000) (hb:v.bulk+s.bulk<10000000000) (hp:p.length<10000000000) (l:List Dt) (hl:l.length+s.bulk+v.bulk<137438953472):ref14_own_j9 (m+5) p s v l=some (l++owt s v p):=by
 have l4:=L_len v 4
 have l8:=L_len s 8
 have l9:=L_len s 9
 have l3:=L_len v 3
 have j26:∀l:List Dt,ref14_own_j26 (m+5) l=some l:=fun l=>by simp only[ref14_own_j26]
 unfold owt
 by_cases h5:Dt.I v 0=5
 ·have y5:(Dt.I v 0==5)=true:=by rw[h5];rfl
  have n6:(Dt.I v 0==6)=false:=by rw[h5];rfl
  have a2:= @reqs_len v p (Dt.L s 8)
  have b1:=r_req (p:=p) (s:=s) m h5 (by omega) (by omega) hp (by omega) (m+6) 0 (Nat.zero_le _) (by omega) l (by omega)
  have b2:=r_clo (p:=p) (s:=s) (v:=v) m (by omega) (by omega) hp (by omega) (m+6) 0 (Nat.zero_le _) (by omega) (l++reqs v p (Dt.L s 8)) (by rw[List.length_append];omega)
  rw[List.drop_zero] at b1 b2
  simp only[ref14_own_j9,y5,cond_true]
  refine b1.trans (b2.trans ?_)
  simp only[ref14_own_j19,n6,cond_false,ref14_own_j20,j26,List.append_assoc]
 ·have y5:(Dt.I v 0==5)=false:=by rw[beq_eq_false_iff_ne];exact h5
  simp only[ref14_own_j9,y5,cond_false,ref14_own_j19]
  cases h6:(Dt.I v 0==6)
  ·simp only[cond_false,ref14_own_j20,j26,List.append_nil]
  ·simp only[cond_true,ref14_own_j20]
   unfold unis
   cases Dt.B s 12
   ·simp only[cond_false,j26,Bool.false_and,List.append_nil]
   ·    have b3:=r_uni (p:=p) (v:=v) m (by omega) (by omega) l (m+6) 0 false (Nat.zero_le _) (by omega)
        rw[List.take_zero,List.drop_zero,Bool.false_or,tw_rep] at b3
        simp only[cond_true,Bool.true_and]
        refine b3.trans ?_
        simp only[ref14_own_j25,j26]
        exact r_add (K:=fun l=>some l) (by omega)
theorem r_own (m:Nat) (hm:v.bulk+s.bulk+10≤m) (hm2:m<800000000000) (hb:v.bulk+s.bulk<10000000000) (hp:p.length<10000000000) (hs:sgl s=0):ref14_own (m+6) s v p=some (hd5 s v p++owt s v p):=by
 obtain⟨k0,k1,k2,_⟩:=sgl_parts hs
 have a:= @one_len (!hkB (Dt.I s 0) (Dt.I v 0)) (vio p [] 1)
 have b:= @one_len (decide (0<((Dt.L s 5).length:Int))&&!amg v (Dt.L s 5)) (vio p [] 2)
 have c:= @one_len (Dt.B s 1&&decide (cmpD v (Dt.fld s 2)<0)) (vio p [] 3)
 have d:= @one_len (Dt.B s 3&&decide (0<cmpD v (Dt.fld s 4))) (vio p [] 4)
 have e:= @one_len ((lenP v).2&&(decide ((lenP v).1<Dt.I s 6)||(decide (0≤Dt.I s 7)&&decide (Dt.I s 7<(lenP v).1)))) (vio p [] 5)
 have l5:=L_len s 5
 have q5:∀l:List Dt,l.length<10→ref14_own_j7 (m+5) p s v l=ref14_own_j9 (m+5) p s v (l++(bif ((lenP v).2&&(decide ((lenP v).1<Dt.I s 6)||(decide (0≤Dt.I s 7)&&decide (Dt.I s 7<(lenP v).1)))) then[vio p [] 5] else[])):=fun l hl=>by
  have j8:∀b,ref14_own_j8 (m+5) p b s v l=ref14_own_j9 (m+5) p s v (l++bif b then[vio p [] 5] else[]):=fun b=>r_add (K:=fun l=>ref14_own_j9 (m+5) p s v l) (by omega)
  obtain⟨n,hn,he⟩:=rlen (m+4) v
  have hn':ref14_length (m+5) v=_:=hn
  simp only[ref14_own_j7,hn',Option.bind_some,j8]
  cases hb2:(lenP v).2
  ·rfl
  ·rw[he hb2]
   cases decide ((lenP v).1<Dt.I s 6)<;>cases decide (0≤Dt.I s 7)<;>rfl
 have q4:∀l:List Dt,l.length<10→ref14_own_j5 (m+5) p s v l=ref14_own_j7 (m+5) p s v (l++(bif (Dt.B s 3&&decide (0<cmpD v (Dt.fld s 4))) then[vio p [] 4] else[])):=fun l hl=>by
  have j6:∀b,ref14_own_j6 (m+5) p b s v l=ref14_own_j7 (m+5) p s v (l++bif b then[vio p [] 4] else[]):=fun b=>r_add (K:=fun l=>ref14_own_j7 (m+5) p s v l) (by omega)
  have hc:ref01_Compare (m+5) v (Dt.fld s 4)=_:=rcmp_D v (Dt.fld s 4) (m+2) (by omega) (by omega)
  simp only[ref14_own_j5,hc,Option.bind_some,j6]
  cases Dt.B s 3<;>rfl
 have q3:∀l:List Dt,l.length<10→ref14_own_j3 (m+5) p s v l=ref14_own_j5 (m+5) p s v (l++(bif (Dt.B s 1&&decide (cmpD v (Dt.fld s 2)<0)) then[vio p [] 3] else[])):=fun l hl=>by
  have j4:∀b,ref14_own_j4 (m+5) p b s v l=ref14_own_j5 (m+5) p s v (l++bif b then[vio p [] 3] else[]):=fun b=>r_add (K:=fun l=>ref14_own_j5 (m+5) p s v l) (by omega)
  have hc:ref01_Compare (m+5) v (Dt.fld s 2)=_:=rcmp_D v (Dt.fld s 2) (m+2) (by omega) (by omega)
  simp only[ref14_own_j3,hc,Option.bind_some,j4]
  cases Dt.B s 1<;>rfl
 have q2:∀l:List Dt,l.length<10→ref14_own_j1 (m+5) p s v l=ref14_own_j3 (m+5) p s v (l++(bif (decide (0<((Dt.L s 5).length:Int))&&!amg v (Dt.L s 5)) then[vio p [] 2] else[])):=fun l hl=>by
  have j2:∀b,ref14_own_j2 (m+5) p b s v l=ref14_own_j3 (m+5) p s v (l++bif b then[vio p [] 2] else[]):=fun b=>r_add (K:=fun l=>ref14_own_j3 (m+5) p s v l) (by omega)
  have hc:ref14_among (m+5) (Dt.L s 5) v=some (amg v (Dt.L s 5)):=among_eq m v _ (fun x hx=>by have:=L_mem (d:=s) (i:=5) hx;omega) (by omega) (by omega)
  simp only[ref14_own_j1,hc,Option.bind_some,j2]
  cases decide (0<((Dt.L s 5).length:Int))<;>rfl
 have q1:∀b,ref14_own_j0 (m+5) p b s v []=ref14_own_j1 (m+5) p s v ([]++bif b then[vio p [] 1] else[]):=fun b=>r_add (K:=fun l=>ref14_own_j1 (m+5) p s v l) (by simp)
 have hk:=hk_eq (d:=Dt.I v 0) k0 k1 k2
 have q0:ref14_own (m+6) s v p=ref14_own_j0 (m+5) p (!hkB (Dt.I s 0) (Dt.I v 0)) s v []:=by
  rw[hk,ref14_own]
  cases (Dt.I s 0 !=0)
  ·rfl
  ·by_cases g1:Dt.I v 0<1
   ·rw[decide_eq_true g1];rfl
   ·    rw[decide_eq_false g1]
        by_cases g2:11<Dt.I v 0
        ·rw[decide_eq_true g2];rfl
        ·rw[decide_eq_false g2,decide_eq_true (show 0≤Dt.I v 0 by omega)];rfl
 have er:∀x y z w u t:List Dt,(x++(y++(z++(w++u))))++t=(((([]++x)++y)++z)++w)++u++t:=fun x y _ _ _ _=>by simp only[List.nil_append,List.append_assoc]
 unfold hd5
 rw[er,q0,q1,q2 _ (by simp only[List.length_append,List.length_nil];omega),q3 _ (by simp only[List.length_append,List.length_nil];omega),q4 _ (by simp only[List.length_append,List.length_nil];omega),q5 _ (by simp only[List.length_append,List.length_nil];omega)]
 exact r_tail m hm hm2 hb hp _ (by simp only[List.length_append,List.length_nil];omega)
end Go.Proofs.YtfneddmmeadacaaGreatDoor
