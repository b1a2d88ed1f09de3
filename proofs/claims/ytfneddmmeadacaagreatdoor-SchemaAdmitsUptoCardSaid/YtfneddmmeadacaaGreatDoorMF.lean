/- The violations of a schema: the parts of the walk.
The violations of a schema,exactly:what each part adds.
The violations of a schema,exactly:the walk's parts.
The violations of a schema,exactly:the whole walk. -/
import Derived.Test.YtfneddmmeadacaaGreatDoorMD
import Derived.Test.YtfneddmmeadacaaGreatDoorMCm
import Derived.Test.YtfneddmmeadacaaGreatDoorME
set_option linter.unusedVariables false
set_option linter.unusedSimpArgs false
namespace Go.Proofs.YtfneddmmeadacaaGreatDoor
open Go.Am Go.Am.Srt
theorem concat2 (m:Nat) (a b:List Dt) (h:a.length+b.length≤100000000000):slices_Concat (m+5) [.lst a,.lst b]=some (a++b):=by
 have w1:IntKind.wrap IntKind.i64 ((0:Int)+((a.length:Nat):Int))=((a.length:Nat):Int):=by rw[wrap64 (by omega) (by omega)];omega
 have w2:IntKind.wrap IntKind.i64 (((a.length:Nat):Int)+((b.length:Nat):Int))=((a.length+b.length:Nat):Int):=by rw[wrap64 (by omega) (by omega)];omega
 have w3:IntKind.wrap IntKind.i64 ((0:Int)+1)=1:=rfl
 have w4:IntKind.wrap IntKind.i64 ((1:Int)+1)=2:=rfl
 have n1:decide (((a.length:Nat):Int)<0)=false:=decide_eq_false (by omega)
 have n2:decide (((a.length+b.length:Nat):Int)<0)=false:=decide_eq_false (by omega)
 have x0:idx [Dt.lst a,Dt.lst b] 0=some (.lst a):=rfl
 have x1:idx [Dt.lst a,Dt.lst b] 1=some (.lst b):=rfl
 have ll:((List.length [Dt.lst a,Dt.lst b]:Nat):Int)=2:=rfl
 have g:slices_Grow ((a.length+b.length:Nat):Int)=some []:=by
  unfold slices_Grow
  rw[decide_eq_true (show (0:Int)≤((a.length+b.length:Nat):Int) by omega),decide_eq_true (show ((a.length+b.length:Nat):Int)≤1099511627776 by omega)];rfl
 have d0:decide ((0:Int)<2)=true:=rfl
 have d1:decide ((1:Int)<2)=true:=rfl
 have d2:decide ((2:Int)<2)=false:=rfl
 have t1:Dt.toLst (.lst a)=a:=rfl
 have t2:Dt.toLst (.lst b)=b:=rfl
 simp only[slices_Concat,slices_Concat_j3,slices_Concat_j2,slices_Concat_j8,slices_Concat_j7,slices_Concat_j9,slices_Concat_j5,slices_Concat_j4,slices_Concat_j0,slices_Concat_l1,slices_Concat_l6,ll,d0,d1,d2,cond_true,cond_false,x0,x1,Option.bind_some,t1,t2,w1,w2,w3,w4,n1,n2,g]
 rw[app_le (by simp;omega)]
 simp only[Option.bind_some,List.nil_append]
 rw[app_le (by omega)]
 rfl
def vio (p st:List Dt) (r:Int):Dt:= .agg [.lst (p++st),.int r]
theorem add_eq (m:Nat) (b:Bool) (r:Int) (st l p:List Dt) (hp:p.length+st.length≤100000000000) (hl:l.length<137438953472):i14 (m+6) b r st l p=some (p,l++bif b then[vio p st r] else[]):=by
 cases b
 ·simp only[i14,cond_false,List.append_nil]
 ·simp only[i14,cond_true,concat2 m p st hp,Option.bind_some]
  rw[app_le (by simp;omega)]
  rfl
theorem has_tot (m:Nat) (a b:Int):∃r,schema_hasKind (m+1) a b=some r:=by
 simp only[schema_hasKind]
 cases (a==0)
 ·cases h:decide ((0:Int)≤b)
  ·exact⟨_,rfl⟩
  ·simp only[cond_true,cond_false]
   cases decide (b≤11)<;>exact⟨_,rfl⟩
 ·exact⟨_,rfl⟩
theorem len_tot (m:Nat) (v:Dt):∃n b,schema_length (m+1) v=some (n,b):=by
 simp only[schema_length,schema_length_j1,schema_length_j0]
 cases (Dt.I v 0==4)<;>cases (Dt.I v 0==7)<;>cases (Dt.I v 0==6)<;>exact⟨_,_,rfl⟩
theorem equal_D (a b:Dt) (m:Nat) (hm:a.bulk≤m) (hm2:a.bulk<1000000000000):value_Equal (m+4) a b=some (cmpD a b==0):=by
 rw[value_Equal,vcmp_D a b m hm hm2];rfl
theorem enum_loop (m:Nat) (v:Dt) (L:List Dt) (hL:Dt.bulkL L≤m) (hm2:m<1000000000000):∀(M i:Nat),i≤L.length→L.length-i<M→∃r,i17_l1 (m+5) M L v (L.length:Int) (i:Int)=some r
 |0,i,_,h=>by omega
 |M+1,i,hi,h=>by
  have:=len_bulkA L
  simp only[i17_l1,dlt]
  by_cases hlt:i<L.length
  ·have hb:=bulk_memA (List.getElem_mem hlt)
   simp only[hlt,decide_true,cond_true,i17_j3,i17_j2,i17_j4,i17_j0,idx_lt hlt,Option.bind_some,i18,equal_D L[i] v m (by omega) (by omega),wrapS (show i<9223372036854775807 by omega)]
   cases (cmpD L[i] v==0)
   ·exact enum_loop m v L hL hm2 M (i+1) (by omega) (by omega)
   ·exact⟨_,rfl⟩
  ·simp only[hlt,decide_false,cond_false,i17_j3,i17_j2,i17_j4,i17_j0]
   exact⟨_,rfl⟩
theorem enum_tot (m:Nat) (v:Dt) (L:List Dt) (hL:Dt.bulkL L≤m) (hm2:m<1000000000000):∃b,i16 (m+7) L v=some b:=by
 have:=len_bulkA L
 obtain⟨r,h⟩:=enum_loop m v L hL hm2 (m+6) 0 (Nat.zero_le _) (by omega)
 have h':i17 (m+6) L v=some r:=h
 refine⟨decide (0≤r),?_⟩
 simp only[i16,h',Option.bind_some]
theorem field_loop (m:Nat) (x:ByteArray) (L:List Dt) (hl:L.length<9223372036854775807) (z:Dt):∀(M i:Nat),i≤L.length→L.length-i<M→(∃f∈L,schema_field_l1 m M x L (L.length:Int) (i:Int) z=some (Dt.fld f 1,true))∨schema_field_l1 m M x L (L.length:Int) (i:Int) z=some (kza2373,false)
 |0,i,_,h=>by omega
 |M+1,i,hi,h=>by
  simp only[schema_field_l1,dlt]
  by_cases hlt:i<L.length
  ·simp only[hlt,decide_true,cond_true,schema_field_j3,schema_field_j2,schema_field_j4,schema_field_j0,idx_lt hlt,Option.bind_some,wrapS (show i<9223372036854775807 by omega)]
   cases (ByteArray.toList (Dt.S L[i] 0)==ByteArray.toList x)
   ·exact field_loop m x L hl z M (i+1) (by omega) (by omega)
   ·exact .inl ⟨_,List.getElem_mem hlt,rfl⟩
  ·simp only[hlt,decide_false,cond_false,schema_field_j3,schema_field_j2,schema_field_j4,schema_field_j0]
   exact .inr trivial
theorem field_tot (m:Nat) (v:Dt) (x:ByteArray) (hm:v.bulk≤m) (hm2:m<9223372036854775807):(∃f∈Dt.L v 4,schema_field (m+1) v x=some (Dt.fld f 1,true))∨schema_field (m+1) v x=some (kza2373,false):=by
 have:=L_len v 4
 exact field_loop m x (Dt.L v 4) (by omega) kza2373 (m+1) 0 (Nat.zero_le _) (by omega)
theorem rep_loop (m:Nat) (L:List Dt) (hL:∀e∈L,e.bulk≤m) (hm2:m<1000000000000) (hl:L.length<1000000000000):∀(M i:Nat),1≤i→L.length+1-i<M→∃b,schema_repeats_l1 (m+4) M (i:Int) L=some b
 |0,i,_,h=>by omega
 |M+1,i,hi,h=>by
  simp only[schema_repeats_l1,dlt]
  by_cases hlt:i<L.length
  ·have w:IntKind.wrap IntKind.i64 ((i:Int)-1)=((i-1:Nat):Int):=by rw[wrap64 (by omega) (by omega)];omega
   have h1:i-1<L.length:=by omega
   have a1:inL L ((i-1:Nat):Int)=some ():=by unfold inL;rw[if_pos (by omega)]
   have a2:inL L (i:Int)=some ():=by unfold inL;rw[if_pos (by omega)]
   have b1:L[i-1]? =some L[i-1]:=by simp[h1]
   have b2:L[i]? =some L[i]:=by simp[hlt]
   simp only[hlt,decide_true,cond_true,schema_repeats_j3,schema_repeats_j2,schema_repeats_j4,schema_repeats_j0,w,a1,a2,Int.toNat_natCast,b1,b2,Option.bind_some,equal_D L[i-1] L[i] m (hL _ (List.getElem_mem h1)) (by have:=hL _ (List.getElem_mem h1);omega),wrapS (show i<9223372036854775807 by omega)]
   cases (cmpD L[i-1] L[i]==0)
   ·exact rep_loop m L hL hm2 hl M (i+1) (by omega) (by omega)
   ·exact⟨_,rfl⟩
  ·simp only[hlt,decide_false,cond_false,schema_repeats_j3,schema_repeats_j2,schema_repeats_j4,schema_repeats_j0]
   exact⟨_,rfl⟩
theorem rep_tot (L:List Dt) (hL:Dt.bulkL L≤1048576) (m:Nat) (hm:3000000000≤m) (hm2:m<900000000000):∃b,schema_repeats (m+5) L=some b:=by
 have hn:=len_bulkA L
 have hc:slices_Clone L=some L:=by
  unfold slices_Clone
  rw[show Nat.ble L.length 137438953472=true from(by rw[Nat.ble_eq];omega)];rfl
 have hs:=stable_eq tpoD (P:=fun x:Dt=>x.bulk≤1048576) (m0:=1048579) (fun m hm x y hx _=>by
  obtain⟨q,rfl⟩:∃q,m=q+3:=⟨m-3,by omega⟩
  exact vcmp_D x y q (by omega) (by omega)) (m+2) 1000000000 (by omega) (by omega) (by omega) L (by omega) (fun x hx=>by have:=bulk_memA hx;omega)
 have hs':i38 (m+4) L=some (isort (ltc cmpD) L):=hs
 obtain⟨b,hb⟩:=rep_loop m (isort (ltc cmpD) L) (fun e he=>by have:=bulk_memA (mem_isort.1 he);omega) (by omega) (by rw[isort_len];omega) (m+5) 1 (by omega) (by rw[isort_len];omega)
 refine⟨b,?_⟩
 have hb':schema_repeats_l1 (m+4) (m+5) 1 (isort (ltc cmpD) L)=some b:=hb
 simp only[schema_repeats,hc,hs',Option.bind_some,schema_repeats_j3,schema_repeats_j2,schema_repeats_j4,schema_repeats_j0]
 exact hb'
end Go.Proofs.YtfneddmmeadacaaGreatDoor
namespace Go.Proofs.YtfneddmmeadacaaGreatDoor
open Go.Am Go.Am.Srt
noncomputable def hkB (k d:Int):Bool:=(schema_hasKind 1 k d).getD false
noncomputable def lenP (v:Dt):Int×Bool:=(schema_length 1 v).getD (0,false)
noncomputable def itoaB (i:Nat):ByteArray:=(strconv_Itoa (i:Int)).getD ByteArray.empty
def fnd (x:ByteArray):List Dt→Option Dt
 | []=>none
 |f::r=>bif ByteArray.toList (Dt.S f 0)==ByteArray.toList x then some (Dt.fld f 1) else fnd x r
def amg (v:Dt):List Dt→Bool
 | []=>false
 |x::r=>(cmpD x v==0)||amg v r
def namB (f:Dt):List Dt→Bool
 | []=>false
 |q::r=>(ByteArray.toList (Dt.S q 0)==ByteArray.toList (Dt.S f 0))||namB f r
def adjB:List Dt→Bool
 | []=>false
 | [_]=>false
 |a::b::r=>(cmpD a b==0)||adjB (b::r)
def repB (L:List Dt):Bool:=adjB (isort (ltc cmpD) L)
theorem has_eq (m:Nat) (a b:Int):schema_hasKind (m+1) a b=some (hkB a b):=by
 obtain⟨r,h⟩:=has_tot m a b
 have h1:schema_hasKind (0+1) a b=some r:=by
  rw[←h]
  simp only[schema_hasKind]
 rw[h,hkB,h1];rfl
theorem len_eq (m:Nat) (v:Dt):schema_length (m+1) v=some ((lenP v).1,(lenP v).2):=by
 obtain⟨n,b,h⟩:=len_tot m v
 have h1:schema_length (0+1) v=some (n,b):=by
  rw[←h]
  simp only[schema_length,schema_length_j1,schema_length_j0]
 rw[h,lenP,h1];rfl
theorem itoa_get (i:Nat) (h:i<9223372036854775807):strconv_Itoa (i:Int)=some (itoaB i):=by
 have e:∃st,strconv_Itoa (i:Int)=some st:=by
  unfold strconv_Itoa
  rw[decide_eq_true (show (-9223372036854775808:Int)≤(i:Int) by omega),decide_eq_true (show (i:Int)≤9223372036854775807 by omega)]
  exact⟨_,rfl⟩
 obtain⟨st,h⟩:=e
 rw[itoaB,h];rfl
theorem dropC {A:Type} {L:List A} {i:Nat} (h:i<L.length):L.drop i=L[i]::L.drop (i+1):=List.drop_eq_getElem_cons h
theorem dropN {A:Type} {L:List A} {i:Nat} (h:¬i<L.length):L.drop i=[]:=List.drop_eq_nil_of_le (by omega)
theorem enum_eqL (m:Nat) (v:Dt) (L:List Dt) (hL:Dt.bulkL L≤m) (hm2:m<1000000000000):∀(M i:Nat),i≤L.length→L.length-i<M→∃r,i17_l1 (m+5) M L v (L.length:Int) (i:Int)=some r∧decide (0≤r)=amg v (L.drop i)
 |0,i,_,h=>by omega
 |M+1,i,hi,h=>by
  have:=len_bulkA L
  simp only[i17_l1,dlt]
  by_cases hlt:i<L.length
  ·have hb:=bulk_memA (List.getElem_mem hlt)
   rw[dropC hlt,amg]
   simp only[hlt,decide_true,cond_true,i17_j3,i17_j2,i17_j4,i17_j0,idx_lt hlt,Option.bind_some,i18,equal_D L[i] v m (by omega) (by omega),wrapS (show i<9223372036854775807 by omega)]
   cases (cmpD L[i] v==0)
   ·exact enum_eqL m v L hL hm2 M (i+1) (by omega) (by omega)
   ·exact⟨_,rfl,by rw[Bool.true_or,decide_eq_true];omega⟩
  ·rw[dropN hlt]
   simp only[hlt,decide_false,cond_false,i17_j3,i17_j2,i17_j4,i17_j0]
   exact⟨_,rfl,rfl⟩
theorem enum_eq (m:Nat) (v:Dt) (L:List Dt) (hL:Dt.bulkL L≤m) (hm2:m<1000000000000):i16 (m+7) L v=some (amg v L):=by
 have:=len_bulkA L
 obtain⟨r,h,e⟩:=enum_eqL m v L hL hm2 (m+6) 0 (Nat.zero_le _) (by omega)
 have h':i17 (m+6) L v=some r:=h
 rw[List.drop_zero] at e
 simp only[i16,h',Option.bind_some,e]
theorem named_eqL (m:Nat) (f:Dt) (L:List Dt) (hl:L.length<1000000000000):∀(M i:Nat),i≤L.length→L.length-i<M→∃r,i24_l1 (m+1) M L f (L.length:Int) (i:Int)=some r∧decide (0≤r)=namB f (L.drop i)
 |0,i,_,h=>by omega
 |M+1,i,hi,h=>by
  simp only[i24_l1,dlt]
  by_cases hlt:i<L.length
  ·rw[dropC hlt,namB]
   simp only[hlt,decide_true,cond_true,i24_j3,i24_j2,i24_j4,i24_j0,idx_lt hlt,Option.bind_some,i25,wrapS (show i<9223372036854775807 by omega)]
   cases (ByteArray.toList (Dt.S L[i] 0)==ByteArray.toList (Dt.S f 0))
   ·exact named_eqL m f L hl M (i+1) (by omega) (by omega)
   ·exact⟨_,rfl,by rw[Bool.true_or,decide_eq_true];omega⟩
  ·rw[dropN hlt]
   simp only[hlt,decide_false,cond_false,i24_j3,i24_j2,i24_j4,i24_j0]
   exact⟨_,rfl,rfl⟩
theorem named_eq (m:Nat) (f:Dt) (L:List Dt) (hm:L.length≤m) (hl:L.length<1000000000000):i23 (m+3) L f=some (namB f L):=by
 obtain⟨r,h,e⟩:=named_eqL m f L hl (m+2) 0 (Nat.zero_le _) (by omega)
 have h':i24 (m+2) L f=some r:=h
 rw[List.drop_zero] at e
 simp only[i23,h',Option.bind_some,e]
noncomputable def fndP (x:ByteArray) (L:List Dt):Dt×Bool:=match fnd x L with
 |some y=>(y,true)
 |none=>(kza2373,false)
theorem field_eqL (m:Nat) (x:ByteArray) (L:List Dt) (hl:L.length<9223372036854775807) (z:Dt):∀(M i:Nat),i≤L.length→L.length-i<M→schema_field_l1 m M x L (L.length:Int) (i:Int) z=some (fndP x (L.drop i))
 |0,i,_,h=>by omega
 |M+1,i,hi,h=>by
  simp only[schema_field_l1,dlt]
  by_cases hlt:i<L.length
  ·rw[dropC hlt,fndP,fnd]
   simp only[hlt,decide_true,cond_true,schema_field_j3,schema_field_j2,schema_field_j4,schema_field_j0,idx_lt hlt,Option.bind_some,wrapS (show i<9223372036854775807 by omega)]
   cases (ByteArray.toList (Dt.S L[i] 0)==ByteArray.toList x)
   ·exact field_eqL m x L hl z M (i+1) (by omega) (by omega)
   ·rfl
  ·rw[dropN hlt]
   simp only[hlt,decide_false,cond_false,schema_field_j3,schema_field_j2,schema_field_j4,schema_field_j0]
   rfl
theorem field_eq (m:Nat) (v:Dt) (x:ByteArray) (hm:v.bulk≤m) (hm2:m<9223372036854775807):schema_field (m+1) v x=some (fndP x (Dt.L v 4)):=by
 have:=L_len v 4
 have h:=field_eqL m x (Dt.L v 4) (by omega) kza2373 (m+1) 0 (Nat.zero_le _) (by omega)
 rw[List.drop_zero] at h
 exact h
theorem rep_eqL (m:Nat) (L:List Dt) (hL:∀e∈L,e.bulk≤m) (hm2:m<1000000000000) (hl:L.length<1000000000000):∀(M i:Nat),1≤i→L.length+1-i<M→schema_repeats_l1 (m+4) M (i:Int) L=some (adjB (L.drop (i-1)))
 |0,i,_,h=>by omega
 |M+    1,i,hi,h=>by
  simp only[schema_repeats_l1,dlt]
  by_cases hlt:i<L.length
  ·have w:IntKind.wrap IntKind.i64 ((i:Int)-1)=((i-1:Nat):Int):=by rw[wrap64 (by omega) (by omega)];omega
   have h1:i-1<L.length:=by omega
   have a1:inL L ((i-1:Nat):Int)=some ():=by unfold inL;rw[if_pos (by omega)]
   have a2:inL L (i:Int)=some ():=by unfold inL;rw[if_pos (by omega)]
   have b1:L[i-1]? =some L[i-1]:=by simp[h1]
   have b2:L[i]? =some L[i]:=by simp[hlt]
   have d1:L.drop (i-1)=L[i-1]::L[i]::L.drop (i+1):=by
        rw[dropC h1,show i-1+1=i by omega,dropC hlt]
   have ih:=rep_eqL m L hL hm2 hl M (i+1) (by omega) (by omega)
   rw[show i+1-1=i by omega,dropC hlt] at ih
   rw[d1,adjB]
   simp only[hlt,decide_true,cond_true,schema_repeats_j3,schema_repeats_j2,schema_repeats_j4,schema_repeats_j0,w,a1,a2,Int.toNat_natCast,b1,b2,Option.bind_some,equal_D L[i-1] L[i] m (hL _ (List.getElem_mem h1)) (by have:=hL _ (List.getElem_mem h1);omega),wrapS (show i<9223372036854775807 by omega)]
   cases (cmpD L[i-1] L[i]==0)
   ·exact ih
   ·rfl
  ·simp only[hlt,decide_false,cond_false,schema_repeats_j3,schema_repeats_j2,schema_repeats_j4,schema_repeats_j0]
   have hs:(L.drop (i-1)).length≤1:=by rw[List.length_drop];omega
   generalize L.drop (i-1)=X at hs
   match X,hs with
   | [],_=>rfl
   | [_],_=>rfl
theorem rep_eq (L:List Dt) (hL:Dt.bulkL L≤1048576) (m:Nat) (hm:3000000000≤m) (hm2:m<900000000000):schema_repeats (m+5) L=some (repB L):=by
 have hn:=len_bulkA L
 have hc:slices_Clone L=some L:=by
  unfold slices_Clone
  rw[show Nat.ble L.length 137438953472=true from(by rw[Nat.ble_eq];omega)];rfl
 have hs:=stable_eq tpoD (P:=fun x:Dt=>x.bulk≤1048576) (m0:=1048579) (fun m hm x y hx _=>by
  obtain⟨q,rfl⟩:∃q,m=q+3:=⟨m-3,by omega⟩
  exact vcmp_D x y q (by omega) (by omega)) (m+2) 1000000000 (by omega) (by omega) (by omega) L (by omega) (fun x hx=>by have:=bulk_memA hx;omega)
 have hs':i38 (m+4) L=some (isort (ltc cmpD) L):=hs
 have hb:=rep_eqL m (isort (ltc cmpD) L) (fun e he=>by have:=bulk_memA (mem_isort.1 he);omega) (by omega) (by rw[isort_len];omega) (m+5) 1 (by omega) (by rw[isort_len];omega)
 have hb':schema_repeats_l1 (m+4) (m+5) 1 (isort (ltc cmpD) L)=some (repB L):=hb
 simp only[schema_repeats,hc,hs',Option.bind_some,schema_repeats_j3,schema_repeats_j2,schema_repeats_j4,schema_repeats_j0]
 exact hb'
noncomputable def hd5 (s v:Dt) (p:List Dt):List Dt:=
 (bif !hkB (Dt.I s 0) (Dt.I v 0) then[vio p [] 1] else[])++((bif (decide (0<((Dt.L s 5).length:Int))&&!amg v (Dt.L s 5)) then[vio p [] 2] else[])++((bif (Dt.B s 1&&decide (cmpD v (Dt.fld s 2)<0)) then[vio p [] 3] else[])++((bif (Dt.B s 3&&decide (0<cmpD v (Dt.fld s 4))) then[vio p [] 4] else[])++(bif ((lenP v).2&&(decide ((lenP v).1<Dt.I s 6)||(decide (0≤Dt.I s 7)&&decide (Dt.I s 7<(lenP v).1)))) then[vio p [] 5] else[]))))
noncomputable def reqs (v:Dt) (p:List Dt):List Dt→List Dt
 | []=>[]
 |n::r=>(bif (fnd (Dt.toStr n) (Dt.L v 4)).isNone then[vio p [Dt.str (Dt.toStr n)] 6] else[])++reqs v p r
def clos (s:Dt) (p:List Dt):List Dt→List Dt
 | []=>[]
 |f::r=>(bif Dt.B s 10&&!namB f (Dt.L s 9) then[vio p [Dt.str (Dt.S f 0)] 7] else[])++clos s p r
def unis (s v:Dt) (p:List Dt):List Dt:=bif Dt.B s 12&&repB (Dt.L v 3) then[vio p [] 8] else[]
noncomputable def prps (vl:Dt→Dt→List Dt→List Dt) (v:Dt) (p:List Dt):List Dt→List Dt
 | []=>[]
 |q::r=>(match fnd (Dt.S q 0) (Dt.L v 4) with
  |some x=>vl (Dt.fld q 1) x (p++[Dt.str (Dt.S q 0)])
  |none=>[])++prps vl v p r
noncomputable def elms (vl:Dt→Dt→List Dt→List Dt) (c:Dt) (p:List Dt):Nat→List Dt→List Dt
 |_,[]=>[]
 |i,e::r=>vl c e (p++[Dt.str (itoaB i)])++elms vl c p (i+1) r
noncomputable def itms (vl:Dt→Dt→List Dt→List Dt) (v:Dt) (p:List Dt):List Dt→List Dt
 | []=>[]
 |c::r=>elms vl c p 0 (Dt.L v 3)++itms vl v p r
noncomputable def vl:Nat→Dt→Dt→List Dt→List Dt
 |0,_,_,_=>[]
 |n+1,s,v,p=>hd5 s v p++(bif Dt.I v 0==5 then reqs v p (Dt.L s 8)++(clos s p (Dt.L v 4)++prps (vl n) v p (Dt.L s 9)) else bif Dt.I v 0==6 then unis s v p++itms (vl n) v p (Dt.L s 11) else[])
theorem one_len {c:Bool} {x:Dt}:(bif c then[x] else[]).length≤1:=by cases c<;>simp
theorem hd5_len {s v:Dt} {p:List Dt}:(hd5 s v p).length≤5:=by
 unfold hd5
 simp only[List.length_append]
 have a:= @one_len (!hkB (Dt.I s 0) (Dt.I v 0)) (vio p [] 1)
 have b:= @one_len (decide (0<((Dt.L s 5).length:Int))&&!amg v (Dt.L s 5)) (vio p [] 2)
 have c:= @one_len (Dt.B s 1&&decide (cmpD v (Dt.fld s 2)<0)) (vio p [] 3)
 have d:= @one_len (Dt.B s 3&&decide (0<cmpD v (Dt.fld s 4))) (vio p [] 4)
 have e:= @one_len ((lenP v).2&&(decide ((lenP v).1<Dt.I s 6)||(decide (0≤Dt.I s 7)&&decide (Dt.I s 7<(lenP v).1)))) (vio p [] 5)
 omega
theorem reqs_len {v:Dt} {p:List Dt}:∀L:List Dt,(reqs v p L).length≤L.length
 | []=>Nat.le_refl _
 |n::r=>by
  have a:= @one_len (fnd (Dt.toStr n) (Dt.L v 4)).isNone (vio p [Dt.str (Dt.toStr n)] 6)
  have:= @reqs_len v p r
  simp only[reqs,List.length_append,List.length_cons]
  omega
theorem clos_len {s:Dt} {p:List Dt}:∀L:List Dt,(clos s p L).length≤L.length
 | []=>Nat.le_refl _
 |f::r=>by
  have a:= @one_len (Dt.B s 10&&!namB f (Dt.L s 9)) (vio p [Dt.str (Dt.S f 0)] 7)
  have:= @clos_len s p r
  simp only[clos,List.length_append,List.length_cons]
  omega
end Go.Proofs.YtfneddmmeadacaaGreatDoor
namespace Go.Proofs.YtfneddmmeadacaaGreatDoor
open Go.Am
def HVx (self:Dt→Dt→List Dt→List Dt→Option (List Dt)) (w:Dt→Dt→List Dt→List Dt) (c:Dt):Prop:=
 ∀(x:Dt) (p l:List Dt),WV x→x.bulk≤1048576→p.length+c.bulk≤10000000→3*l.length+c.bulk*x.bulk≤412316860416→self c x p l=some (l++w c x p)∧3*(w c x p).length≤c.bulk*x.bulk
theorem bulk_drop {L:List Dt} {i:Nat} (h:i<L.length):Dt.bulkL (L.drop i)=L[i].bulk+Dt.bulkL (L.drop (i+1)):=by rw[List.drop_eq_getElem_cons h];rfl
theorem wv6 {v:Dt} (h:WV v):6≤v.bulk:=by
 cases h with
 |mk hl hd=>simp only[Dt.bulk,Dt.bulkL];omega
variable {self:Dt→Dt→List Dt→List Dt→Option (List Dt)} {w:Dt→Dt→List Dt→List Dt} {s v:Dt} {p:List Dt}
theorem fnd_mem {x:ByteArray} {y:Dt}:∀{L:List Dt},fnd x L=some y→∃f∈L,y=Dt.fld f 1
 | [],h=>by cases h
 |f::r,h=>by
  rw[fnd] at h
  cases hb:(ByteArray.toList (Dt.S f 0)==ByteArray.toList x)
  ·rw[hb] at h
   obtain⟨g,hg,e⟩:=fnd_mem (L:=r) h
   exact⟨g,List.mem_cons_of_mem _ hg,e⟩
  ·rw[hb] at h
   exact⟨f,List.mem_cons_self ..,(Option.some.inj h).symm⟩
theorem fndP_some {x:ByteArray} {L:List Dt} {y:Dt} (h:fnd x L=some y):fndP x L=(y,true):=by rw[fndP,h]
theorem fndP_none {x:ByteArray} {L:List Dt} (h:fnd x L=none):fndP x L=(kza2373,false):=by rw[fndP,h]
theorem vx_head (m:Nat) (hm:v.bulk+s.bulk+10≤m) (hm2:m<1000000000000) (hv:v.bulk+s.bulk<100000000000) (hp:p.length≤10000000000) (l:List Dt) (hl:l.length+5≤137438953472):i12 (m+7) s v p l=i12_j3 (m+6) (i12 (m+6)) (l++hd5 s v p) s v p:=by
 have h0':schema_hasKind (m+6) (Dt.I s 0) (Dt.I v 0)=some (hkB (Dt.I s 0) (Dt.I v 0)):=has_eq (m+5) _ _
 have hL:=L_bulk s 5
 have he:=enum_eq (m-1) v (Dt.L s 5) (by omega) (by omega)
 have he':i16 (m+6) (Dt.L s 5) v=some (amg v (Dt.L s 5)):=by rw[show m-1+7=m+6 by omega] at he;exact he
 have hn':schema_length (m+6) v=some ((lenP v).1,(lenP v).2):=len_eq (m+5) v
 have q2:∀l:List Dt,l.length<137438953472→i12_j2 (m+6) (i12 (m+6)) l s v p=i12_j3 (m+6) (i12 (m+6)) (l++(bif ((lenP v).2&&(decide ((lenP v).1<Dt.I s 6)||(decide (0≤Dt.I s 7)&&decide (Dt.I s 7<(lenP v).1)))) then[vio p [] 5] else[])) s v p:=fun l hl=>by
  simp only[i12_j2,hn',Option.bind_some,fun(c:Bool) (r:Int)=>add_eq m c r [] l p (by simp;omega) hl]
  cases (lenP v).2<;>cases decide ((lenP v).1<Dt.I s 6)<;>cases decide (0≤Dt.I s 7)<;>rfl
 have q1:∀l:List Dt,l.length<137438953472→i12_j1 (m+6) (i12 (m+6)) l s v p=i12_j2 (m+6) (i12 (m+6)) (l++(bif (Dt.B s 3&&decide (0<cmpD v (Dt.fld s 4))) then[vio p [] 4] else[])) s v p:=fun l hl=>by
  have hc':value_Compare (m+6) v (Dt.fld s 4)=_:=vcmp_D v (Dt.fld s 4) (m+3) (by omega) (by omega)
  simp only[i12_j1,hc',Option.bind_some,fun(c:Bool) (r:Int)=>add_eq m c r [] l p (by simp;omega) hl]
  cases Dt.B s 3<;>rfl
 have q0:∀l:List Dt,l.length<137438953472→i12_j0 (m+6) (i12 (m+6)) l s v p=i12_j1 (m+6) (i12 (m+6)) (l++(bif (Dt.B s 1&&decide (cmpD v (Dt.fld s 2)<0)) then[vio p [] 3] else[])) s v p:=fun l hl=>by
  have hc':value_Compare (m+6) v (Dt.fld s 2)=_:=vcmp_D v (Dt.fld s 2) (m+3) (by omega) (by omega)
  simp only[i12_j0,hc',Option.bind_some,fun(c:Bool) (r:Int)=>add_eq m c r [] l p (by simp;omega) hl]
  cases Dt.B s 1<;>rfl
 have a:= @one_len (!hkB (Dt.I s 0) (Dt.I v 0)) (vio p [] 1)
 have b:= @one_len (decide (0<((Dt.L s 5).length:Int))&&!amg v (Dt.L s 5)) (vio p [] 2)
 have c:= @one_len (Dt.B s 1&&decide (cmpD v (Dt.fld s 2)<0)) (vio p [] 3)
 have d:= @one_len (Dt.B s 3&&decide (0<cmpD v (Dt.fld s 4))) (vio p [] 4)
 unfold hd5
 rw[i12]
 simp only[h0',Option.bind_some]
 rw[add_eq m (!hkB (Dt.I s 0) (Dt.I v 0)) 1 [] l p (by simp;omega) (by omega)]
 simp only[Option.bind_some]
 have er:∀x y z w u:List Dt,l++(x++(y++(z++(w++u))))=(((l++x++y)++z)++w)++u:=fun x y _ _ _=>by simp only[List.append_assoc]
 rw[er]
 have hl1:(l++bif !hkB (Dt.I s 0) (Dt.I v 0) then[vio p [] 1] else[]).length+4≤137438953472:=by rw[List.length_append];omega
 generalize (l++bif !hkB (Dt.I s 0) (Dt.I v 0) then[vio p [] 1] else[])=l1 at hl1 ⊢
 have k:(bif decide (0<((Dt.L s 5).length:Int)) then((i16 (m+6) (Dt.L s 5) v).bind fun r2=>(i14 (m+6) (!r2) 2 [] l1 p).bind fun r3=>i12_j0 (m+6) (i12 (m+6)) r3.2 s v r3.1) else(i14 (m+6) false 2 [] l1 p).bind fun r34=>i12_j0 (m+6) (i12 (m+6)) r34.2 s v r34.1)=i12_j0 (m+6) (i12 (m+6)) (l1++(bif (decide (0<((Dt.L s 5).length:Int))&&!amg v (Dt.L s 5)) then[vio p [] 2] else[])) s v p:=by
  rw[he']
  simp only[Option.bind_some,fun(c:Bool) (r:Int)=>add_eq m c r [] l1 p (by simp;omega) (by omega)]
  cases decide (0<((Dt.L s 5).length:Int))
  ·simp only[cond_false,Bool.false_and]
  ·simp only[cond_true,Bool.true_and]
 refine k.trans ?_
 rw[q0 _ (by rw[List.length_append];omega),q1 _ (by simp only[List.length_append];omega),q2 _ (by simp only[List.length_append];omega)]
theorem vx_req (m:Nat) (hm:v.bulk+10≤m) (hm2:m<1000000000000) (hp:p.length≤10000000000) (L:List Dt) (hl:L.length<1000000000000):∀(M i:Nat),i≤L.length→L.length-i<M→
  ∀l:List Dt,l.length+(L.length-i)≤137438953472→i12_l5 (m+6) self M L (L.length:Int) (i:Int) l s v p=i12_j8 (m+6) self (l++reqs v p (L.drop i)) s v p
 |0,i,_,h=>by omega
 |M+    1,i,hi,h=>by
  intro l hl'
  by_cases hlt:i<L.length
  ·have hr:schema_field (m+6) v (Dt.toStr L[i])=some (fndP (Dt.toStr L[i]) (Dt.L v 4)):=field_eq (m+5) v _ (by omega) (by omega)
   have hb:(!(fndP (Dt.toStr L[i]) (Dt.L v 4)).2)=(fnd (Dt.toStr L[i]) (Dt.L v 4)).isNone:=by
        unfold fndP
        cases fnd (Dt.toStr L[i]) (Dt.L v 4)<;>rfl
   have a:= @one_len (fnd (Dt.toStr L[i]) (Dt.L v 4)).isNone (vio p [Dt.str (Dt.toStr L[i])] 6)
   rw[dropC hlt,reqs]
   simp only[i12_l5,dlt,hlt,decide_true,cond_true,i12_j6,i12_j7,idx_lt hlt,hr,Option.bind_some,wrapS (show i<9223372036854775807 by omega),hb]
   rw[add_eq m _ 6 _ l p (by simp;omega) (by omega)]
   simp only[Option.bind_some]
   rw[vx_req m hm hm2 hp L hl M (i+1) (by omega) (by omega) _ (by simp only[List.length_append];omega),List.append_assoc]
  ·rw[dropN hlt]
   simp only[i12_l5,dlt,hlt,decide_false,cond_false,reqs,List.append_nil]
theorem vx_uni (m:Nat) (hm:3000000010≤m) (hm2:m<800000000000) (hv:v.bulk≤1048576) (hp:p.length≤10000000000) (l:List Dt) (hl:l.length<137438953472):i12_j18 (m+6) self l s v p=bif Dt.I v 0==6 then i12_j19 (m+6) self (l++unis s v p) s v p else some l:=by
 have hL:=L_bulk v 3
 have hb':schema_repeats (m+6) (Dt.L v 3)=some (repB (Dt.L v 3)):=rep_eq (Dt.L v 3) (by omega) (m+1) (by omega) (by omega)
 simp only[i12_j18,i12_j28,unis,hb',Option.bind_some,fun(c:Bool) (r:Int)=>add_eq m c r [] l p (by simp;omega) hl]
 cases Dt.B s 12<;>rfl
theorem vx_clo (m:Nat) (hm:(Dt.L s 9).length+10≤m) (hm2:m<900000000000) (hp:p.length≤10000000000) (L:List Dt) (hl:L.length<1000000000000):∀(M i:Nat),i≤L.length→L.length-i<M→
  ∀l:List Dt,l.length+(L.length-i)≤137438953472→i12_l10 (m+6) self M L (L.length:Int) (i:Int) l s v p=i12_j13 (m+6) self (l++clos s p (L.drop i)) s v p
 |0,i,_,h=>by omega
 |M+1,i,hi,h=>by
  intro l hl'
  by_cases hlt:i<L.length
  ·have hb':i23 (m+6) (Dt.L s 9) L[i]=some (namB L[i] (Dt.L s 9)):=named_eq (m+3) L[i] (Dt.L s 9) (by omega) (by omega)
   have a:= @one_len (Dt.B s 10&&!namB L[i] (Dt.L s 9)) (vio p [Dt.str (Dt.S L[i] 0)] 7)
   rw[dropC hlt,clos]
   simp only[i12_l10,dlt,hlt,decide_true,cond_true,i12_j11,i12_j12,idx_lt hlt,hb',Option.bind_some,wrapS (show i<9223372036854775807 by omega)]
   simp only[fun(c:Bool) (r:Int)=>add_eq m c r [Dt.str (Dt.S L[i] 0)] l p (by simp;omega) (by omega),Option.bind_some]
   have k4:=vx_clo m hm hm2 hp L hl M (i+1) (by omega) (by omega) (l++bif Dt.B s 10&&!namB L[i] (Dt.L s 9) then[vio p [Dt.str (Dt.S L[i] 0)] 7] else[]) (by simp only[List.length_append];omega)
   rw[←List.append_assoc,←k4]
   cases Dt.B s 10<;>rfl
  ·rw[dropN hlt]
   simp only[i12_l10,dlt,hlt,decide_false,cond_false,clos,List.append_nil]
theorem vx_props (m:Nat) (hm:v.bulk+10≤m) (hm2:m<1000000000000) (hw:WV v) (hv:v.bulk≤1048576) (L:List Dt) (hp:p.length+Dt.bulkL L<10000000) (hs:∀q∈L,HVx self w (Dt.fld q 1)):∀(M i:Nat),i≤L.length→L.length-i<M→∀l:List Dt,3*l.length+Dt.bulkL (L.drop i)*v.bulk≤412316860416→
  3*(prps w v p (L.drop i)).length≤Dt.bulkL (L.drop i)*v.bulk∧i12_l15 (m+6) self M L (L.length:Int) (i:Int) l s v p=i12_j18 (m+6) self (l++prps w v p (L.drop i)) s v p
 |0,i,_,h=>by omega
 |M+    1,i,hi,h=>by
  intro l hl
  have hn:=len_bulkA L
  obtain⟨_,_,_,p4⟩:=wv_parts hw
  by_cases hlt:i<L.length
  ·have hq:=bulk_memA (List.getElem_mem hlt)
   have hc:=fld_bulk L[i] 1
   rw[bulk_drop hlt,Nat.add_mul] at hl ⊢
   rw[dropC hlt,prps]
   have he':schema_field (m+6) v (Dt.S L[i] 0)=some (fndP (Dt.S L[i] 0) (Dt.L v 4)):=field_eq (m+5) v (Dt.S L[i] 0) (by omega) (by omega)
   cases hf:fnd (Dt.S L[i] 0) (Dt.L v 4) with
   |    some y=>
        dsimp only
        rw[fndP_some hf] at he'
        obtain⟨f,hfm,rfl⟩:=fnd_mem hf
        have hx:=p4 f hfm
        have hmul:(Dt.fld L[i] 1).bulk*(Dt.fld f 1).bulk≤L[i].bulk*v.bulk:=Nat.mul_le_mul hc (by omega)
        obtain⟨k1,k2⟩:=hs _ (List.getElem_mem hlt) (Dt.fld f 1) (p++[Dt.str (Dt.S L[i] 0)]) l hx.1 (by omega) (by simp;omega) (by omega)
        obtain⟨g1,g2⟩:=vx_props m hm hm2 hw hv L hp hs M (i+1) (by omega) (by omega) (l++w (Dt.fld L[i] 1) (Dt.fld f 1) (p++[Dt.str (Dt.S L[i] 0)])) (by rw[List.length_append];omega)
        refine⟨by rw[List.length_append];omega,?_⟩
        simp only[i12_l15,dlt,hlt,decide_true,cond_true,i12_j16,i12_j17,idx_lt hlt,he',Option.bind_some,wrapS (show i<9223372036854775807 by omega)]
        rw[concat2 (m+1) p [Dt.str (Dt.S L[i] 0)] (by simp;omega)]
        simp only[Option.bind_some]
        rw[k1]
        simp only[Option.bind_some]
        rw[g2,List.append_assoc]
   |    none=>
        dsimp only
        rw[fndP_none hf] at he'
        obtain⟨g1,g2⟩:=vx_props m hm hm2 hw hv L hp hs M (i+1) (by omega) (by omega) l (by omega)
        refine⟨by rw[List.nil_append];omega,?_⟩
        simp only[i12_l15,dlt,hlt,decide_true,cond_true,i12_j16,i12_j17,idx_lt hlt,he',Option.bind_some,cond_false,wrapS (show i<9223372036854775807 by omega),List.nil_append]
        exact g2
  ·rw[dropN hlt]
   refine⟨by simp[prps],?_⟩
   simp only[i12_l15,dlt,hlt,decide_false,cond_false,prps,List.append_nil]
theorem vx_elems (m:Nat) (hm2:m<1000000000000) (hw:WV v) (hv:v.bulk≤1048576) (c:Dt) (hp:p.length+1+c.bulk≤10000000) (hs:HVx self w c) (rec1:List Dt→Int→Int→List Dt→Dt→List Dt→Option (List Dt)) (X:List Dt) (x1:Int) (j:Nat) (hj:j<1000000000000):∀(M i:Nat),i≤(Dt.L v 3).length→(Dt.L v 3).length-i<M→∀l:List Dt,3*l.length+c.bulk*Dt.bulkL ((Dt.L v 3).drop i)≤412316860416→
  3*(elms w c p i ((Dt.L v 3).drop i)).length≤c.bulk*Dt.bulkL ((Dt.L v 3).drop i)∧i12_l24 (m+6) self rec1 M X x1 (j:Int) (Dt.L v 3) ((Dt.L v 3).length:Int) (i:Int) l v p c=rec1 X x1 ((j+1:Nat):Int) (l++elms w c p i ((Dt.L v 3).drop i)) v p
 |0,i,_,h=>by omega
 |M+1,i,hi,h=>by
  intro l hl
  obtain⟨_,_,p3,_⟩:=wv_parts hw
  have hn:=L_len v 3
  by_cases hlt:i<(Dt.L v 3).length
  ·rw[bulk_drop hlt,Nat.mul_add] at hl ⊢
   rw[dropC hlt,elms]
   have hx:=p3 _ (List.getElem_mem hlt)
   have hst:=itoa_get i (by omega)
   obtain⟨k1,k2⟩:=hs (Dt.L v 3)[i] (p++[Dt.str (itoaB i)]) l hx.1 (by omega) (by simp;omega) (by omega)
   obtain⟨g1,g2⟩:=vx_elems m hm2 hw hv c hp hs rec1 X x1 j hj M (i+1) (by omega) (by omega) (l++w c (Dt.L v 3)[i] (p++[Dt.str (itoaB i)])) (by rw[List.length_append];omega)
   refine⟨by rw[List.length_append];omega,?_⟩
   simp only[i12_l24,dlt,hlt,decide_true,cond_true,i12_j25,i12_j26,idx_lt hlt,hst,Option.bind_some,wrapS (show i<9223372036854775807 by omega)]
   rw[concat2 (m+1) p [Dt.str (itoaB i)] (by simp;omega)]
   simp only[Option.bind_some]
   rw[k1]
   simp only[Option.bind_some]
   rw[g2,List.append_assoc]
  ·rw[dropN hlt]
   refine⟨by simp[elms],?_⟩
   simp only[i12_l24,dlt,hlt,decide_false,cond_false,elms,List.append_nil,i12_j27,wrapS (show j<9223372036854775807 by omega)]
theorem vx_items (m:Nat) (hm:v.bulk+10≤m) (hm2:m<1000000000000) (hw:WV v) (hv:v.bulk≤1048576) (L:List Dt) (hp:p.length+1+Dt.bulkL L≤10000000) (hs:∀c∈L,HVx self w c):∀(M i:Nat),i≤L.length→L.length-i<M→∀l:List Dt,3*l.length+Dt.bulkL (L.drop i)*v.bulk≤412316860416→
  3*(itms w v p (L.drop i)).length≤Dt.bulkL (L.drop i)*v.bulk∧i12_l21 (m+6) self M L (L.length:Int) (i:Int) l v p=some (l++itms w v p (L.drop i))
 |0,i,_,h=>by omega
 |M+1,i,hi,h=>by
  intro l hl
  have hn:=len_bulkA L
  have h3:=L_len v 3
  have hb3:=L_bulk v 3
  by_cases hlt:i<L.length
  ·have hq:=bulk_memA (List.getElem_mem hlt)
   rw[bulk_drop hlt,Nat.add_mul] at hl ⊢
   rw[dropC hlt,itms]
   have hmul:L[i].bulk*Dt.bulkL ((Dt.L v 3).drop 0)≤L[i].bulk*v.bulk:=Nat.mul_le_mul (Nat.le_refl _) (by rw[List.drop_zero];omega)
   obtain⟨k1,k2⟩:=vx_elems (self:=self) (w:=w) m hm2 hw hv L[i] (p:=p) (by omega) (hs _ (List.getElem_mem hlt)) (i12_l21 (m+6) self M) L (L.length:Int) i (by omega) (m+7) 0 (Nat.zero_le _) (by omega) l (by omega)
   rw[List.drop_zero] at k1 k2 hmul
   obtain⟨g1,g2⟩:=vx_items m hm hm2 hw hv L hp hs M (i+1) (by omega) (by omega) (l++elms w L[i] p 0 (Dt.L v 3)) (by rw[List.length_append];omega)
   refine⟨by rw[List.length_append];omega,?_⟩
   simp only[i12_l21,dlt,hlt,decide_true,cond_true,i12_j22,i12_j23,idx_lt hlt,Option.bind_some]
   refine k2.trans ?_
   rw[g2,List.append_assoc]
  ·rw[dropN hlt]
   refine⟨by simp[itms],?_⟩
   simp only[i12_l21,dlt,hlt,decide_false,cond_false,itms,List.append_nil,i12_j28]
end Go.Proofs.YtfneddmmeadacaaGreatDoor
namespace Go.Proofs.YtfneddmmeadacaaGreatDoor
open Go.Am
inductive BS:Dt→Prop where
 |mk {d:Dt} (h:14+Dt.bulkL (Dt.L d 8)+Dt.bulkL (Dt.L d 9)+Dt.bulkL (Dt.L d 11)≤d.bulk) (h9:∀p∈Dt.L d 9,BS (Dt.fld p 1)) (h11:∀e∈Dt.L d 11,BS e):BS d
theorem list13 {A:Type} {l:List A} (h:l.length=13):∃a b c d e f g i j k m n o,l=[a,b,c,d,e,f,g,i,j,k,m,n,o]:=by
 match l,h with
 | [a,b,c,d,e,f,g,i,j,k,m,n,o],_=>exact⟨a,b,c,d,e,f,g,i,j,k,m,n,o,rfl⟩
theorem toLst_bulk (d:Dt):Dt.bulkL (Dt.toLst d)+1≤d.bulk:=by
 cases d<;>simp only[Dt.toLst,Dt.bulkL,Dt.bulk]<;>omega
theorem bs_bulk {d:Dt} (h:∃ds,d= .agg ds∧ds.length=13):14+Dt.bulkL (Dt.L d 8)+Dt.bulkL (Dt.L d 9)+Dt.bulkL (Dt.L d 11)≤d.bulk:=by
 obtain⟨ds,rfl,hl⟩:=h
 obtain⟨a,b,c,d,e,f,g,i,j,k,m,n,o,rfl⟩:=list13 hl
 have h8:Dt.L (.agg [a,b,c,d,e,f,g,i,j,k,m,n,o]) 8=Dt.toLst j:=rfl
 have h9:Dt.L (.agg [a,b,c,d,e,f,g,i,j,k,m,n,o]) 9=Dt.toLst k:=rfl
 have h11:Dt.L (.agg [a,b,c,d,e,f,g,i,j,k,m,n,o]) 11=Dt.toLst n:=rfl
 rw[h8,h9,h11]
 have:=toLst_bulk j
 have:=toLst_bulk k
 have:=toLst_bulk n
 have:=bulk_posA a
 have:=bulk_posA b
 have:=bulk_posA c
 have:=bulk_posA d
 have:=bulk_posA e
 have:=bulk_posA f
 have:=bulk_posA g
 have:=bulk_posA i
 have:=bulk_posA m
 have:=bulk_posA o
 simp only[Dt.bulk,Dt.bulkL]
 omega
theorem bs_of:∀(N:Nat) (d:Dt),d.bulk≤N→HasTy Tryz.prog 32 d→BS d
 |0,d,h,_=>by have:=bulk_posA d;omega
 |N+1,d,h,ht=>by
  have hs:=(ty_agg Tryz.underlying32 ht).2
  have hg:=(ty_agg Tryz.underlying32 ht).1
  have t9:HasTy Tryz.prog 29 (Dt.fld d 9):=hs 9 _ rfl
  have t11:HasTy Tryz.prog 30 (Dt.fld d 11):=hs 11 _ rfl
  refine .mk (bs_bulk hg) (fun p hp=>?_) fun e he=>?_
  ·have tp:=(ty_lst Tryz.underlying29 t9).2.2 p hp
   have tq:HasTy Tryz.prog 32 (Dt.fld p 1):=(ty_agg Tryz.underlying64 tp).2 1 _ rfl
   have h1:=L_mem (d:=d) (i:=9) hp
   have h2:=fld_bulk p 1
   exact bs_of N _ (by omega) tq
  ·have tp:=(ty_lst Tryz.underlying30 t11).2.2 e he
   have h1:=L_mem (d:=d) (i:=11) he
   exact bs_of N _ (by omega) tp
theorem vx_one {s v:Dt} {p:List Dt} {N:Nat} (m:Nat) (hm:3000000010+v.bulk+s.bulk≤m) (hm2:m<800000000000) (hw:WV v) (hv:v.bulk≤1048576) (hb:14+Dt.bulkL (Dt.L s 8)+Dt.bulkL (Dt.L s 9)+Dt.bulkL (Dt.L s 11)≤s.bulk) (hp:p.length+s.bulk≤10000000)
  (h9:∀q∈Dt.L s 9,HVx (i12 (m+6)) (vl N) (Dt.fld q 1)) (h11:∀c∈Dt.L s 11,HVx (i12 (m+6)) (vl N) c) (l:List Dt) (hl:3*l.length+s.bulk*v.bulk≤412316860416):
  i12 (m+7) s v p l=some (l++vl (N+1) s v p)∧3*(vl (N+1) s v p).length≤s.bulk*v.bulk:=by
 have w6:=wv6 hw
 have l4:=L_len v 4
 have l8:=len_bulkA (Dt.L s 8)
 have n8:=L_len s 8
 have l9:=L_len s 9
 have b9:=L_bulk s 9
 have n11:=L_len s 11
 have b11:=L_bulk s 11
 have a1:= @hd5_len s v p
 have a2:= @reqs_len v p (Dt.L s 8)
 have a3:= @clos_len s p (Dt.L v 4)
 have hmul:(14+Dt.bulkL (Dt.L s 8)+Dt.bulkL (Dt.L s 9)+Dt.bulkL (Dt.L s 11))*v.bulk≤s.bulk*v.bulk:=Nat.mul_le_mul hb (Nat.le_refl _)
 rw[Nat.add_mul,Nat.add_mul,Nat.add_mul] at hmul
 have hmul2:Dt.bulkL (Dt.L s 8)*3≤Dt.bulkL (Dt.L s 8)*v.bulk:=Nat.mul_le_mul (Nat.le_refl _) (by omega)
 rw[vx_head m (by omega) (by omega) (by omega) (by omega) l (by omega)]
 simp only[i12_j3,vl]
 by_cases h5:Dt.I v 0=5
 ·have y5:(Dt.I v 0==5)=true:=by rw[h5];rfl
  have n6:(Dt.I v 0==6)=false:=by rw[h5];rfl
  simp only[y5,cond_true]
  have b1:=vx_req (self:=i12 (m+6)) (s:=s) (v:=v) (p:=p) m (by omega) (by omega) (by omega) (Dt.L s 8) (by omega) (m+7) 0 (Nat.zero_le _) (by omega) (l++hd5 s v p) (by rw[List.length_append];omega)
  have b2:=vx_clo (self:=i12 (m+6)) (s:=s) (v:=v) (p:=p) m (by omega) (by omega) (by omega) (Dt.L v 4) (by omega) (m+7) 0 (Nat.zero_le _) (by omega) (l++hd5 s v p++reqs v p (Dt.L s 8)) (by simp only[List.length_append];omega)
  obtain⟨g1,g2⟩:=vx_props (s:=s) m (by omega) (by omega) hw hv (Dt.L s 9) (p:=p) (by omega) h9 (m+7) 0 (Nat.zero_le _) (by omega) (l++hd5 s v p++reqs v p (Dt.L s 8)++clos s p (Dt.L v 4)) (by rw[List.drop_zero];simp only[List.length_append];omega)
  rw[List.drop_zero] at b1 b2 g1 g2
  refine⟨b1.trans (b2.trans (g2.trans ?_)),by simp only[List.length_append];omega⟩
  simp only[i12_j18,n6,cond_false,i12_j28,List.append_assoc]
 ·have y5:(Dt.I v 0==5)=false:=by rw[beq_eq_false_iff_ne];exact h5
  simp only[y5,cond_false]
  rw[vx_uni m (by omega) hm2 hv (by omega) _ (by rw[List.length_append];omega)]
  by_cases h6:Dt.I v 0=6
  ·have y6:(Dt.I v 0==6)=true:=by rw[h6];rfl
   have u1:(unis s v p).length≤1:=one_len
   obtain⟨c1,c2⟩:=vx_items (w:=vl N) m (by omega) (by omega) hw hv (Dt.L s 11) (p:=p) (by omega) h11 (m+7) 0 (Nat.zero_le _) (by omega) (l++hd5 s v p++unis s v p) (by rw[List.drop_zero];simp only[List.length_append];omega)
   rw[List.drop_zero] at c1 c2
   simp only[y6,cond_true]
   refine⟨c2.trans ?_,by simp only[List.length_append];omega⟩
   simp only[List.append_assoc]
  ·have y6:(Dt.I v 0==6)=false:=by rw[beq_eq_false_iff_ne];exact h6
   simp only[y6,cond_false,List.append_nil]
   exact⟨trivial,by omega⟩
theorem vl_eq:∀(N:Nat) (s:Dt),s.bulk≤N→N≤1048576→BS s→∀m,3010000000+N≤m→m<700000000000→HVx (i12 (m+7)) (vl N) s
 |0,s,h,_,_,_,_,_=>by have:=bulk_posA s;omega
 |N+    1,s,h,hN,hb,m,hm,hm2=>by
  cases hb with
  |mk hb h9 h11=>
   have ih:∀c:Dt,BS c→c.bulk≤N→HVx (i12 (m+6)) (vl N) c:=fun c hc hbc=>by
        have:=vl_eq N c hbc (by omega) hc (m-1) (by omega) (by omega)
        rw[show m-1+7=m+6 by omega] at this
        exact this
   intro x p l hx hbx hp hl
   exact vx_one (s:=s) (v:=x) (p:=p) m (by omega) (by omega) hx hbx hb hp (fun q hq=>ih _ (h9 q hq) (by have:=L_mem (d:=s) (i:=9) hq;have:=fld_bulk q 1;omega)) (fun c hc=>ih _ (h11 c hc) (by have:=L_mem (d:=s) (i:=11) hc;omega)) l hl
theorem prod_le {a b:Nat} (h:a+b≤1048576):a*b≤412316860416:=by
 by_cases c:a≤393216
 ·have:=Nat.mul_le_mul c (show b≤1048576 by omega)
  omega
 ·by_cases c2:b≤393216
  ·have:=Nat.mul_le_mul (show a≤1048576 by omega) c2
   omega
  ·by_cases c3:a≤524288
   ·    have:=Nat.mul_le_mul c3 (show b≤655360 by omega)
        omega
   ·    have:=Nat.mul_le_mul (show a≤655360 by omega) (show b≤524288 by omega)
        omega
theorem vl_root {s v:Dt} (hb:BS s) (hw:WV v) (hbk:s.bulk+v.bulk≤1048576) (m:Nat) (hm:3020000000≤m) (hm2:m<700000000000):i12 (m+7) s v [] []=some (vl s.bulk s v [])∧3*(vl s.bulk s v []).length≤412316860416:=by
 have hp:=prod_le hbk
 obtain⟨k1,k2⟩:=vl_eq s.bulk s (Nat.le_refl _) (by omega) hb m (by omega) hm2 v [] [] hw (by omega) (by simp;omega) (by simpa using hp)
 exact⟨k1,by omega⟩
end Go.Proofs.YtfneddmmeadacaaGreatDoor
