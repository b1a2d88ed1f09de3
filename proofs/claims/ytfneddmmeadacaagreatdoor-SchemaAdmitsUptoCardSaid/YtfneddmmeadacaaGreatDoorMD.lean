/- Schemas: the first error; the program and the reference agree.
Schemas:the first error of a tree;the program and the reference agree.
Schemas:counting them ends.
Counting values ends. -/
import Derived.Test.YtfneddmmeadacaaGreatDoorMC
import Derived.Test.YtfneddmmeadacaaGreatDoorMA
set_option linter.unusedVariables false
set_option linter.unusedSimpArgs false
namespace Go.Proofs.YtfneddmmeadacaaGreatDoor
open Go.Am
inductive WS:Dt→Prop where
 |mk {d:Dt} (h0: -9223372036854775808≤Dt.I d 0∧Dt.I d 0≤9223372036854775807) (h2:WV (Dt.fld d 2)) (h4:WV (Dt.fld d 4)) (h5:∀e∈Dt.L d 5,WV e) (h9:∀p∈Dt.L d 9,WS (Dt.fld p 1)) (h11:∀e∈Dt.L d 11,WS e):WS d
theorem ws_of:∀(N:Nat) (d:Dt),d.bulk≤N→HasTy Tryz.prog 32 d→WS d
 |0,d,h,_=>by have:=bulk_pos d;omega
 |N+1,d,h,ht=>by
  have hs:=(ty_agg Tryz.underlying32 ht).2
  have t0:HasTy Tryz.prog 3 (Dt.fld d 0):=hs 0 _ rfl
  have t2:HasTy Tryz.prog 25 (Dt.fld d 2):=hs 2 _ rfl
  have t4:HasTy Tryz.prog 25 (Dt.fld d 4):=hs 4 _ rfl
  have t5:HasTy Tryz.prog 22 (Dt.fld d 5):=hs 5 _ rfl
  have t9:HasTy Tryz.prog 29 (Dt.fld d 9):=hs 9 _ rfl
  have t11:HasTy Tryz.prog 30 (Dt.fld d 11):=hs 11 _ rfl
  have r0:=(ty_int Tryz.underlying3 t0).2
  simp only[IntKind.min,IntKind.max,IntKind.signed,IntKind.bits] at r0
  refine .mk ⟨by have:=r0.1;simp at this;exact this,by have:=r0.2;simp at this;show (Dt.fld d 0).toInt≤_;omega⟩ (wv_of t2) (wv_of t4) (fun e he=>wv_of ((ty_lst Tryz.underlying22 t5).2.2 e he)) (fun p hp=>?_) fun e he=>?_
  ·have tp:=(ty_lst Tryz.underlying29 t9).2.2 p hp
   have tq:HasTy Tryz.prog 32 (Dt.fld p 1):=(ty_agg Tryz.underlying64 tp).2 1 _ rfl
   have h1:=L_mem (d:=d) (i:=9) hp
   have h2:=fld_bulk p 1
   exact ws_of N _ (by omega) tq
  ·have tp:=(ty_lst Tryz.underlying30 t11).2.2 e he
   have h1:=L_mem (d:=d) (i:=11) he
   exact ws_of N _ (by omega) tp
theorem bic_zero (a:BitVec 64):(a&&& ~~~(4094#64))=0#64↔a.toNat<4096∧a.toNat%2=0:=by
 have key:(a&&& ~~~(4094#64))=0#64↔∀i,i<64→a.getLsbD i=true→(4094#64).getLsbD i=true:=by
  rw[BitVec.eq_of_getLsbD_eq_iff]
  refine⟨fun h i hi ha=>?_,fun h i hi=>?_⟩
  ·have:=h i hi
   simp only[BitVec.getLsbD_and,BitVec.getLsbD_not,BitVec.getLsbD_zero,hi,decide_true,Bool.true_and,ha] at this
   simpa using this
  ·simp only[BitVec.getLsbD_and,BitVec.getLsbD_not,BitVec.getLsbD_zero,hi,decide_true,Bool.true_and]
   cases ha:a.getLsbD i
   ·rfl
   ·rw[h i hi ha];rfl
 rw[key]
 have hm:∀i,i<64→(4094#64).getLsbD i=(decide (1≤i)&&decide (i<12)):=by decide
 refine⟨fun h=>⟨?_,?_⟩,fun⟨h1,h2⟩ i hi ha=>?_⟩
 ·refine Nat.lt_pow_two_of_testBit (n:=12) _ fun i hi=>?_
  rcases Nat.lt_or_ge i 64 with h64|h64
  ·cases ha:a.toNat.testBit i
   ·rfl
   ·    have:=h i h64 (by rw[BitVec.getLsbD];exact ha)
        rw[hm i h64] at this
        simp at this;omega
  ·exact Nat.testBit_lt_two_pow (Nat.lt_of_lt_of_le a.isLt (Nat.pow_le_pow_right (by omega) h64))
 ·cases ha:a.toNat.testBit 0
  ·rw[Nat.testBit_zero] at ha;simp at ha;omega
  ·have:=h 0 (by omega) (by rw[BitVec.getLsbD];exact ha)
   rw[hm 0 (by omega)] at this
   simp at this
 ·rw[   hm i hi]
  rw[BitVec.getLsbD] at ha
  have g1:1≤i:=by
   rcases Nat.eq_zero_or_pos i with rfl|h0
   ·rw[Nat.testBit_zero] at ha;simp at ha;omega
   ·exact h0
  have g2:i<12:=by
   rcases Nat.lt_or_ge i 12 with g|g
   ·exact g
   ·    have:=Nat.testBit_lt_two_pow (Nat.lt_of_lt_of_le h1 (show 4096≤2^i from Nat.pow_le_pow_right (n:=2) (i:=12) (by omega) g))
        rw[this] at ha;cases ha
  simp[g1,g2]
theorem bic_eq (k:Int) (h1: -9223372036854775808≤k) (h2:k≤9223372036854775807):(bicI .i64 k 4094 !=0)=(decide (k<0)||Int.tmod k 2==1||decide (4096≤k)):=by
 have hb:BitVec.ofInt 64 (4094:Int)=4094#64:=by decide
 have hz:=bic_zero (BitVec.ofInt 64 k)
 have hn:(BitVec.ofInt 64 k).toNat=(k%18446744073709551616).toNat:=by simp[BitVec.toNat_ofInt]
 have hw:∀x:BitVec 64,(IntKind.wrap .i64 (x.toNat:Int)=0)↔x=0#64:=fun x=>by
  have hx:=x.isLt
  rw[←BitVec.toNat_inj]
  unfold IntKind.wrap
  simp only[IntKind.bits,IntKind.signed,Bool.true_and,Nat.add_one_sub_one]
  split<;>rename_i h<;>simp only[ge_iff_le,decide_eq_true_eq] at h<;>simp<;>omega
 have e:(bicI .i64 k 4094=0)↔(0≤k∧k<4096∧k%2=0):=by
  unfold bicI
  show (IntKind.wrap .i64 (((BitVec.ofInt 64 k&&& ~~~(BitVec.ofInt 64 4094)).toNat:Nat):Int)=0)↔_
  rw[hb,hw,hz,hn]
  omega
 rw[Bool.eq_iff_iff]
 simp only[bne_iff_ne,ne_eq,e,Bool.or_eq_true,decide_eq_true_eq,beq_iff_eq]
 by_cases h0:k<0
 ·simp[h0];omega
 ·have:Int.tmod k 2=k%2:=Int.tmod_eq_emod_of_nonneg (by omega)
  rw[this]
  omega
def zeroB (v:Dt):Bool:=Dt.I v 0==0&&Dt.I v 1==0&&(Dt.S v 2).toList==[]&&((Dt.L v 3).length:Int)==0&&((Dt.L v 4).length:Int)==0
def bndB (has:Bool) (v:Dt):Bool:=bif has then okV v else zeroB v
def badA (s:Dt):Bool:=(decide (Dt.I s 0<0)||Int.tmod (Dt.I s 0) 2==1||decide (4096≤Dt.I s 0))||decide (Dt.I s 6<0)||decide (Dt.I s 7< -1)||decide ((1:Int)<((Dt.L s 11).length:Int))
def rest8 (s:Dt):Int:=bif bndB (Dt.B s 1) (Dt.fld s 2)&&bndB (Dt.B s 3) (Dt.fld s 4)&&(Dt.L s 5).all okV then 0 else 8
def rest1 (s:Dt):Int:=bif badA s then 1 else rest8 s
def sgl (s:Dt):Int:=bif difS nm [] ((Dt.L s 8).map Dt.toStr)&&difS nm [] ((Dt.L s 9).map fun p=>Dt.S p 0) then rest1 s else 9
theorem bound_eq (has:Bool) {v:Dt} (hw:WV v) (m:Nat) (hm:3*v.bulk+300≤m) (hb:v.bulk≤100000000000):schema_bound (m+4) has v=some (bndB has v):=by
 simp only[schema_bound,vValid_eq hw m hm hb,Option.bind_some,bndB,zeroB,schema_bound_j0]
 cases has
 ·simp only[cond_false]
  cases (Dt.I v 0==0)<;>cases (Dt.I v 1==0)<;>cases ((Dt.S v 2).toList==[])<;>cases (((Dt.L v 3).length:Int)==0)<;>rfl
 ·rfl
theorem same_zero (m:Nat) (v:Dt):ref01_Same (m+2) v kza2373=some (zeroB v):=by
 have e0:Dt.I kza2373 0=0:=rfl
 have e1:Dt.I kza2373 1=0:=rfl
 have e2:(Dt.S kza2373 2).toList=[]:=by rw[ByteArray.toList_eq];rfl
 have e3:Dt.L kza2373 3=[]:=rfl
 have e4:Dt.L kza2373 4=[]:=rfl
 rw[ref01_Same,e0,e1,e2,e3,e4]
 simp only[zeroB,bne,List.length_nil]
 cases h0:(Dt.I v 0==0)
 ·rfl
 cases h1:(Dt.I v 1==0)
 ·rfl
 cases h2:((Dt.S v 2).toList==[])
 ·rfl
 cases h3:(((Dt.L v 3).length:Int)==0)
 ·rfl
 cases h4:(((Dt.L v 4).length:Int)==0)
 ·rfl
 ·have l3:((Dt.L v 3).length:Int)=0:=by simpa using h3
  have l4:((Dt.L v 4).length:Int)=0:=by simpa using h4
  simp only[Bool.not_true,cond_false,ref01_Same_j5,ref01_Same_j4,ref01_Same_j11,ref01_Same_j10,ref01_Same_j9,ref01_Same_j12,ref01_Same_j7,ref01_Same_j6,ref01_Same_j2,ref01_Same_j1,ref01_Same_j0,ref01_Same_l3,ref01_Same_l8,l3,l4,Int.lt_irrefl,decide_false,Bool.and_self]
theorem unused_eq (has:Bool) {v:Dt} (hw:WV v) (m:Nat) (hm:2*v.bulk+300≤m) (hm2:m<9223372036854775000) (hb:v.bulk≤100000000000):ref14_unused (m+5) has v=some (!bndB has v):=by
 simp only[ref14_unused,rValid_eq hw m hm hm2 hb,same_zero (m+2) v,Option.bind_some,bndB]
 cases has
 ·rfl
 ·simp only[cond_true,Bool.not_true,cond_false]
  cases okV v<;>rfl
theorem dif_in (m:Nat) (rec1:List Dt→Int→Option Bool) (L:List Dt) (i:Nat) (hi:i<L.length) (hl:L.length<9223372036854775807):∀(M k:Nat),k≤i→i-k<M→
  ref14_different_l5 m rec1 M L (i:Int) (k:Int)=bif (((L.take i).drop k).map Dt.toStr).any (eqb (L[i]).toStr) then some false else rec1 L ((i+1:Nat):Int)
 |0,k,_,h=>by omega
 |M+1,k,hk,h=>by
  simp only[ref14_different_l5,dlt]
  by_cases hlt:k<i
  ·have hk2:k<(L.take i).length:=by rw[List.length_take];omega
   have ih:=dif_in m rec1 L i hi hl M (k+1) (by omega) (by omega)
   rw[List.drop_eq_getElem_cons hk2,List.map_cons,List.any_cons,List.getElem_take]
   simp only[hlt,decide_true,cond_true,ref14_different_j7,ref14_different_j6,ref14_different_j8,ref14_different_j4,ref14_different_j3,ref14_different_j2,ref14_different_j9,ref14_different_j0,idx_lt (show k<L.length by omega),idx_lt hi,Option.bind_some,wrapS (show k<9223372036854775807 by omega),ih]
   rw[eqb_comm (L[i]).toStr]
   unfold eqb
   cases ((L[k]).toStr.toList==(L[i]).toStr.toList)<;>rfl
  ·have:k=i:=by omega
   subst this
   rw[List.drop_eq_nil_of_le (by rw[List.length_take];omega)]
   simp only[hlt,decide_false,cond_false,ref14_different_j7,ref14_different_j6,ref14_different_j8,ref14_different_j4,ref14_different_j3,ref14_different_j2,ref14_different_j9,ref14_different_j0,wrapS (show k<9223372036854775807 by omega)]
   rfl
theorem dif_loop (m:Nat) (hm:34≤m) (L:List Dt) (hl:L.length<m) (hl2:m<9223372036854775807):∀(M i:Nat),i≤L.length→L.length-i<M→
  ref14_different_l1 m M L (i:Int)=some (difS nm ((L.take i).map Dt.toStr) ((L.drop i).map Dt.toStr))
 |0,i,_,h=>by omega
 |M+    1,i,hi,h=>by
  obtain⟨m,rfl⟩:∃q,m=q+1:=⟨m-1,by omega⟩
  simp only[ref14_different_l1,dlt]
  by_cases hlt:i<L.length
  ·have et:(L.take (i+1)).map Dt.toStr=((L.take i).map Dt.toStr)++[(L[i]).toStr]:=by
        rw[List.take_succ_eq_append_getElem hlt,List.map_append];rfl
   have ih:=dif_loop (m+1) hm L hl hl2 M (i+1) (by omega) (by omega)
   have hin:=dif_in (m+1) (ref14_different_l1 (m+1) M) L i hlt (by omega) (m+2) 0 (by omega) (by omega)
   rw[List.drop_zero,ih] at hin
   have hin':ref14_different_l5 (m+1) (ref14_different_l1 (m+1) M) (Nat.succ (m+1)) L (i:Int) 0=_:=hin
   rw[List.drop_eq_getElem_cons hlt,List.map_cons,difS,←et]
   simp only[hlt,decide_true,cond_true,ref14_different_j7,ref14_different_j6,ref14_different_j8,ref14_different_j4,ref14_different_j3,ref14_different_j2,ref14_different_j9,ref14_different_j0,idx_lt hlt,Option.bind_some,name_eq m (by omega),hin']
   cases nm (L[i]).toStr<;>cases ((L.take i).map Dt.toStr).any (eqb (L[i]).toStr)<;>rfl
  ·have:i=L.length:=by omega
   subst this
   simp[ref14_different_j7,ref14_different_j6,ref14_different_j8,ref14_different_j4,ref14_different_j3,ref14_different_j2,ref14_different_j9,ref14_different_j0,difS]
theorem different_eq (m:Nat) (hm:34≤m) (L:List Dt) (hl:L.length<m) (hl2:m<9223372036854775807):ref14_different (m+1) L=some (difS nm [] (L.map Dt.toStr)):=by
 have:=dif_loop m hm L hl hl2 (m+1) 0 (Nat.zero_le _) (by omega)
 rw[List.drop_zero] at this
 simp only[ref14_different,ref14_different_j7,ref14_different_j6,ref14_different_j8,ref14_different_j4,ref14_different_j3,ref14_different_j2,ref14_different_j9,ref14_different_j0]
 exact this
theorem enum_r (m:Nat) (s:Dt) (hl:(Dt.L s 5).length<9223372036854775807) (hv:∀e∈Dt.L s 5,ref01_Valid m e=some (okV e)):∀(M i:Nat),i≤(Dt.L s 5).length→(Dt.L s 5).length-i<M→ref14_single_l12 m M (i:Int) s=some (bif ((Dt.L s 5).drop i).all okV then 0 else 8)
 |0,i,_,h=>by omega
 |M+1,i,hi,h=>by
  simp only[ref14_single_l12,dlt]
  by_cases hlt:i<(Dt.L s 5).length
  ·rw[List.drop_eq_getElem_cons hlt,List.all_cons]
   simp only[hlt,decide_true,cond_true,ref14_single_j13,ref14_single_j14,idx_lt hlt,Option.bind_some,hv _ (List.getElem_mem hlt),wrapS (show i<9223372036854775807 by omega),enum_r m s hl hv M (i+1) (by omega) (by omega)]
   cases okV (Dt.L s 5)[i]<;>rfl
  ·have:i=(Dt.L s 5).length:=by omega
   subst this
   simp[ref14_single_j15]
theorem names_r (m:Nat) (s:Dt) (hl:(Dt.L s 9).length≤137438953472):∀(M i:Nat),i≤(Dt.L s 9).length→(Dt.L s 9).length-i<M→ref14_single_l1 m M (i:Int) s (((Dt.L s 9).take i).map fun p=>Dt.str (Dt.S p 0))=ref14_single_j4 m s ((Dt.L s 9).map fun p=>Dt.str (Dt.S p 0))
 |0,i,_,h=>by omega
 |M+    1,i,hi,h=>by
  simp only[ref14_single_l1,dlt]
  by_cases hlt:i<(Dt.L s 9).length
  ·have happ:app (((Dt.L s 9).take i).map fun p=>Dt.str (Dt.S p 0)) [Dt.str (Dt.S (Dt.L s 9)[i] 0)]=some (((Dt.L s 9).take (i+1)).map fun p=>Dt.str (Dt.S p 0)):=by
        rw[app_le (by simp;omega),List.take_succ_eq_append_getElem hlt,List.map_append]
        rfl
   simp only[hlt,decide_true,cond_true,ref14_single_j2,ref14_single_j3,idx_lt hlt,Option.bind_some,happ,wrapS (show i<9223372036854775807 by omega)]
   exact names_r m s hl M (i+1) (by omega) (by omega)
  ·simp only[hlt,decide_false,cond_false]
   rw[List.take_of_length_le (by omega)]
theorem single_eq {s:Dt} (hw:WS s) (m:Nat) (hm:2*s.bulk+400≤m) (hm2:m<9223372036854770000) (hb:s.bulk≤1000000000):ref14_single (m+10) s=some (sgl s):=by
 cases hw with
 |mk h0 h2 h4 h5 h9 h11=>
  have b2:=fld_bulk s 2
  have b4:=fld_bulk s 4
  have l5:=L_len s 5
  have l8:=L_len s 8
  have l9:=L_len s 9
  have u1:ref14_unused (m+9) (Dt.B s 1) (Dt.fld s 2)=_:=unused_eq (Dt.B s 1) h2 (m+4) (by omega) (by omega) (by omega)
  have u2:ref14_unused (m+9) (Dt.B s 3) (Dt.fld s 4)=_:=unused_eq (Dt.B s 3) h4 (m+4) (by omega) (by omega) (by omega)
  have d1:ref14_different (m+9) (Dt.L s 8)=_:=different_eq (m+8) (by omega) (Dt.L s 8) (by omega) (by omega)
  have d2:ref14_different (m+9) ((Dt.L s 9).map fun p=>Dt.str (Dt.S p 0))=_:=different_eq (m+8) (by omega) _ (by rw[List.length_map];omega) (by omega)
  have e2:((Dt.L s 9).map fun p=>Dt.str (Dt.S p 0)).map Dt.toStr=(Dt.L s 9).map fun p=>Dt.S p 0:=by rw[List.map_map];rfl
  rw[e2] at d2
  have en:=enum_r (m+9) s (by omega) (fun e he=>rValid_eq (h5 e he) (m+5) (by have:=L_mem (d:=s) (i:=5) he;omega) (by omega) (by have:=L_mem (d:=s) (i:=5) he;omega)) (m+10) 0 (Nat.zero_le _) (by omega)
  rw[List.drop_zero] at en
  have en':ref14_single_l12 (m+9) (Nat.succ (m+9)) 0 s=_:=en
  have nr:=names_r (m+9) s (by omega) (m+10) 0 (Nat.zero_le _) (by omega)
  have nr':ref14_single_l1 (m+9) (Nat.succ (m+9)) 0 s []=_:=nr
  have e6:ref14_single_j6 (m+9) s=some (rest1 s):=by
   have e8:ref14_single_j8 (m+9) s=some (rest8 s):=by
        simp only[ref14_single_j8,ref14_single_j9,ref14_single_j10,ref14_single_j11,u1,u2,en',Option.bind_some,rest8]
        cases bndB (Dt.B s 1) (Dt.fld s 2)<;>cases bndB (Dt.B s 3) (Dt.fld s 4)<;>cases (Dt.L s 5).all okV<;>rfl
   simp only[ref14_single_j6,ref14_single_j7,e8,rest1,badA]
   cases decide (Dt.I s 0<0)<;>cases (Int.tmod (Dt.I s 0) 2==1)<;>cases decide (4096≤Dt.I s 0)<;>cases decide (Dt.I s 6<0)<;>cases decide (Dt.I s 7< -1)<;>cases decide ((1:Int)<((Dt.L s 11).length:Int))<;>rfl
  simp only[ref14_single,ref14_single_j0,nr',ref14_single_j4,ref14_single_j5,d1,d2,e6,Option.bind_some,sgl]
  cases difS nm [] ((Dt.L s 8).map Dt.toStr)<;>cases difS nm [] ((Dt.L s 9).map fun p=>Dt.S p 0)<;>rfl
theorem enum_p (m:Nat) (L:List Dt) (hl:L.length<9223372036854775807) (hv:∀e∈L,value_Valid m e=some (okV e)):∀(M i:Nat),i≤L.length→L.length-i<M→schema_checkOne_l19 m M L (L.length:Int) (i:Int)=some (bif (L.drop i).all okV then 0 else 8)
 |0,i,_,h=>by omega
 |M+1,i,hi,h=>by
  simp only[schema_checkOne_l19,dlt]
  by_cases hlt:i<L.length
  ·rw[List.drop_eq_getElem_cons hlt,List.all_cons]
   simp only[hlt,decide_true,cond_true,schema_checkOne_j20,schema_checkOne_j21,idx_lt hlt,Option.bind_some,hv _ (List.getElem_mem hlt),wrapS (show i<9223372036854775807 by omega),enum_p m L hl hv M (i+1) (by omega) (by omega)]
   cases okV L[i]<;>rfl
  ·have:i=L.length:=by omega
   subst this
   simp[schema_checkOne_j22]
theorem props_p (m:Nat) (hm:34≤m) (s:Dt) (r:Int) (hr:schema_checkOne_j13 m s=some r) (L:List Dt) (hl:L.length<9223372036854775807):∀(M i:Nat) (mp:List Dt),i≤L.length→L.length-i<M→MapS mp ((L.take i).map fun p=>Dt.S p 0)→
  schema_checkOne_l8 m M L (L.length:Int) (i:Int) s mp=some (bif difS nm ((L.take i).map fun p=>Dt.S p 0) ((L.drop i).map fun p=>Dt.S p 0) then r else 9)
 |0,i,_,_,h,_=>by omega
 |M+    1,i,mp,hi,h,hmp=>by
  obtain⟨m,rfl⟩:∃q,m=q+1:=⟨m-1,by omega⟩
  simp only[schema_checkOne_l8,dlt]
  by_cases hlt:i<L.length
  ·have hp:=hmp (Dt.S L[i] 0)
   have hmp':=mapS_put hmp (Dt.S L[i] 0)
   have et:(L.take (i+1)).map (fun f=>Dt.S f 0)=((L.take i).map fun f=>Dt.S f 0)++[Dt.S L[i] 0]:=by
        rw[List.take_succ_eq_append_getElem hlt,List.map_append];rfl
   rw[←et] at hmp'
   have ih:=props_p (m+1) hm s r hr L hl M (i+1) _ (by omega) (by omega) hmp'
   rw[List.drop_eq_getElem_cons hlt,List.map_cons,difS,←et]
   simp only[hlt,decide_true,cond_true,schema_checkOne_j9,schema_checkOne_j10,schema_checkOne_j11,schema_checkOne_j12,idx_lt hlt,Option.bind_some,hp,schema_isName_nm m (by omega),wrapS (show i<9223372036854775807 by omega),ih]
   cases nm (Dt.S L[i] 0)<;>cases ((L.take i).map fun f=>Dt.S f 0).any (eqb (Dt.S L[i] 0))<;>rfl
  ·have:i=L.length:=by omega
   subst this
   simp[hr,difS]
theorem req_p (m:Nat) (hm:34≤m) (s:Dt) (r:Int) (hr:schema_checkOne_j6 m s=some r) (L:List Dt) (hl:L.length<9223372036854775807):∀(M i:Nat) (mp:List Dt),i≤L.length→L.length-i<M→MapS mp ((L.take i).map Dt.toStr)→
  schema_checkOne_l1 m M L (L.length:Int) (i:Int) s mp=some (bif difS nm ((L.take i).map Dt.toStr) ((L.drop i).map Dt.toStr) then r else 9)
 |0,i,_,_,h,_=>by omega
 |M+    1,i,mp,hi,h,hmp=>by
  obtain⟨m,rfl⟩:∃q,m=q+1:=⟨m-1,by omega⟩
  simp only[schema_checkOne_l1,dlt]
  by_cases hlt:i<L.length
  ·have hp:=hmp (L[i]).toStr
   have hmp':=mapS_put hmp (L[i]).toStr
   have et:(L.take (i+1)).map Dt.toStr=((L.take i).map Dt.toStr)++[(L[i]).toStr]:=by
        rw[List.take_succ_eq_append_getElem hlt,List.map_append];rfl
   rw[←et] at hmp'
   have ih:=req_p (m+1) hm s r hr L hl M (i+1) _ (by omega) (by omega) hmp'
   rw[List.drop_eq_getElem_cons hlt,List.map_cons,difS,←et]
   simp only[hlt,decide_true,cond_true,schema_checkOne_j2,schema_checkOne_j3,schema_checkOne_j4,schema_checkOne_j5,idx_lt hlt,Option.bind_some,hp,schema_isName_nm m (by omega),wrapS (show i<9223372036854775807 by omega),ih]
   cases nm (L[i]).toStr<;>cases ((L.take i).map Dt.toStr).any (eqb (L[i]).toStr)<;>rfl
  ·have:i=L.length:=by omega
   subst this
   simp[hr,difS]
theorem checkOne_eq {s:Dt} (hw:WS s) (m:Nat) (hm:3*s.bulk+400≤m) (hb:s.bulk≤1000000000):schema_checkOne (m+10) s=some (sgl s):=by
 cases hw with
 |mk h0 h2 h4 h5 h9 h11=>
  have b2:=fld_bulk s 2
  have b4:=fld_bulk s 4
  have l5:=L_len s 5
  have l8:=L_len s 8
  have l9:=L_len s 9
  have u1:schema_bound (m+9) (Dt.B s 1) (Dt.fld s 2)=_:=bound_eq (Dt.B s 1) h2 (m+5) (by omega) (by omega)
  have u2:schema_bound (m+9) (Dt.B s 3) (Dt.fld s 4)=_:=bound_eq (Dt.B s 3) h4 (m+5) (by omega) (by omega)
  have en:=enum_p (m+9) (Dt.L s 5) (by omega) (fun e he=>vValid_eq (h5 e he) (m+6) (by have:=L_mem (d:=s) (i:=5) he;omega) (by have:=L_mem (d:=s) (i:=5) he;omega)) (m+10) 0 (Nat.zero_le _) (by omega)
  rw[List.drop_zero] at en
  have en':schema_checkOne_l19 (m+9) (Nat.succ (m+9)) (Dt.L s 5) ((Dt.L s 5).length:Int) 0=_:=en
  have e13:schema_checkOne_j13 (m+9) s=some (rest1 s):=by
   have e15:schema_checkOne_j15 (m+9) s=some (rest8 s):=by
        simp only[schema_checkOne_j15,schema_checkOne_j16,schema_checkOne_j17,schema_checkOne_j18,u1,u2,en',Option.bind_some,rest8]
        cases bndB (Dt.B s 1) (Dt.fld s 2)<;>cases bndB (Dt.B s 3) (Dt.fld s 4)<;>cases (Dt.L s 5).all okV<;>rfl
   simp only[schema_checkOne_j13,schema_checkOne_j14,e15,rest1,badA,bic_eq _ h0.1 h0.2]
   cases (decide (Dt.I s 0<0)||Int.tmod (Dt.I s 0) 2==1||decide (4096≤Dt.I s 0))<;>cases decide (Dt.I s 6<0)<;>cases decide (Dt.I s 7< -1)<;>cases decide ((1:Int)<((Dt.L s 11).length:Int))<;>rfl
  have pp:=props_p (m+9) (by omega) s _ e13 (Dt.L s 9) (by omega) (m+10) 0 [] (Nat.zero_le _) (by omega) mapS_nil
  have e6:schema_checkOne_j6 (m+9) s=some (bif difS nm [] ((Dt.L s 9).map fun p=>Dt.S p 0) then rest1 s else 9):=by
   simp only[schema_checkOne_j6,schema_checkOne_j7]
   exact pp
  have rp:=req_p (m+9) (by omega) s _ e6 (Dt.L s 8) (by omega) (m+10) 0 [] (Nat.zero_le _) (by omega) mapS_nil
  have e:schema_checkOne (m+10) s=some (bif difS nm [] ((Dt.L s 8).map Dt.toStr) then(bif difS nm [] ((Dt.L s 9).map fun p=>Dt.S p 0) then rest1 s else 9) else 9):=by
   simp only[schema_checkOne,schema_checkOne_j0]
   exact rp
  rw[e,sgl]
  cases difS nm [] ((Dt.L s 8).map Dt.toStr)<;>cases difS nm [] ((Dt.L s 9).map fun p=>Dt.S p 0)<;>rfl
end Go.Proofs.YtfneddmmeadacaaGreatDoor
namespace Go.Proofs.YtfneddmmeadacaaGreatDoor
open Go.Am
def ChkOK (p:Int→Int→Option (Int×Int)) (q:Int→Int→Option (Int×Int)):Prop:=
 ∀level seen:Nat,level≤17→seen≤64→∃(e n:Int) (k:Int),p (level:Int) (seen:Int)=some (e,n)∧q ((seen+1:Nat):Int) (level:Int)=some (k,e)∧(e=0→k=n∧level≤16∧∃n':Nat,n=(n':Int)∧n'≤64)
theorem items_sim (m m':Nat) (self selfR:Dt→Int→Int→Option (Int×Int)) (s:Dt) (hl:(Dt.L s 9).length+(Dt.L s 11).length<1000000000000) (level:Nat) (hlv:level≤16)
  (hs:∀e∈Dt.L s 11,ChkOK (self e) (selfR e)):∀(M M' i seen:Nat),i≤(Dt.L s 11).length→(Dt.L s 11).length-i<M→(Dt.L s 11).length-i<M'→seen≤64→
  ∃(e n:Int) (k:Int),i32_l9 m self M (level:Int) (Dt.L s 11) ((Dt.L s 11).length:Int) (i:Int) (seen:Int)=some (e,n)∧ref14_check_l4 m' selfR M' (seen:Int) (level:Int) (((Dt.L s 9).length+i:Nat):Int) s=some (k,e)∧(e=0→k=n∧∃n':Nat,n=(n':Int)∧n'≤64)
 |0,_,i,_,_,h,_,_=>by omega
 |_+1,0,i,_,_,_,h,_=>by omega
 |M+    1,M'+1,i,seen,hi,h,h',hn=>by
  have hw:IntKind.wrap IntKind.i64 (((Dt.L s 9).length:Int)+((Dt.L s 11).length:Int))=(((Dt.L s 9).length+(Dt.L s 11).length:Nat):Int):=by rw[wrap64 (by omega) (by omega)];omega
  simp only[i32_l9,ref14_check_l4,hw,dlt]
  by_cases hlt:i<(Dt.L s 11).length
  ·have h2:(Dt.L s 9).length+i<(Dt.L s 9).length+(Dt.L s 11).length:=by omega
   have h3:¬(Dt.L s 9).length+i<(Dt.L s 9).length:=by omega
   have w2:IntKind.wrap IntKind.i64 ((((Dt.L s 9).length+i:Nat):Int)-((Dt.L s 9).length:Int))=(i:Int):=by rw[wrap64 (by omega) (by omega)];omega
   obtain⟨e,n,k,c1,c2,c3⟩:=hs _ (List.getElem_mem hlt) (level+1) seen (by omega) hn
   have d3:decide ((((Dt.L s 9).length+i:Nat):Int)<((Dt.L s 9).length:Int))=false:=decide_eq_false (by omega)
   simp only[hlt,h2,decide_true,cond_true,i32_j6,i32_j5,i32_j11,i32_j10,i32_j12,i32_j8,i32_j7,i32_j3,i32_j2,i32_j1,i32_j0,ref14_check_j8,ref14_check_j7,ref14_check_j6,ref14_check_j5,ref14_check_j9,ref14_check_j3,ref14_check_j2,ref14_check_j1,ref14_check_j0,d3,cond_false,w2,idx_lt hlt,Option.bind_some,wrapS (show level<9223372036854775807 by omega),wrapS (show seen<9223372036854775807 by omega),c1,c2]
   by_cases he:e=0
   ·    obtain⟨hk,_,n',hn1,hn2⟩:=c3 he
        subst hk he hn1
        have:=items_sim m m' self selfR s hl level hlv hs M M' (i+1) n' (by omega) (by omega) (by omega) hn2
        simp only[bne_self_eq_false,cond_false,wrapS (show i<9223372036854775807 by omega),wrapS (show (Dt.L s 9).length+i<9223372036854775807 by omega)]
        rw[show (Dt.L s 9).length+i+1=(Dt.L s 9).length+(i+1) by omega]
        exact this
   ·    have hb:(e !=0)=true:=by simpa using he
        simp only[hb,cond_true]
        exact⟨e,n,k,rfl,rfl,fun h=>absurd h he⟩
  ·have h2:¬(Dt.L s 9).length+i<(Dt.L s 9).length+(Dt.L s 11).length:=by omega
   simp only[hlt,h2,decide_false,cond_false,i32_j6,i32_j5,i32_j11,i32_j10,i32_j12,i32_j8,i32_j7,i32_j3,i32_j2,i32_j1,i32_j0,ref14_check_j8,ref14_check_j7,ref14_check_j6,ref14_check_j5,ref14_check_j9,ref14_check_j3,ref14_check_j2,ref14_check_j1,ref14_check_j0]
   exact⟨0,_,_,rfl,rfl,fun _=>⟨rfl,seen,rfl,hn⟩⟩
theorem props_sim (m m':Nat) (self selfR:Dt→Int→Int→Option (Int×Int)) (s:Dt) (hl:(Dt.L s 9).length+(Dt.L s 11).length<1000000000000) (level:Nat) (hlv:level≤16) (hm:(Dt.L s 11).length≤m)
  (hp:∀p∈Dt.L s 9,ChkOK (self (Dt.fld p 1)) (selfR (Dt.fld p 1))) (hs:∀e∈Dt.L s 11,ChkOK (self e) (selfR e)):∀(M M' i seen:Nat),i≤(Dt.L s 9).length→(Dt.L s 9).length-i<M→(Dt.L s 9).length+(Dt.L s 11).length-i<M'→seen≤64→
  ∃(e n:Int) (k:Int),i32_l4 m self M (level:Int) (Dt.L s 9) ((Dt.L s 9).length:Int) (i:Int) (seen:Int) s=some (e,n)∧ref14_check_l4 m' selfR M' (seen:Int) (level:Int) (i:Int) s=some (k,e)∧(e=0→k=n∧∃n':Nat,n=(n':Int)∧n'≤64)
 |0,_,i,_,_,h,_,_=>by omega
 |_+1,0,i,_,_,_,h,_=>by omega
 |M+    1,M'+1,i,seen,hi,h,h',hn=>by
  have hw:IntKind.wrap IntKind.i64 (((Dt.L s 9).length:Int)+((Dt.L s 11).length:Int))=(((Dt.L s 9).length+(Dt.L s 11).length:Nat):Int):=by rw[wrap64 (by omega) (by omega)];omega
  by_cases hlt:i<(Dt.L s 9).length
  ·simp only[i32_l4,ref14_check_l4,hw,dlt]
   have h2:i<(Dt.L s 9).length+(Dt.L s 11).length:=by omega
   obtain⟨e,n,k,c1,c2,c3⟩:=hp _ (List.getElem_mem hlt) (level+1) seen (by omega) hn
   simp only[hlt,h2,decide_true,cond_true,i32_j6,i32_j5,i32_j11,i32_j10,i32_j12,i32_j8,i32_j7,i32_j3,i32_j2,i32_j1,i32_j0,ref14_check_j8,ref14_check_j7,ref14_check_j6,ref14_check_j5,ref14_check_j9,ref14_check_j3,ref14_check_j2,ref14_check_j1,ref14_check_j0,dlt,idx_lt hlt,Option.bind_some,wrapS (show level<9223372036854775807 by omega),wrapS (show seen<9223372036854775807 by omega),c1,c2]
   by_cases he:e=0
   ·    obtain⟨hk,_,n',hn1,hn2⟩:=c3 he
        subst hk he hn1
        have:=props_sim m m' self selfR s hl level hlv hm hp hs M M' (i+1) n' (by omega) (by omega) (by omega) hn2
        simp only[bne_self_eq_false,cond_false,wrapS (show i<9223372036854775807 by omega)]
        exact this
   ·    have hb:(e !=0)=true:=by simpa using he
        simp only[hb,cond_true]
        exact⟨e,n,k,rfl,rfl,fun h=>absurd h he⟩
  ·have e0:i=(Dt.L s 9).length:=by omega
   subst e0
   have:=items_sim m m' self selfR s hl level hlv hs (m+1) (M'+1) 0 seen (Nat.zero_le _) (by omega) (by omega) hn
   rw[Nat.add_zero] at this
   rw[i32_l4]
   simp only[dlt,hlt,decide_false,cond_false,i32_j6,i32_j5,i32_j11,i32_j10,i32_j12,i32_j8,i32_j7,i32_j3,i32_j2,i32_j1,i32_j0]
   exact this
theorem check_sim:∀(N:Nat) (s:Dt),s.bulk≤N→N≤1000000000→WS s→∀m m':Nat,4*N+500≤m→4*N+500≤m'→m'<9223372036854770000→ChkOK (i32 (m+10) s) (ref14_check (m'+10) s)
 |0,s,h,_,_,_,_,_,_,_=>by have:=bulk_pos s;omega
 |N+    1,s,h,hN,hw,m,m',hm,hm',hm2=>by
  intro level seen hlv hn
  have p1:=checkOne_eq hw (m-1) (by omega) (by omega)
  rw[show m-1+10=m+9 by omega] at p1
  have p2:=single_eq hw (m'-1) (by omega) (by omega) (by omega)
  rw[show m'-1+10=m'+9 by omega] at p2
  have l9:=L_bulk s 9
  have l11:=L_bulk s 11
  have n9:=len_bulk (Dt.L s 9)
  have n11:=len_bulk (Dt.L s 11)
  rw[i32,ref14_check]
  by_cases h16:16<level
  ·have d1:decide ((16:Int)<(level:Int))=true:=decide_eq_true (by omega)
   simp only[d1,cond_true,i32_j6,i32_j5,i32_j11,i32_j10,i32_j12,i32_j8,i32_j7,i32_j3,i32_j2,i32_j1,i32_j0,ref14_check_j8,ref14_check_j7,ref14_check_j6,ref14_check_j5,ref14_check_j9,ref14_check_j3,ref14_check_j2,ref14_check_j1,ref14_check_j0]
   exact⟨2,_,_,rfl,rfl,fun h=>by cases h⟩
  ·have d1  :decide ((16:Int)<(level:Int))=false:=decide_eq_false (by omega)
   by_cases h64:seen=64
   ·    have d2:(((seen:Nat):Int)==64)=true:=by rw[beq_iff_eq];omega
        have d3:decide ((64:Int)<((seen+1:Nat):Int))=true:=decide_eq_true (by omega)
        simp only[d1,d2,d3,cond_true,cond_false,i32_j6,i32_j5,i32_j11,i32_j10,i32_j12,i32_j8,i32_j7,i32_j3,i32_j2,i32_j1,i32_j0,ref14_check_j8,ref14_check_j7,ref14_check_j6,ref14_check_j5,ref14_check_j9,ref14_check_j3,ref14_check_j2,ref14_check_j1,ref14_check_j0]
        exact⟨2,_,_,rfl,rfl,fun h=>by cases h⟩
   ·    have d2:(((seen:Nat):Int)==64)=false:=by rw[beq_eq_false_iff_ne];omega
        have d3:decide ((64:Int)<((seen+1:Nat):Int))=false:=decide_eq_false (by omega)
        simp only[d1,d2,d3,cond_false,i32_j6,i32_j5,i32_j11,i32_j10,i32_j12,i32_j8,i32_j7,i32_j3,i32_j2,i32_j1,i32_j0,ref14_check_j8,ref14_check_j7,ref14_check_j6,ref14_check_j5,ref14_check_j9,ref14_check_j3,ref14_check_j2,ref14_check_j1,ref14_check_j0,p1,p2,Option.bind_some,wrapS (show seen<9223372036854775807 by omega)]
        by_cases he:sgl s=0
        ·have hb:(sgl s !=0)=false:=by simpa using he
         cases hw with
         |mk h0 h2 h4 h5 h9 h11=>
          have ih:∀x:Dt,WS x→x.bulk≤N→ChkOK (i32 (m+9) x) (ref14_check (m'+9) x):=fun x hx hbx=>by
            have:=check_sim N x hbx (by omega) hx (m-1) (m'-1) (by omega) (by omega) (by omega)
            rw[show m-1+10=m+9 by omega,show m'-1+10=m'+9 by omega] at this
            exact this
          obtain⟨e,n,k,c1,c2,c3⟩:=props_sim (m+9) (m'+9) (i32 (m+9)) (ref14_check (m'+9)) s (by omega) level (by omega) (by omega)
            (fun p hp=>ih _ (h9 p hp) (by have:=bulk_memA hp;have:=fld_bulk p 1;omega)) (fun x hx=>ih _ (h11 x hx) (by have:=bulk_memA hx;omega)) (m+10) (m'+10) 0 (seen+1) (Nat.zero_le _) (by omega) (by omega) (by omega)
          simp only[hb,cond_false]
          exact⟨e,n,k,c1,c2,fun h=>⟨(c3 h).1,by omega,(c3 h).2⟩⟩
        ·have hb:(sgl s !=0)=true:=by simpa using he
         simp only[hb,cond_true]
         exact⟨_,_,_,rfl,rfl,fun h=>absurd h he⟩
theorem sValid_sim {s:Dt} (hw:WS s) (hb:s.bulk≤1000000000) (m m':Nat) (hm:5000000000≤m) (hm':5000000000≤m') (hm2:m'<9223372036854770000):∃e,schema_Valid (m+11) s=some e∧ref14_Valid (m'+11) s=some e:=by
 obtain⟨e,n,k,c1,c2,_⟩:=check_sim s.bulk s (Nat.le_refl _) hb hw m m' (by omega) (by omega) hm2 1 0 (by omega) (by omega)
 refine⟨e,?_,?_⟩
 ·have c1':i32 (m+10) s 1 0=some (e,n):=c1
  rw[schema_Valid,c1'];rfl
 ·have c2':ref14_check (m'+10) s 1 1=some (k,e):=c2
  rw[ref14_Valid,c2'];rfl
end Go.Proofs.YtfneddmmeadacaaGreatDoor
namespace Go.Proofs.YtfneddmmeadacaaGreatDoor
open Go.Am
theorem sc_items (m:Nat) (self:Dt→Int→Option Int) (d:Dt) (x0:Int) (hl:(Dt.L d 11).length<9223372036854775807) (hs:∀e∈Dt.L d 11,∀b,∃r,self e b=some r):∀(M i:Nat) (x1:Int),i≤(Dt.L d 11).length→(Dt.L d 11).length-i<M→∃r,ref14_Count_l6 m self M x0 x1 (i:Int) d=some r
 |0,i,_,_,h=>by omega
 |M+    1,i,x1,hi,h=>by
  simp only[ref14_Count_l6,dlt]
  by_cases hlt:i<(Dt.L d 11).length
  ·simp only[hlt,decide_true,cond_true]
   cases decide (x1<x0)
   ·exact⟨_,rfl⟩
   ·    obtain⟨r,hr⟩:=hs _ (List.getElem_mem hlt) (IntKind.wrap IntKind.i64 (x0-x1))
        simp only[cond_true,ref14_Count_j3,ref14_Count_j2,ref14_Count_j8,ref14_Count_j7,ref14_Count_j9,ref14_Count_j5,ref14_Count_j4,ref14_Count_j0,idx_lt hlt,Option.bind_some,hr,wrapS (show i<9223372036854775807 by omega)]
        exact sc_items m self d x0 hl hs M (i+1) _ (by omega) (by omega)
  ·simp only[hlt,decide_false,cond_false]
   exact⟨_,rfl⟩
theorem sc_props (m:Nat) (self:Dt→Int→Option Int) (d:Dt) (x0:Int) (hl:(Dt.L d 9).length<9223372036854775807) (hs:∀p∈Dt.L d 9,∀b,∃r,self (Dt.fld p 1) b=some r) (hd:∀x1,∃r,ref14_Count_l6 m self (Nat.succ m) x0 x1 0 d=some r):∀(M i:Nat) (x1:Int),i≤(Dt.L d 9).length→(Dt.L d 9).length-i<M→∃r,ref14_Count_l1 m self M x0 x1 (i:Int) d=some r
 |0,i,_,_,h=>by omega
 |M+    1,i,x1,hi,h=>by
  simp only[ref14_Count_l1,dlt]
  by_cases hlt:i<(Dt.L d 9).length
  ·simp only[hlt,decide_true,cond_true]
   cases decide (x1<x0)
   ·    simp only[cond_false,ref14_Count_j3,ref14_Count_j2,ref14_Count_j8,ref14_Count_j7,ref14_Count_j9,ref14_Count_j5,ref14_Count_j4,ref14_Count_j0]
        exact hd x1
   ·    obtain⟨r,hr⟩:=hs _ (List.getElem_mem hlt) (IntKind.wrap IntKind.i64 (x0-x1))
        simp only[cond_true,ref14_Count_j3,ref14_Count_j2,ref14_Count_j8,ref14_Count_j7,ref14_Count_j9,ref14_Count_j5,ref14_Count_j4,ref14_Count_j0,idx_lt hlt,Option.bind_some,hr,wrapS (show i<9223372036854775807 by omega)]
        exact sc_props m self d x0 hl hs hd M (i+1) _ (by omega) (by omega)
  ·simp only[hlt,decide_false,cond_false,ref14_Count_j3,ref14_Count_j2,ref14_Count_j8,ref14_Count_j7,ref14_Count_j9,ref14_Count_j5,ref14_Count_j4,ref14_Count_j0]
   exact hd x1
theorem sc_tot:∀(N:Nat) (d:Dt),d.bulk≤N→N≤100000000000→∀m,N≤m→∀b:Int,∃r,ref14_Count (m+1) d b=some r
 |0,d,h,_,_,_,_=>by have:=bulk_posA d;omega
 |N+1,d,h,hN,m,hm,b=>by
  obtain⟨m,rfl⟩:∃q,m=q+1:=⟨m-1,by omega⟩
  have l9:=L_len d 9
  have l11:=L_len d 11
  have ih:∀e:Dt,e.bulk≤N→∀b:Int,∃r,ref14_Count (m+1) e b=some r:=fun e hbe b=>sc_tot N e hbe (by omega) m (by omega) b
  have hd:∀x1,∃r,ref14_Count_l6 (m+1) (ref14_Count (m+1)) (Nat.succ (m+1)) b x1 0 d=some r:=fun x1=>sc_items (m+1) (ref14_Count (m+1)) d b (by omega) (fun e he=>ih e (by have:=L_mem (d:=d) (i:=11) he;omega)) (m+2) 0 x1 (Nat.zero_le _) (by omega)
  have hp:=sc_props (m+1) (ref14_Count (m+1)) d b (by omega) (fun p hp=>ih _ (by have:=L_mem (d:=d) (i:=9) hp;have:=fld_bulk p 1;omega)) hd (m+2) 0 1 (Nat.zero_le _) (by omega)
  rw[ref14_Count]
  simp only[ref14_Count_j3,ref14_Count_j2,ref14_Count_j8,ref14_Count_j7,ref14_Count_j9,ref14_Count_j5,ref14_Count_j4,ref14_Count_j0]
  exact hp
end Go.Proofs.YtfneddmmeadacaaGreatDoor
namespace Go.Proofs.YtfneddmmeadacaaGreatDoor
open Go.Am
theorem cnt_d (m:Nat) (self:Dt→Int→Int→Option Int) (d:Dt) (x0:Int) (hl:(Dt.L d 4).length<9223372036854775807) (hs:∀f∈Dt.L d 4,∀a b,∃r,self (Dt.fld f 1) a b=some r):∀(M i:Nat) (x1:Int),i≤(Dt.L d 4).length→(Dt.L d 4).length-i<M→∃r,ref02_count_l8 m self M x0 x1 (i:Int) d=some r
 |0,i,_,_,h=>by omega
 |M+    1,i,x1,hi,h=>by
  simp only[ref02_count_l8,dlt]
  by_cases hlt:i<(Dt.L d 4).length
  ·simp only[hlt,decide_true,cond_true]
   cases decide ((0:Int)≤x1)
   ·exact⟨_,rfl⟩
   ·    obtain⟨r,hr⟩:=hs _ (List.getElem_mem hlt) (IntKind.wrap IntKind.i64 (x0+1)) x1
        simp only[cond_true,ref02_count_j5,ref02_count_j4,ref02_count_j11,ref02_count_j10,ref02_count_j9,ref02_count_j12,ref02_count_j7,ref02_count_j6,ref02_count_j2,ref02_count_j1,ref02_count_j0,idx_lt hlt,Option.bind_some,hr,wrapS (show i<9223372036854775807 by omega)]
        cases decide ((200:Int)<((Dt.S (Dt.L d 4)[i] 0).size:Int))
        ·exact cnt_d m self d x0 hl hs M (i+1) _ (by omega) (by omega)
        ·exact⟨_,rfl⟩
  ·simp only[hlt,decide_false,cond_false]
   exact⟨_,rfl⟩
theorem cnt_l (m:Nat) (self:Dt→Int→Int→Option Int) (d:Dt) (x0:Int) (hl:(Dt.L d 3).length<9223372036854775807) (hs:∀e∈Dt.L d 3,∀a b,∃r,self e a b=some r) (hd:∀x1,∃r,ref02_count_l8 m self (Nat.succ m) x0 x1 0 d=some r):∀(M i:Nat) (x1:Int),i≤(Dt.L d 3).length→(Dt.L d 3).length-i<M→∃r,ref02_count_l3 m self M x0 x1 (i:Int) d=some r
 |0,i,_,_,h=>by omega
 |M+    1,i,x1,hi,h=>by
  simp only[ref02_count_l3,dlt]
  by_cases hlt:i<(Dt.L d 3).length
  ·simp only[hlt,decide_true,cond_true]
   cases decide ((0:Int)≤x1)
   ·    simp only[cond_false,ref02_count_j5,ref02_count_j4,ref02_count_j11,ref02_count_j10,ref02_count_j9,ref02_count_j12,ref02_count_j7,ref02_count_j6,ref02_count_j2,ref02_count_j1,ref02_count_j0]
        exact hd x1
   ·    obtain⟨r,hr⟩:=hs _ (List.getElem_mem hlt) (IntKind.wrap IntKind.i64 (x0+1)) x1
        simp only[cond_true,ref02_count_j5,ref02_count_j4,ref02_count_j11,ref02_count_j10,ref02_count_j9,ref02_count_j12,ref02_count_j7,ref02_count_j6,ref02_count_j2,ref02_count_j1,ref02_count_j0,idx_lt hlt,Option.bind_some,hr,wrapS (show i<9223372036854775807 by omega)]
        exact cnt_l m self d x0 hl hs hd M (i+1) _ (by omega) (by omega)
  ·simp only[hlt,decide_false,cond_false,ref02_count_j5,ref02_count_j4,ref02_count_j11,ref02_count_j10,ref02_count_j9,ref02_count_j12,ref02_count_j7,ref02_count_j6,ref02_count_j2,ref02_count_j1,ref02_count_j0]
   exact hd x1
theorem cnt_tot:∀(N:Nat) (d:Dt),d.bulk≤N→N≤100000000000→WV d→∀m,N≤m→∀a b:Int,∃r,ref02_count (m+1) d a b=some r
 |0,d,h,_,_,_,_,_,_=>by have:=bulk_pos d;omega
 |N+1,d,h,hN,hw,m,hm,a,b=>by
  obtain⟨m,rfl⟩:∃q,m=q+1:=⟨m-1,by omega⟩
  obtain⟨p1,p2,p3,p4⟩:=wv_parts hw
  have ih:∀e:Dt,WV e→e.bulk≤N→∀a b:Int,∃r,ref02_count (m+1) e a b=some r:=fun e hwe hbe a b=>cnt_tot N e hbe (by omega) hwe m (by omega) a b
  have hd:∀x1,∃r,ref02_count_l8 (m+1) (ref02_count (m+1)) (Nat.succ (m+1)) a x1 0 d=some r:=fun x1=>cnt_d (m+1) (ref02_count (m+1)) d a (by omega) (fun f hf=>ih _ (p4 f hf).1 (by have:=(p4 f hf).2;omega)) (m+2) 0 x1 (Nat.zero_le _) (by omega)
  have hl:=fun x1=>cnt_l (m+1) (ref02_count (m+1)) d a (by omega) (fun e he=>ih e (p3 e he).1 (by have:=(p3 e he).2;omega)) hd (m+2) 0 x1 (Nat.zero_le _) (by omega)
  rw[ref02_count]
  simp only[ref02_count_j5,ref02_count_j4,ref02_count_j11,ref02_count_j10,ref02_count_j9,ref02_count_j12,ref02_count_j7,ref02_count_j6,ref02_count_j2,ref02_count_j1,ref02_count_j0]
  cases decide ((40:Int)<a)
  ·cases decide ((5000:Int)<((Dt.S d 2).size:Int))
   ·exact hl _
   ·exact⟨_,rfl⟩
  ·exact⟨_,rfl⟩
theorem few_tot {d:Dt} (hw:WV d) (hb:d.bulk≤100000000000) (m:Nat) (hm:d.bulk≤m) (n:Int):∃b,ref02_Few (m+2) d n=some b:=by
 obtain⟨r,h⟩:=cnt_tot d.bulk d (Nat.le_refl _) hb hw m hm 1 n
 refine⟨decide ((0:Int)≤r),?_⟩
 simp only[ref02_Few,h,Option.bind_some]
end Go.Proofs.YtfneddmmeadacaaGreatDoor
