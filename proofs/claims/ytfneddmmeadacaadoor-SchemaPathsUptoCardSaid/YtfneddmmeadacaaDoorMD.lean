/- Schemas: the first error; the program and the reference agree.
Schemas:the first error of a tree;the program and the reference agree.
Schemas:counting them ends.
Counting values ends. -/
import Derived.Test.YtfneddmmeadacaaDoorMC
import Derived.Test.YtfneddmmeadacaaDoorMA
set_option linter.unusedVariables false
set_option linter.unusedSimpArgs false
namespace Go.Proofs.YtfneddmmeadacaaDoor
open Go.Am
inductive WS:Dt→Prop where
 |mk {d:Dt} (h0: -9223372036854775808≤Dt.I d 0∧Dt.I d 0≤9223372036854775807) (h2:WV (Dt.fld d 2)) (h4:WV (Dt.fld d 4)) (h5:∀e∈Dt.L d 5,WV e) (h9:∀p∈Dt.L d 9,WS (Dt.fld p 1)) (h11:∀e∈Dt.L d 11,WS e):WS d
theorem ws_of:∀(N:Nat) (d:Dt),d.bulk≤N→HasTy Tryd.prog 30 d→WS d
 |0,d,h,_=>by have:=bulk_pos d;omega
 |N+1,d,h,ht=>by
  have hs:=(ty_agg Tryd.underlying30 ht).2
  have t0:HasTy Tryd.prog 3 (Dt.fld d 0):=hs 0 _ rfl
  have t2:HasTy Tryd.prog 25 (Dt.fld d 2):=hs 2 _ rfl
  have t4:HasTy Tryd.prog 25 (Dt.fld d 4):=hs 4 _ rfl
  have t5:HasTy Tryd.prog 22 (Dt.fld d 5):=hs 5 _ rfl
  have t9:HasTy Tryd.prog 27 (Dt.fld d 9):=hs 9 _ rfl
  have t11:HasTy Tryd.prog 28 (Dt.fld d 11):=hs 11 _ rfl
  have r0:=(ty_int Tryd.underlying3 t0).2
  simp only[IntKind.min,IntKind.max,IntKind.signed,IntKind.bits] at r0
  refine .mk ⟨by have:=r0.1;simp at this;exact this,by have:=r0.2;simp at this;show (Dt.fld d 0).toInt≤_;omega⟩ (wv_of t2) (wv_of t4) (fun e he=>wv_of ((ty_lst Tryd.underlying22 t5).2.2 e he)) (fun p hp=>?_) fun e he=>?_
  ·have tp:=(ty_lst Tryd.underlying27 t9).2.2 p hp
   have tq:HasTy Tryd.prog 30 (Dt.fld p 1):=(ty_agg Tryd.underlying51 tp).2 1 _ rfl
   have h1:=L_mem (d:=d) (i:=9) hp
   have h2:=fld_bulk p 1
   exact ws_of N _ (by omega) tq
  ·have tp:=(ty_lst Tryd.underlying28 t11).2.2 e he
   have h1:=L_mem (d:=d) (i:=11) he
   exact ws_of N _ (by omega) tp
theorem bic_zero (a:BitVec 64):(a&&& ~~~(4094#64))=0#64↔a.toNat<4096∧a.toNat%2=0:=by
 have key:(a&&& ~~~(4094#64))=0#64↔∀i,i<64→a.getLsbD i=true→(4094#64).getLsbD i=true:=by
  rw[BitVec.eq_of_getLsbD_eq_iff]
  refine⟨fun h i hi ha=>?_,fun h i hi=>?_⟩
  ·have:=h i hi
   simp only[BitVec.getLsbD_and,BitVec.getLsbD_not,BitVec.getLsbD_zero,hi,decide_true,Bool.true_and,ha] at this
   simpa using this
  ·simp only[BitVec.getLsbD_and,BitVec.getLsbD_not,BitVec.getLsbD_zero,hi,decide_true,Bool.true_and]
   cases ha:a.getLsbD i
   ·rfl
   ·rw[h i hi ha];rfl
 rw[key]
 have hm:∀i,i<64→(4094#64).getLsbD i=(decide (1≤i)&&decide (i<12)):=by decide
 refine⟨fun h=>⟨?_,?_⟩,fun⟨h1,h2⟩ i hi ha=>?_⟩
 ·refine Nat.lt_pow_two_of_testBit (n:=12) _ fun i hi=>?_
  rcases Nat.lt_or_ge i 64 with h64|h64
  ·cases ha:a.toNat.testBit i
   ·rfl
   ·    have:=h i h64 (by rw[BitVec.getLsbD];exact ha)
        rw[hm i h64] at this
        simp at this;omega
  ·exact Nat.testBit_lt_two_pow (Nat.lt_of_lt_of_le a.isLt (Nat.pow_le_pow_right (by omega) h64))
 ·cases ha:a.toNat.testBit 0
  ·rw[Nat.testBit_zero] at ha;simp at ha;omega
  ·have:=h 0 (by omega) (by rw[BitVec.getLsbD];exact ha)
   rw[hm 0 (by omega)] at this
   simp at this
 ·rw[   hm i hi]
  rw[BitVec.getLsbD] at ha
  have g1:1≤i:=by
   rcases Nat.eq_zero_or_pos i with rfl|h0
   ·rw[Nat.testBit_zero] at ha;simp at ha;omega
   ·exact h0
  have g2:i<12:=by
   rcases Nat.lt_or_ge i 12 with g|g
   ·exact g
   ·    have:=Nat.testBit_lt_two_pow (Nat.lt_of_lt_of_le h1 (show 4096≤2^i from Nat.pow_le_pow_right (n:=2) (i:=12) (by omega) g))
        rw[this] at ha;cases ha
  simp[g1,g2]
theorem bic_eq (k:Int) (h1: -9223372036854775808≤k) (h2:k≤9223372036854775807):(bicI .i64 k 4094 !=0)=(decide (k<0)||Int.tmod k 2==1||decide (4096≤k)):=by
 have hb:BitVec.ofInt 64 (4094:Int)=4094#64:=by decide
 have hz:=bic_zero (BitVec.ofInt 64 k)
 have hn:(BitVec.ofInt 64 k).toNat=(k%18446744073709551616).toNat:=by simp[BitVec.toNat_ofInt]
 have hw:∀x:BitVec 64,(IntKind.wrap .i64 (x.toNat:Int)=0)↔x=0#64:=fun x=>by
  have hx:=x.isLt
  rw[←BitVec.toNat_inj]
  unfold IntKind.wrap
  simp only[IntKind.bits,IntKind.signed,Bool.true_and,Nat.add_one_sub_one]
  split<;>rename_i h<;>simp only[ge_iff_le,decide_eq_true_eq] at h<;>simp<;>omega
 have e:(bicI .i64 k 4094=0)↔(0≤k∧k<4096∧k%2=0):=by
  unfold bicI
  show (IntKind.wrap .i64 (((BitVec.ofInt 64 k&&& ~~~(BitVec.ofInt 64 4094)).toNat:Nat):Int)=0)↔_
  rw[hb,hw,hz,hn]
  omega
 rw[Bool.eq_iff_iff]
 simp only[bne_iff_ne,ne_eq,e,Bool.or_eq_true,decide_eq_true_eq,beq_iff_eq]
 by_cases h0:k<0
 ·simp[h0];omega
 ·have:Int.tmod k 2=k%2:=Int.tmod_eq_emod_of_nonneg (by omega)
  rw[this]
  omega
def zeroB (v:Dt):Bool:=Dt.I v 0==0&&Dt.I v 1==0&&(Dt.S v 2).toList==[]&&((Dt.L v 3).length:Int)==0&&((Dt.L v 4).length:Int)==0
def bndB (has:Bool) (v:Dt):Bool:=bif has then okV v else zeroB v
def badA (s:Dt):Bool:=(decide (Dt.I s 0<0)||Int.tmod (Dt.I s 0) 2==1||decide (4096≤Dt.I s 0))||decide (Dt.I s 6<0)||decide (Dt.I s 7< -1)||decide ((1:Int)<((Dt.L s 11).length:Int))
def rest8 (s:Dt):Int:=bif bndB (Dt.B s 1) (Dt.fld s 2)&&bndB (Dt.B s 3) (Dt.fld s 4)&&(Dt.L s 5).all okV then 0 else 8
def rest1 (s:Dt):Int:=bif badA s then 1 else rest8 s
def sgl (s:Dt):Int:=bif difS nm [] ((Dt.L s 8).map Dt.toStr)&&difS nm [] ((Dt.L s 9).map fun p=>Dt.S p 0) then rest1 s else 9
theorem bound_eq (has:Bool) {v:Dt} (hw:WV v) (m:Nat) (hm:3*v.bulk+300≤m) (hb:v.bulk≤100000000000):schema_bound (m+4) has v=some (bndB has v):=by
 simp only[schema_bound,vValid_eq hw m hm hb,Option.bind_some,bndB,zeroB,schema_bound_j0]
 cases has
 ·simp only[cond_false]
  cases (Dt.I v 0==0)<;>cases (Dt.I v 1==0)<;>cases ((Dt.S v 2).toList==[])<;>cases (((Dt.L v 3).length:Int)==0)<;>rfl
 ·rfl
theorem enum_p (m:Nat) (L:List Dt) (hl:L.length<9223372036854775807) (hv:∀e∈L,value_Valid m e=some (okV e)):∀(M i:Nat),i≤L.length→L.length-i<M→schema_checkOne_l19 m M L (L.length:Int) (i:Int)=some (bif (L.drop i).all okV then 0 else 8)
 |0,i,_,h=>by omega
 |M+1,i,hi,h=>by
  simp only[schema_checkOne_l19,dlt]
  by_cases hlt:i<L.length
  ·rw[List.drop_eq_getElem_cons hlt,List.all_cons]
   simp only[hlt,decide_true,cond_true,schema_checkOne_j20,schema_checkOne_j21,idx_lt hlt,Option.bind_some,hv _ (List.getElem_mem hlt),wrapS (show i<9223372036854775807 by omega),enum_p m L hl hv M (i+1) (by omega) (by omega)]
   cases okV L[i]<;>rfl
  ·have:i=L.length:=by omega
   subst this
   simp[schema_checkOne_j22]
theorem props_p (m:Nat) (hm:34≤m) (s:Dt) (r:Int) (hr:schema_checkOne_j13 m s=some r) (L:List Dt) (hl:L.length<9223372036854775807):∀(M i:Nat) (mp:List Dt),i≤L.length→L.length-i<M→MapS mp ((L.take i).map fun p=>Dt.S p 0)→
  schema_checkOne_l8 m M L (L.length:Int) (i:Int) s mp=some (bif difS nm ((L.take i).map fun p=>Dt.S p 0) ((L.drop i).map fun p=>Dt.S p 0) then r else 9)
 |0,i,_,_,h,_=>by omega
 |M+    1,i,mp,hi,h,hmp=>by
  obtain⟨m,rfl⟩:∃q,m=q+1:=⟨m-1,by omega⟩
  simp only[schema_checkOne_l8,dlt]
  by_cases hlt:i<L.length
  ·have hp:=hmp (Dt.S L[i] 0)
   have hmp':=mapS_put hmp (Dt.S L[i] 0)
   have et:(L.take (i+1)).map (fun f=>Dt.S f 0)=((L.take i).map fun f=>Dt.S f 0)++[Dt.S L[i] 0]:=by
        rw[List.take_succ_eq_append_getElem hlt,List.map_append];rfl
   rw[←et] at hmp'
   have ih:=props_p (m+1) hm s r hr L hl M (i+1) _ (by omega) (by omega) hmp'
   rw[List.drop_eq_getElem_cons hlt,List.map_cons,difS,←et]
   simp only[hlt,decide_true,cond_true,schema_checkOne_j9,schema_checkOne_j10,schema_checkOne_j11,schema_checkOne_j12,idx_lt hlt,Option.bind_some,hp,schema_isName_nm m (by omega),wrapS (show i<9223372036854775807 by omega),ih]
   cases nm (Dt.S L[i] 0)<;>cases ((L.take i).map fun f=>Dt.S f 0).any (eqb (Dt.S L[i] 0))<;>rfl
  ·have:i=L.length:=by omega
   subst this
   simp[hr,difS]
theorem req_p (m:Nat) (hm:34≤m) (s:Dt) (r:Int) (hr:schema_checkOne_j6 m s=some r) (L:List Dt) (hl:L.length<9223372036854775807):∀(M i:Nat) (mp:List Dt),i≤L.length→L.length-i<M→MapS mp ((L.take i).map Dt.toStr)→
  schema_checkOne_l1 m M L (L.length:Int) (i:Int) s mp=some (bif difS nm ((L.take i).map Dt.toStr) ((L.drop i).map Dt.toStr) then r else 9)
 |0,i,_,_,h,_=>by omega
 |M+    1,i,mp,hi,h,hmp=>by
  obtain⟨m,rfl⟩:∃q,m=q+1:=⟨m-1,by omega⟩
  simp only[schema_checkOne_l1,dlt]
  by_cases hlt:i<L.length
  ·have hp:=hmp (L[i]).toStr
   have hmp':=mapS_put hmp (L[i]).toStr
   have et:(L.take (i+1)).map Dt.toStr=((L.take i).map Dt.toStr)++[(L[i]).toStr]:=by
        rw[List.take_succ_eq_append_getElem hlt,List.map_append];rfl
   rw[←et] at hmp'
   have ih:=req_p (m+1) hm s r hr L hl M (i+1) _ (by omega) (by omega) hmp'
   rw[List.drop_eq_getElem_cons hlt,List.map_cons,difS,←et]
   simp only[hlt,decide_true,cond_true,schema_checkOne_j2,schema_checkOne_j3,schema_checkOne_j4,schema_checkOne_j5,idx_lt hlt,Option.bind_some,hp,schema_isName_nm m (by omega),wrapS (show i<9223372036854775807 by omega),ih]
   cases nm (L[i]).toStr<;>cases ((L.take i).map Dt.toStr).any (eqb (L[i]).toStr)<;>rfl
  ·have:i=L.length:=by omega
   subst this
   simp[hr,difS]
theorem checkOne_eq {s:Dt} (hw:WS s) (m:Nat) (hm:3*s.bulk+400≤m) (hb:s.bulk≤1000000000):schema_checkOne (m+10) s=some (sgl s):=by
 cases hw with
 |mk h0 h2 h4 h5 h9 h11=>
  have b2:=fld_bulk s 2
  have b4:=fld_bulk s 4
  have l5:=L_len s 5
  have l8:=L_len s 8
  have l9:=L_len s 9
  have u1:schema_bound (m+9) (Dt.B s 1) (Dt.fld s 2)=_:=bound_eq (Dt.B s 1) h2 (m+5) (by omega) (by omega)
  have u2:schema_bound (m+9) (Dt.B s 3) (Dt.fld s 4)=_:=bound_eq (Dt.B s 3) h4 (m+5) (by omega) (by omega)
  have en:=enum_p (m+9) (Dt.L s 5) (by omega) (fun e he=>vValid_eq (h5 e he) (m+6) (by have:=L_mem (d:=s) (i:=5) he;omega) (by have:=L_mem (d:=s) (i:=5) he;omega)) (m+10) 0 (Nat.zero_le _) (by omega)
  rw[List.drop_zero] at en
  have en':schema_checkOne_l19 (m+9) (Nat.succ (m+9)) (Dt.L s 5) ((Dt.L s 5).length:Int) 0=_:=en
  have e13:schema_checkOne_j13 (m+9) s=some (rest1 s):=by
   have e15:schema_checkOne_j15 (m+9) s=some (rest8 s):=by
        simp only[schema_checkOne_j15,schema_checkOne_j16,schema_checkOne_j17,schema_checkOne_j18,u1,u2,en',Option.bind_some,rest8]
        cases bndB (Dt.B s 1) (Dt.fld s 2)<;>cases bndB (Dt.B s 3) (Dt.fld s 4)<;>cases (Dt.L s 5).all okV<;>rfl
   simp only[schema_checkOne_j13,schema_checkOne_j14,e15,rest1,badA,bic_eq _ h0.1 h0.2]
   cases (decide (Dt.I s 0<0)||Int.tmod (Dt.I s 0) 2==1||decide (4096≤Dt.I s 0))<;>cases decide (Dt.I s 6<0)<;>cases decide (Dt.I s 7< -1)<;>cases decide ((1:Int)<((Dt.L s 11).length:Int))<;>rfl
  have pp:=props_p (m+9) (by omega) s _ e13 (Dt.L s 9) (by omega) (m+10) 0 [] (Nat.zero_le _) (by omega) mapS_nil
  have e6:schema_checkOne_j6 (m+9) s=some (bif difS nm [] ((Dt.L s 9).map fun p=>Dt.S p 0) then rest1 s else 9):=by
   simp only[schema_checkOne_j6,schema_checkOne_j7]
   exact pp
  have rp:=req_p (m+9) (by omega) s _ e6 (Dt.L s 8) (by omega) (m+10) 0 [] (Nat.zero_le _) (by omega) mapS_nil
  have e:schema_checkOne (m+10) s=some (bif difS nm [] ((Dt.L s 8).map Dt.toStr) then(bif difS nm [] ((Dt.L s 9).map fun p=>Dt.S p 0) then rest1 s else 9) else 9):=by
   simp only[schema_checkOne,schema_checkOne_j0]
   exact rp
  rw[e,sgl]
  cases difS nm [] ((Dt.L s 8).map Dt.toStr)<;>cases difS nm [] ((Dt.L s 9).map fun p=>Dt.S p 0)<;>rfl
end Go.Proofs.YtfneddmmeadacaaDoor
namespace Go.Proofs.YtfneddmmeadacaaDoor
open Go.Am
def ChkOK (p:Int→Int→Option (Int×Int)) (q:Int→Int→Option (Int×Int)):Prop:=
 ∀level seen:Nat,level≤17→seen≤64→∃(e n:Int) (k:Int),p (level:Int) (seen:Int)=some (e,n)∧q ((seen+1:Nat):Int) (level:Int)=some (k,e)∧(e=0→k=n∧level≤16∧∃n':Nat,n=(n':Int)∧n'≤64)
end Go.Proofs.YtfneddmmeadacaaDoor
namespace Go.Proofs.YtfneddmmeadacaaDoor
open Go.Am
theorem sc_items (m:Nat) (self:Dt→Int→Option Int) (d:Dt) (x0:Int) (hl:(Dt.L d 11).length<9223372036854775807) (hs:∀e∈Dt.L d 11,∀b,∃r,self e b=some r):∀(M i:Nat) (x1:Int),i≤(Dt.L d 11).length→(Dt.L d 11).length-i<M→∃r,ref14_Count_l6 m self M x0 x1 (i:Int) d=some r
 |0,i,_,_,h=>by omega
 |M+    1,i,x1,hi,h=>by
  simp only[ref14_Count_l6,dlt]
  by_cases hlt:i<(Dt.L d 11).length
  ·simp only[hlt,decide_true,cond_true]
   cases decide (x1<x0)
   ·exact⟨_,rfl⟩
   ·    obtain⟨r,hr⟩:=hs _ (List.getElem_mem hlt) (IntKind.wrap IntKind.i64 (x0-x1))
        simp only[cond_true,ref14_Count_j3,ref14_Count_j2,ref14_Count_j8,ref14_Count_j7,ref14_Count_j9,ref14_Count_j5,ref14_Count_j4,ref14_Count_j0,idx_lt hlt,Option.bind_some,hr,wrapS (show i<9223372036854775807 by omega)]
        exact sc_items m self d x0 hl hs M (i+1) _ (by omega) (by omega)
  ·simp only[hlt,decide_false,cond_false]
   exact⟨_,rfl⟩
theorem sc_props (m:Nat) (self:Dt→Int→Option Int) (d:Dt) (x0:Int) (hl:(Dt.L d 9).length<9223372036854775807) (hs:∀p∈Dt.L d 9,∀b,∃r,self (Dt.fld p 1) b=some r) (hd:∀x1,∃r,ref14_Count_l6 m self (Nat.succ m) x0 x1 0 d=some r):∀(M i:Nat) (x1:Int),i≤(Dt.L d 9).length→(Dt.L d 9).length-i<M→∃r,ref14_Count_l1 m self M x0 x1 (i:Int) d=some r
 |0,i,_,_,h=>by omega
 |M+    1,i,x1,hi,h=>by
  simp only[ref14_Count_l1,dlt]
  by_cases hlt:i<(Dt.L d 9).length
  ·simp only[hlt,decide_true,cond_true]
   cases decide (x1<x0)
   ·    simp only[cond_false,ref14_Count_j3,ref14_Count_j2,ref14_Count_j8,ref14_Count_j7,ref14_Count_j9,ref14_Count_j5,ref14_Count_j4,ref14_Count_j0]
        exact hd x1
   ·    obtain⟨r,hr⟩:=hs _ (List.getElem_mem hlt) (IntKind.wrap IntKind.i64 (x0-x1))
        simp only[cond_true,ref14_Count_j3,ref14_Count_j2,ref14_Count_j8,ref14_Count_j7,ref14_Count_j9,ref14_Count_j5,ref14_Count_j4,ref14_Count_j0,idx_lt hlt,Option.bind_some,hr,wrapS (show i<9223372036854775807 by omega)]
        exact sc_props m self d x0 hl hs hd M (i+1) _ (by omega) (by omega)
  ·simp only[hlt,decide_false,cond_false,ref14_Count_j3,ref14_Count_j2,ref14_Count_j8,ref14_Count_j7,ref14_Count_j9,ref14_Count_j5,ref14_Count_j4,ref14_Count_j0]
   exact hd x1
theorem sc_tot:∀(N:Nat) (d:Dt),d.bulk≤N→N≤100000000000→∀m,N≤m→∀b:Int,∃r,ref14_Count (m+1) d b=some r
 |0,d,h,_,_,_,_=>by have:=bulk_posA d;omega
 |N+1,d,h,hN,m,hm,b=>by
  obtain⟨m,rfl⟩:∃q,m=q+1:=⟨m-1,by omega⟩
  have l9:=L_len d 9
  have l11:=L_len d 11
  have ih:∀e:Dt,e.bulk≤N→∀b:Int,∃r,ref14_Count (m+1) e b=some r:=fun e hbe b=>sc_tot N e hbe (by omega) m (by omega) b
  have hd:∀x1,∃r,ref14_Count_l6 (m+1) (ref14_Count (m+1)) (Nat.succ (m+1)) b x1 0 d=some r:=fun x1=>sc_items (m+1) (ref14_Count (m+1)) d b (by omega) (fun e he=>ih e (by have:=L_mem (d:=d) (i:=11) he;omega)) (m+2) 0 x1 (Nat.zero_le _) (by omega)
  have hp:=sc_props (m+1) (ref14_Count (m+1)) d b (by omega) (fun p hp=>ih _ (by have:=L_mem (d:=d) (i:=9) hp;have:=fld_bulk p 1;omega)) hd (m+2) 0 1 (Nat.zero_le _) (by omega)
  rw[ref14_Count]
  simp only[ref14_Count_j3,ref14_Count_j2,ref14_Count_j8,ref14_Count_j7,ref14_Count_j9,ref14_Count_j5,ref14_Count_j4,ref14_Count_j0]
  exact hp
end Go.Proofs.YtfneddmmeadacaaDoor
namespace Go.Proofs.YtfneddmmeadacaaDoor
open Go.Am
theorem cnt_d (m:Nat) (self:Dt→Int→Int→Option Int) (d:Dt) (x0:Int) (hl:(Dt.L d 4).length<9223372036854775807) (hs:∀f∈Dt.L d 4,∀a b,∃r,self (Dt.fld f 1) a b=some r):∀(M i:Nat) (x1:Int),i≤(Dt.L d 4).length→(Dt.L d 4).length-i<M→∃r,ref02_count_l8 m self M x0 x1 (i:Int) d=some r
 |0,i,_,_,h=>by omega
 |M+    1,i,x1,hi,h=>by
  simp only[ref02_count_l8,dlt]
  by_cases hlt:i<(Dt.L d 4).length
  ·simp only[hlt,decide_true,cond_true]
   cases decide ((0:Int)≤x1)
   ·exact⟨_,rfl⟩
   ·    obtain⟨r,hr⟩:=hs _ (List.getElem_mem hlt) (IntKind.wrap IntKind.i64 (x0+1)) x1
        simp only[cond_true,ref02_count_j5,ref02_count_j4,ref02_count_j11,ref02_count_j10,ref02_count_j9,ref02_count_j12,ref02_count_j7,ref02_count_j6,ref02_count_j2,ref02_count_j1,ref02_count_j0,idx_lt hlt,Option.bind_some,hr,wrapS (show i<9223372036854775807 by omega)]
        cases decide ((200:Int)<((Dt.S (Dt.L d 4)[i] 0).size:Int))
        ·exact cnt_d m self d x0 hl hs M (i+1) _ (by omega) (by omega)
        ·exact⟨_,rfl⟩
  ·simp only[hlt,decide_false,cond_false]
   exact⟨_,rfl⟩
theorem cnt_l (m:Nat) (self:Dt→Int→Int→Option Int) (d:Dt) (x0:Int) (hl:(Dt.L d 3).length<9223372036854775807) (hs:∀e∈Dt.L d 3,∀a b,∃r,self e a b=some r) (hd:∀x1,∃r,ref02_count_l8 m self (Nat.succ m) x0 x1 0 d=some r):∀(M i:Nat) (x1:Int),i≤(Dt.L d 3).length→(Dt.L d 3).length-i<M→∃r,ref02_count_l3 m self M x0 x1 (i:Int) d=some r
 |0,i,_,_,h=>by omega
 |M+    1,i,x1,hi,h=>by
  simp only[ref02_count_l3,dlt]
  by_cases hlt:i<(Dt.L d 3).length
  ·simp only[hlt,decide_true,cond_true]
   cases decide ((0:Int)≤x1)
   ·    simp only[cond_false,ref02_count_j5,ref02_count_j4,ref02_count_j11,ref02_count_j10,ref02_count_j9,ref02_count_j12,ref02_count_j7,ref02_count_j6,ref02_count_j2,ref02_count_j1,ref02_count_j0]
        exact hd x1
   ·    obtain⟨r,hr⟩:=hs _ (List.getElem_mem hlt) (IntKind.wrap IntKind.i64 (x0+1)) x1
        simp only[cond_true,ref02_count_j5,ref02_count_j4,ref02_count_j11,ref02_count_j10,ref02_count_j9,ref02_count_j12,ref02_count_j7,ref02_count_j6,ref02_count_j2,ref02_count_j1,ref02_count_j0,idx_lt hlt,Option.bind_some,hr,wrapS (show i<9223372036854775807 by omega)]
        exact cnt_l m self d x0 hl hs hd M (i+1) _ (by omega) (by omega)
  ·simp only[hlt,decide_false,cond_false,ref02_count_j5,ref02_count_j4,ref02_count_j11,ref02_count_j10,ref02_count_j9,ref02_count_j12,ref02_count_j7,ref02_count_j6,ref02_count_j2,ref02_count_j1,ref02_count_j0]
   exact hd x1
theorem cnt_tot:∀(N:Nat) (d:Dt),d.bulk≤N→N≤100000000000→WV d→∀m,N≤m→∀a b:Int,∃r,ref02_count (m+1) d a b=some r
 |0,d,h,_,_,_,_,_,_=>by have:=bulk_pos d;omega
 |N+1,d,h,hN,hw,m,hm,a,b=>by
  obtain⟨m,rfl⟩:∃q,m=q+1:=⟨m-1,by omega⟩
  obtain⟨p1,p2,p3,p4⟩:=wv_parts hw
  have ih:∀e:Dt,WV e→e.bulk≤N→∀a b:Int,∃r,ref02_count (m+1) e a b=some r:=fun e hwe hbe a b=>cnt_tot N e hbe (by omega) hwe m (by omega) a b
  have hd:∀x1,∃r,ref02_count_l8 (m+1) (ref02_count (m+1)) (Nat.succ (m+1)) a x1 0 d=some r:=fun x1=>cnt_d (m+1) (ref02_count (m+1)) d a (by omega) (fun f hf=>ih _ (p4 f hf).1 (by have:=(p4 f hf).2;omega)) (m+2) 0 x1 (Nat.zero_le _) (by omega)
  have hl:=fun x1=>cnt_l (m+1) (ref02_count (m+1)) d a (by omega) (fun e he=>ih e (p3 e he).1 (by have:=(p3 e he).2;omega)) hd (m+2) 0 x1 (Nat.zero_le _) (by omega)
  rw[ref02_count]
  simp only[ref02_count_j5,ref02_count_j4,ref02_count_j11,ref02_count_j10,ref02_count_j9,ref02_count_j12,ref02_count_j7,ref02_count_j6,ref02_count_j2,ref02_count_j1,ref02_count_j0]
  cases decide ((40:Int)<a)
  ·cases decide ((5000:Int)<((Dt.S d 2).size:Int))
   ·exact hl _
   ·exact⟨_,rfl⟩
  ·exact⟨_,rfl⟩
theorem few_tot {d:Dt} (hw:WV d) (hb:d.bulk≤100000000000) (m:Nat) (hm:d.bulk≤m) (n:Int):∃b,ref02_Few (m+2) d n=some b:=by
 obtain⟨r,h⟩:=cnt_tot d.bulk d (Nat.le_refl _) hb hw m hm 1 n
 refine⟨decide ((0:Int)≤r),?_⟩
 simp only[ref02_Few,h,Option.bind_some]
end Go.Proofs.YtfneddmmeadacaaDoor
