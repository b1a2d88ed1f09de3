/- Expressions: the first error of a tree; the zero expression; program and reference. -/
import Derived.Test.YtbailjcjlapenaaGreatDoorWA
set_option linter.unusedVariables false
set_option linter.unusedSimpArgs false
namespace Go.Proofs.YtbailjcjlapenaaGreatDoor
open Go.Am
inductive WE:Dt→Prop where
 |mk {d:Dt} (h4:WV (Dt.fld d 4)) (h6:∀e∈Dt.L d 6,WE e):WE d
theorem we_of:∀(N:Nat) (d:Dt),d.bulk≤N→HasTy Tryz.prog 29 d→WE d
 |0,d,h,_=>by have:=bulk_pos d;omega
 |N+1,d,h,ht=>by
  have hs:=(ty_agg Tryz.underlying29 ht).2
  have t4:HasTy Tryz.prog 26 (Dt.fld d 4):=hs 4 _ rfl
  have t6:HasTy Tryz.prog 27 (Dt.fld d 6):=hs 6 _ rfl
  refine .mk (wv_of t4) fun e he=>?_
  have tp:=(ty_lst Tryz.underlying27 t6).2.2 e he
  have h1:=L_mem (d:=d) (i:=6) he
  exact we_of N _ (by omega) tp
def ckL (f:Dt→Nat→Nat×Int):List Dt→Nat→Nat×Int
 | [],n=>(n,0)
 |e::r,n=>bif (f e n).2 !=0 then f e n else ckL f r (f e n).1
def ckE:Nat→Dt→Nat→Nat×Int
 |0,_,n=>(n,2)
 |r+1,d,n=>bif Nat.beq n 256 then(n,2) else bif nodeS d !=0 then(n+1,nodeS d) else ckL (ckE r) (Dt.L d 6) (n+1)
theorem ckL_le {f:Dt→Nat→Nat×Int} (h:∀e n,n≤256→(f e n).1≤256):∀(l:List Dt) (n:Nat),n≤256→(ckL f l n).1≤256
 | [],n,hn=>hn
 |e::r,n,hn=>by
  rw[ckL]
  cases ((f e n).2 !=0) with
  |true=>exact h e n hn
  |false=>exact ckL_le h r _ (h e n hn)
theorem ckE_le:∀(r:Nat) (d:Dt) (n:Nat),n≤256→(ckE r d n).1≤256
 |0,d,n,hn=>hn
 |r+1,d,n,hn=>by
  rw[ckE]
  cases hb:Nat.beq n 256 with
  |true=>exact hn
  |false=>
   have:n≠256:=fun h=>by subst h;cases hb
   cases (nodeS d !=0) with
   |true=>show n+1≤256;omega
   |false=>exact ckL_le (fun e n h=>ckE_le r e n h) _ _ (by omega)
theorem ckl_prog (m:Nat) (self:Dt→Int→Int→Option (Int×Int)) (f:Dt→Nat→Nat×Int) (lv:Int) (h0:0≤lv∧lv≤17) (L:List Dt) (hl:L.length<9223372036854775807) (hf:∀e n,n≤256→(f e n).1≤256)
  (hs:∀e∈L,∀n:Nat,n≤256→self e (lv+1) (n:Int)=some ((f e n).2,((f e n).1:Int))):∀(M i n:Nat),i≤L.length→L.length-i<M→n≤256→
  i43_l4 m self M lv L (L.length:Int) (i:Int) (n:Int)=some ((ckL f (L.drop i) n).2,((ckL f (L.drop i) n).1:Int))
 |0,i,_,_,h,_=>by omega
 |M+    1,i,n,hi,h,hn=>by
  rw[i43_l4,dlt]
  by_cases hlt:i<L.length
  ·have hsi:=hs _ (List.getElem_mem hlt) n hn
   have hfi:=hf L[i] n hn
   rw[decide_eq_true hlt,cond_true,i43_j5,idx_lt hlt,Option.bind_some,wrap64 (n:=lv+1) (by omega) (by omega),hsi,Option.bind_some,List.drop_eq_getElem_cons hlt,ckL]
   show (bif (f L[i] n).2 !=0 then some ((f L[i] n).2,((f L[i] n).1:Int)) else i43_j6 m self (i43_l4 m self M) lv L (L.length:Int) (i:Int) ((f L[i] n).1:Int))=_
   cases ((f L[i] n).2 !=0) with
   |true=>rfl
   |    false=>
        rw[cond_false,cond_false,i43_j6,wrapS (by omega)]
        exact ckl_prog m self f lv h0 L hl hf hs M (i+1) _ (by omega) (by omega) hfi
  ·have e:i=L.length:=by omega
   subst e
   rw[decide_eq_false hlt,List.drop_length,ckL]
   rfl
theorem chk_prog (B:Nat) (hB:B≤100000000) (k:Nat) (hk:3*B+400≤k) (hk2:k<9223372036854760000):∀(r:Nat),r≤16→∀(d:Dt) (n:Nat),WE d→d.bulk≤B→n≤256→
  i43 (k+r+6) d ((17:Int)-(r:Int)) (n:Int)=some ((ckE r d n).2,((ckE r d n).1:Int))
 |0,_,d,n,_,_,_=>rfl
 |r+    1,hr,d,n,hw,hb,hn=>by
  rw[show k+(r+1)+6=(k+r+6)+1 by omega,i43,decide_eq_false (by omega),cond_false,i43_j0,ckE]
  by_cases h256:n=256
  ·subst h256;rfl
  ·have e1:(((n:Nat):Int)==256)=false:=by rw[beq_eq_false_iff_ne];omega
   have e2:Nat.beq n 256=false:=by
        cases hh:Nat.beq n 256 with
        |false=>rfl
        |true=>exact absurd (Nat.eq_of_beq_eq_true hh) h256
   have hw':=hw
   cases hw' with
   |    mk h4 h6=>
        have hb4:=fld_bulk d 4
        have hl3:=L_len d 3
        have hl6:=L_len d 6
        rw[e1,e2,cond_false,cond_false,i43_j1,show k+r+6=(k+r+1)+5 by omega,node_prog (k+r+1) d h4 (by omega) (by omega) (by omega) (by omega),Option.bind_some,wrapS (by omega)]
        cases (nodeS d !=0) with
        |true=>rfl
        |false=>
         rw[cond_false,cond_false,i43_j2,i43_j3]
         have key:=ckl_prog ((k+r+1)+5) (i43 ((k+r+1)+5)) (ckE r) ((17:Int)-((r+1:Nat):Int)) (by omega) (Dt.L d 6) (by omega) (fun e n h=>ckE_le r e n h) (fun e he n hn=>by
          have hm:=L_mem he
          have:=chk_prog B hB k hk hk2 r (by omega) e n (h6 e he) (by omega) hn
          rw[show k+r+6=(k+r+1)+5 by omega] at this
          rw[←this]
          congr 1
          omega) ((k+r+1)+6) 0 (n+1) (Nat.zero_le _) (by omega) (by omega)
         rw[List.drop_zero] at key
         exact key
theorem eval_prog (B:Nat) (hB:B≤100000000) (k:Nat) (hk:3*B+400≤k) (hk2:k<9223372036854760000) (d:Dt) (hw:WE d) (hb:d.bulk≤B):expr_Valid (k+23) d=some (ckE 16 d 0).2:=by
 have h:=chk_prog B hB k hk hk2 16 (Nat.le_refl _) d 0 hw hb (by omega)
 rw[expr_Valid]
 have h':i43 (k+22) d 1 0=some ((ckE 16 d 0).2,((ckE 16 d 0).1:Int)):=h
 rw[h']
 rfl
theorem ckl_ref (m:Nat) (self:Dt→Int→Int→Option (Int×Int)) (f:Dt→Nat→Nat×Int) (lv:Int) (h0:0≤lv∧lv≤17) (d:Dt) (hl:(Dt.L d 6).length<9223372036854775807) (hf:∀e n,n≤256→(f e n).1≤256)
  (hs:∀e∈Dt.L d 6,∀n:Nat,n≤256→∃a,self e (((n+1:Nat)):Int) (lv+1)=some (a,(f e n).2)∧((f e n).2=0→a=((f e n).1:Int))):∀(M i n:Nat),i≤(Dt.L d 6).length→(Dt.L d 6).length-i<M→n≤256→
  ∃a,ref08_check_l4 m self M (n:Int) lv (i:Int) d=some (a,(ckL f ((Dt.L d 6).drop i) n).2)∧((ckL f ((Dt.L d 6).drop i) n).2=0→a=((ckL f ((Dt.L d 6).drop i) n).1:Int))
 |0,i,_,_,h,_=>by omega
 |M+    1,i,n,hi,h,hn=>by
  rw[ref08_check_l4,dlt]
  by_cases hlt:i<(Dt.L d 6).length
  ·obtain⟨a,a1,a2⟩:=hs _ (List.getElem_mem hlt) n hn
   have hfi:=hf (Dt.L d 6)[i] n hn
   rw[decide_eq_true hlt,cond_true,ref08_check_j5,idx_lt hlt,Option.bind_some,wrap64 (n:=lv+1) (by omega) (by omega),wrapS (by omega),a1,Option.bind_some,List.drop_eq_getElem_cons hlt,ckL]
   show ∃a',(bif (f (Dt.L d 6)[i] n).2 !=0 then some (a,(f (Dt.L d 6)[i] n).2) else ref08_check_j6 m self (ref08_check_l4 m self M) lv (i:Int) a d)=_∧_
   cases hz:((f (Dt.L d 6)[i] n).2 !=0) with
   |    true=>
        refine⟨a,rfl,fun h=>?_⟩
        rw[cond_true] at h
        rw[h] at hz
        cases hz
   |    false=>
        have hz':(f (Dt.L d 6)[i] n).2=0:=by simpa [bne] using hz
        rw[cond_false,cond_false,ref08_check_j6,ref08_check_j7,wrapS (by omega),a2 hz']
        exact ckl_ref m self f lv h0 d hl hf hs M (i+1) _ (by omega) (by omega) hfi
  ·have e:i=(Dt.L d 6).length:=by omega
   subst e
   rw[decide_eq_false hlt,List.drop_length,ckL]
   exact⟨_,rfl,fun _=>rfl⟩
theorem chk_ref (B:Nat) (hB:B≤100000000) (k:Nat) (hk:3*B+400≤k) (hk2:k<9223372036854760000):∀(r:Nat),r≤16→∀(d:Dt) (n:Nat),WE d→d.bulk≤B→n≤256→
  ∃a,ref08_check (k+r+6) d ((n+1:Nat):Int) ((17:Int)-(r:Int))=some (a,(ckE r d n).2)∧((ckE r d n).2=0→a=((ckE r d n).1:Int))
 |0,_,d,n,_,_,_=>⟨_,rfl,fun h=>by cases h⟩
 |r+    1,hr,d,n,hw,hb,hn=>by
  rw[show k+(r+1)+6=(k+r+6)+1 by omega,ref08_check,decide_eq_false (by omega),cond_false,ref08_check_j0,ckE]
  by_cases h256:n=256
  ·subst h256;exact⟨_,rfl,fun h=>by cases h⟩
  ·have e1:decide ((256:Int)<((n+1:Nat):Int))=false:=decide_eq_false (by omega)
   have e2:Nat.beq n 256=false:=by
        cases hh:Nat.beq n 256 with
        |false=>rfl
        |true=>exact absurd (Nat.eq_of_beq_eq_true hh) h256
   have hw':=hw
   cases hw' with
   |    mk h4 h6=>
        have hb4:=fld_bulk d 4
        have hl3:=L_len d 3
        have hl6:=L_len d 6
        rw[e1,e2,cond_false,cond_false,ref08_check_j1,show k+r+6=(k+r+1)+5 by omega,node_ref (k+r+1) d h4 (by omega) (by omega) (by omega) (by omega),Option.bind_some]
        cases hz:(nodeS d !=0) with
        |true=>
         refine⟨_,rfl,fun h=>?_⟩
         have h:nodeS d=0:=h
         rw[h] at hz
         cases hz
        |false=>
         rw[cond_false,cond_false,ref08_check_j2,ref08_check_j3]
         have key:=ckl_ref ((k+r+1)+5) (ref08_check ((k+r+1)+5)) (ckE r) ((17:Int)-((r+1:Nat):Int)) (by omega) d (by omega) (fun e n h=>ckE_le r e n h) (fun e he n hn=>by
          have hm:=L_mem he
          obtain⟨a,a1,a2⟩:=chk_ref B hB k hk hk2 r (by omega) e n (h6 e he) (by omega) hn
          rw[show k+r+6=(k+r+1)+5 by omega] at a1
          refine⟨a,?_,a2⟩
          rw[←a1]
          congr 1
          omega) ((k+r+1)+6) 0 (n+1) (Nat.zero_le _) (by omega) (by omega)
         rw[List.drop_zero] at key
         exact key
theorem eval_ref (B:Nat) (hB:B≤100000000) (k:Nat) (hk:3*B+400≤k) (hk2:k<9223372036854760000) (d:Dt) (hw:WE d) (hb:d.bulk≤B):ref08_Valid (k+23) d=some (ckE 16 d 0).2:=by
 obtain⟨a,h,_⟩:=chk_ref B hB k hk hk2 16 (Nat.le_refl _) d 0 hw hb (by omega)
 rw[ref08_Valid]
 have h':ref08_check (k+22) d 1 1=some (a,(ckE 16 d 0).2):=h
 rw[h']
 rfl
def zex (d:Dt):Bool:=(Dt.I d 0==0)&&(((Dt.L d 1).length:Int)==0)&&(ByteArray.toList (Dt.S d 2)==[])&&(((Dt.L d 3).length:Int)==0)&&zvl (Dt.fld d 4)&&(Dt.I d 5==0)&&(((Dt.L d 6).length:Int)==0)
theorem zex_prog (m:Nat) (d:Dt):pipeline_zeroExpr (m+2) d=some (zex d):=by
 rw[pipeline_zeroExpr,pipeline_zeroValue_zv,Option.bind_some,zex]
 cases (Dt.I d 0==0)<;>cases (((Dt.L d 1).length:Int)==0)<;>cases (ByteArray.toList (Dt.S d 2)==[])<;>cases (((Dt.L d 3).length:Int)==0)<;>cases zvl (Dt.fld d 4)<;>cases (Dt.I d 5==0)<;>rfl
theorem same_nil (m:Nat) (l:List Dt):ref04_Same (m+2) l []=some (((l.length:Nat):Int)==0):=by
 rw[ref04_Same,List.length_nil]
 cases l with
 |nil=>rfl
 |cons a r=>
  rw[show ((((a::r).length:Nat):Int)==((0:Nat):Int))=false by rw[beq_eq_false_iff_ne,List.length_cons];omega]
  rw[show ((((a::r).length:Nat):Int)==0)=false by rw[beq_eq_false_iff_ne,List.length_cons];omega]
  rfl
theorem zex_ref (m:Nat) (d:Dt):ref31_zeroExpr (m+4) d=some (zex d):=by
 have hs:ref01_Same (m+2) (Dt.fld d 4) zVl=some (zvl (Dt.fld d 4)):=rsame_zv m _
 have key:ref23_SameExpr (m+3) d (.agg [.int 0,.lst [],.str (ByteArray.mk (List.toArray [])),.lst [],zVl,.int 0,.lst []])=some (zex d):=by
  have hI0:∀a b c e f g h:Dt,Dt.I (.agg [a,b,c,e,f,g,h]) 0=a.toInt:=fun _ _ _ _ _ _ _=>rfl
  have hI5:∀a b c e f g h:Dt,Dt.I (.agg [a,b,c,e,f,g,h]) 5=g.toInt:=fun _ _ _ _ _ _ _=>rfl
  have hL1:∀a b c e f g h:Dt,Dt.L (.agg [a,b,c,e,f,g,h]) 1=b.toLst:=fun _ _ _ _ _ _ _=>rfl
  have hL3:∀a b c e f g h:Dt,Dt.L (.agg [a,b,c,e,f,g,h]) 3=e.toLst:=fun _ _ _ _ _ _ _=>rfl
  have hL6:∀a b c e f g h:Dt,Dt.L (.agg [a,b,c,e,f,g,h]) 6=h.toLst:=fun _ _ _ _ _ _ _=>rfl
  have hf4:∀a b c e f g h:Dt,Dt.fld (.agg [a,b,c,e,f,g,h]) 4=f:=fun _ _ _ _ _ _ _=>rfl
  have hS:∀a b e f g h:Dt,ByteArray.toList (Dt.S (.agg [a,b,.str (ByteArray.mk (List.toArray [])),e,f,g,h]) 2)=[]:=fun _ _ _ _ _ _=>by show ByteArray.toList _=[];rw[ByteArray.toList_eq];rfl
  rw[ref23_SameExpr,zex]
  simp only[hI0,hI5,hL1,hL3,hL6,hf4,hS,Dt.toInt,Dt.toLst,same_nil,hs,Option.bind_some,bneq,List.length_nil,show ((0:Nat):Int)=0 from rfl]
  cases (Dt.I d 0==0)<;>simp only[Bool.not_true,Bool.not_false,cond_true,cond_false,ref23_SameExpr_j0,Bool.false_and,Bool.true_and]
  cases (((Dt.L d 1).length:Int)==0)<;>simp only[Bool.not_true,Bool.not_false,cond_true,cond_false,ref23_SameExpr_j0,Bool.false_and,Bool.true_and]
  cases (ByteArray.toList (Dt.S d 2)==[])<;>simp only[Bool.not_true,Bool.not_false,cond_true,cond_false,ref23_SameExpr_j0,Bool.false_and,Bool.true_and]
  cases (((Dt.L d 3).length:Int)==0)<;>simp only[Bool.not_true,Bool.not_false,cond_true,cond_false,ref23_SameExpr_j0,Bool.false_and,Bool.true_and]
  cases zvl (Dt.fld d 4)<;>simp only[Bool.not_true,Bool.not_false,cond_true,cond_false,ref23_SameExpr_j0,Bool.false_and,Bool.true_and]
  cases (Dt.I d 5==0)<;>simp only[Bool.not_true,Bool.not_false,cond_true,cond_false,ref23_SameExpr_j0,Bool.false_and,Bool.true_and]
  cases h6:(((Dt.L d 6).length:Int)==0)<;>simp only[Bool.not_true,Bool.not_false,cond_true,cond_false,ref23_SameExpr_j0,Bool.false_and,Bool.true_and]
  have e6:Dt.L d 6=[]:=List.length_eq_zero_iff.1 (by have:=(beq_iff_eq).1 h6;omega)
  rw[ref23_SameExpr_j1,ref23_SameExpr_j2,ref23_SameExpr_l3,e6]
  rfl
 rw[ref31_zeroExpr]
 have key':ref23_SameExpr (m+3) d (Dt.agg [(Dt.int 0),(Dt.lst []),(Dt.str (ByteArray.mk (List.toArray []))),(Dt.lst []),(Dt.agg [(Dt.int 0),(Dt.int 0),(Dt.str (ByteArray.mk (List.toArray []))),(Dt.lst []),(Dt.lst [])]),(Dt.int 0),(Dt.lst [])])=some (zex d):=key
 refine(congrArg (fun o:Option Bool=>o.bind fun r0=>some r0) key').trans ?_
 rfl
end Go.Proofs.YtbailjcjlapenaaGreatDoor
