/- The law: Near. -/
import Derived.Test.YtameompfdamfpaaGreatDoorRNw
import Derived.Test.YtameompfdamfpaaGreatDoorMC
import Derived.Test.YtameompfdamfpaaGreatDoorFx
set_option linter.unusedVariables false
set_option linter.unusedSimpArgs false
namespace Go.Proofs.YtameompfdamfpaaGreatDoor
open Go.Am Go.Am.Srt
theorem le_mx (f:Dt→Nat):∀{L:List Dt} {e:Dt},e∈L→f e≤mx f L
 |x::r,e,h=>by
  simp only[mx]
  rcases List.mem_cons.1 h with rfl|h
  ·exact Nat.le_max_left _ _
  ·exact Nat.le_trans (le_mx f h) (Nat.le_max_right _ _)
theorem dl_of:∀(n:Nat) (d:Dt),WV d→dpt d≤n→DL n d
 |0,d,hw,h=>by rw[dpt_eq hw] at h;omega
 |n+1,d,hw,h=>by
  intro e he
  rw[dpt_eq hw] at h
  have:=le_mx dpt he
  exact dl_of n e (prts_wv hw e he).1 (by omega)
theorem okV_doc {d:Dt} (hw:WV d) (h5:Dt.I d 0=5) (hb:d.bulk≤1048576) (h:okV d=true):DocN d:=by
 unfold okV at h
 simp only[Bool.and_eq_true,decide_eq_true_eq] at h
 exact⟨hw,h5,dl_of 16 d hw h.1.2,hb⟩
theorem vd1 (m:Nat) (d:Dt) (hw:WV d) (hb:d.bulk≤1048576) (hm:3000000≤m) (hm2:m<9223372036854775000):∃b,law36_valid_1 (m+5) d=some b∧(b=false→DocN d):=by
 rw[law36_valid_1]
 by_cases h5:Dt.I d 0=5
 ·have e:(Dt.I d 0 !=5)=false:=by rw[h5];rfl
  rw[e,cond_false,rValid_eq hw m (by omega) (by omega) (by omega),Option.bind_some]
  refine⟨_,rfl,fun h=>okV_doc hw h5 hb ?_⟩
  simpa using h
 ·have e:(Dt.I d 0 !=5)=true:=by simp only[bne,Bool.not_eq_true',beq_eq_false_iff_ne];exact h5
  rw[e]
  exact⟨true,rfl,fun h=>by cases h⟩
theorem vd_loop (m:Nat) (docs:List Dt) (hl:docs.length≤1048576) (hw:∀d∈docs,WV d∧d.bulk≤1048576) (hm:3000000≤m) (hm2:m<9223372036854775000):∀(M i:Nat),i≤docs.length→docs.length-i<M→
  ∃r:Int,i9_l1 (m+5) M docs (docs.length:Int) (i:Int)=some r∧(decide (0≤r)=false→∀d∈docs.drop i,DocN d)
 |0,i,_,h=>by omega
 |M+    1,i,hi,h=>by
  simp only[i9_l1,dlt]
  by_cases hlt:i<docs.length
  ·obtain⟨w1,w2⟩:=hw _ (List.getElem_mem hlt)
   obtain⟨b,b1,b2⟩:=vd1 m docs[i] w1 w2 hm hm2
   obtain⟨r,r1,r2⟩:=vd_loop m docs hl hw hm hm2 M (i+1) (by omega) (by omega)
   simp only[hlt,decide_true,cond_true,i9_j2,i9_j3,idx_lt hlt,Option.bind_some,b1,wrapS (show i<9223372036854775807 by omega)]
   cases b with
   |true=>exact⟨(i:Int),rfl,fun h=>by rw[dp1] at h;cases h⟩
   |    false=>
        refine⟨r,r1,fun h d hd=>?_⟩
        rw[List.drop_eq_getElem_cons hlt] at hd
        rcases List.mem_cons.1 hd with rfl|hd
        ·exact b2 rfl
        ·exact r2 h d hd
  ·have e:i=docs.length:=by omega
   subst e
   exact⟨-1,by simp[i9_j4],fun _ d hd=>by simp at hd⟩
theorem valid_tot (m:Nat) (docs:List Dt) (hl:docs.length≤1048576) (hw:∀d∈docs,WV d∧d.bulk≤1048576) (hm:3000000≤m) (hm2:m<9223372036854775000):∃b,law36_valid (m+8) docs=some b∧(b=true→docs.length≤30∧∀d∈docs,DocN d):=by
 rw[law36_valid]
 by_cases h30:((docs.length:Nat):Int)≤30
 ·obtain⟨r,r1,r2⟩:=vd_loop m docs hl hw hm hm2 (m+6) 0 (Nat.zero_le _) (by omega)
  have h9:i9 (m+6) docs=some r:=r1
  rw[decide_eq_true h30,cond_true,i8,h9,Option.bind_some,Option.bind_some]
  refine⟨_,rfl,fun h=>⟨by omega,fun d hd=>r2 (by simpa using h) d (by simpa using hd)⟩⟩
 ·rw[decide_eq_false h30]
  exact⟨false,rfl,fun h=>by cases h⟩
theorem pv_loop (m:Nat) (hm:33≤m) (p:List Dt) (hl:p.length<9223372036854775807):∀(M i:Nat),i≤p.length→p.length-i<M→∃b,ref04_Valid_l3 (m+1) M p (i:Int)=some b
 |0,i,_,h=>by omega
 |M+1,i,hi,h=>by
  simp only[ref04_Valid_l3,dlt]
  by_cases hlt:i<p.length
  ·simp only[hlt,decide_true,cond_true,ref04_Valid_j4,ref04_Valid_j5,idx_lt hlt,Option.bind_some,name_eq m hm,wrapS (show i<9223372036854775807 by omega)]
   cases nm (Dt.toStr p[i]) with
   |false=>exact⟨false,rfl⟩
   |true=>exact pv_loop m hm p hl M (i+1) (by omega) (by omega)
  ·exact⟨true,by simp[hlt,ref04_Valid_j6]⟩
theorem pv_tot (m:Nat) (hm:33≤m) (p:List Dt) (hl:p.length≤m) (hm2:m<9223372036854775000):∃b,ref04_Valid (m+2) p=some b:=by
 rw[ref04_Valid]
 obtain⟨b,hb⟩:=pv_loop m hm p (by omega) (m+2) 0 (Nat.zero_le _) (by omega)
 have hj:∀x,∃b,ref04_Valid_j0 (m+1) p x=some b:=fun x=>by
  cases x with
  |true=>exact⟨false,rfl⟩
  |false=>exact⟨b,hb⟩
 cases decide (((p.length:Nat):Int)<1) with
 |true=>exact hj true
 |false=>exact hj (decide (16<((p.length:Nat):Int)))
theorem named_tot (m:Nat) (hm:33≤m) (hm2:m<9223372036854775000) (s:ByteArray):∃b,law36_named (m+3) s=some b:=by
 rw[law36_named]
 cases (ByteArray.toList s==[]) with
 |true=>exact⟨true,rfl⟩
 |false=>
  obtain⟨b,hb⟩:=pv_tot m hm [.str s] (by simp;omega) hm2
  exact⟨b,by simp[hb]⟩
theorem resN_bulk {d:Dt} {n:Int} {name:ByteArray} (hd:DocN d) (hn:name.size≤1048576):(resN name (plc d n)).bulk≤3000000:=by
 have hi:=intV_bulk n
 show (nmd d name (intV n)).bulk≤_
 unfold nmd
 obtain⟨w1,w2,w3,w4⟩:=hd
 cases (ByteArray.toList name==[]) with
 |true=>simp only[cond_true];omega
 |false=>
  simp only[cond_false,setV]
  cases h:fi name (Dt.L d 4) with
  |some k=>
   have:=setF_bulk (c:=intV n) w1 (fi_lt h)
   show (setF d k (intV n)).bulk≤_
   omega
  |none=>
   show (mkV d (Dt.L d 3) (Dt.L d 4++[.agg [.str name,intV n]])).bulk≤_
   rw[mkV_bulk,bulkL_app]
   have e1:Dt.bulkL [Dt.agg [.str name,intV n]]=(Dt.agg [.str name,intV n]).bulk:=by simp[Dt.bulkL]
   have:=(wv_L w1).2.2
   rw[e1,bulk_fld]
   omega
theorem law_near (s:Dt) (p docs:List Dt) (name:ByteArray) (hp:p.length≤1048576) (hn:name.size≤1048576) (hl:docs.length≤1048576) (hs:(Dt.L s 1).length≤1048576) (hw:∀d∈docs,WV d∧d.bulk≤1048576):law36_ReshapeNear 68719478009 s p name docs=some true:=by
 rw[show (68719478009:Nat)=68719478008+1 from rfl,law36_ReshapeNear]
 obtain⟨b,b1,b2⟩:=valid_tot 68719478000 docs hl hw (by omega) (by omega)
 obtain⟨c,c1⟩:=pv_tot 68719478006 (by omega) p (by omega) (by omega)
 obtain⟨e,e1⟩:=named_tot 68719478005 (by omega) (by omega) name
 rw[b1,c1,e1]
 simp only[Option.bind_some]
 cases b with
 |false=>rfl
 |true=>
  cases c with
  |false=>rfl
  |true=>
   cases e with
   |false=>rfl
   |    true=>
        obtain⟨b3,b4⟩:=b2 rfl
        obtain⟨R,r1,r2,r3,r4⟩:=near_both s docs p name b4 b3 hs 68719478001 (by omega) (by omega)
        have hsm:=r03_list 68719478007 R (by omega) (by omega) fun x hx=>by
         obtain⟨d,hd,hx'⟩:=r2 x hx
         have hb:x.bulk≤3000000:=by
          rcases hx' with h| ⟨n,h⟩
          ·rw[h];exact resN_bulk (b4 d hd) hn
          ·rw[h];exact resN_bulk (b4 d hd) hn
         exact r03_refl 3000000 x hb (by omega) 68719478006 (by omega)
        simp only[Bool.not_true,cond_false,law36_ReshapeNear_j0,law36_ReshapeNear_j1]
        rw[r3,r4,Option.bind_some,Option.bind_some,hsm]
        rfl
theorem near_fx {ds:List Dt} (h:HasTys Tryz.prog Tryz.f6.params.toList ds) (hb:Dt.bulkL ds≤1048576):FX Tryz.prog 6 (dats Tryz.f6.params.toList ds) [] (.dat 4 (.bool true)) []:=by
 have h':HasTys Tryz.prog [49,22,9,23] ds:=h
 match ds,h',hb with
 | [s,p,name,docs],.cons h1 (.cons h2 (.cons h3 (.cons h4 .nil))),hb=>
   obtain⟨e2,_,_⟩:=ty_lst Tryz.underlying22 h2
   obtain⟨e3,_⟩:=ty_str Tryz.underlying9 h3
   obtain⟨e4,_,w4⟩:=ty_lst Tryz.underlying23 h4
   rw[e2,e3,e4] at hb ⊢
   simp only[Dt.bulkL,Dt.bulk] at hb
   have l2:=len_bulk p.toLst
   have l4:=len_bulk docs.toLst
   have ls:=L_len s 1
   refine law36_ReshapeNear_fx 68719478008 (ct_ok 68719478008) s p.toLst name.toStr docs.toLst (law_near s p.toLst docs.toLst name.toStr (by omega) (by omega) (by omega) (by omega) fun d hd=>⟨wv_of (w4 d hd),?_⟩)
   have:=bulk_mem hd
   omega
end Go.Proofs.YtameompfdamfpaaGreatDoor
