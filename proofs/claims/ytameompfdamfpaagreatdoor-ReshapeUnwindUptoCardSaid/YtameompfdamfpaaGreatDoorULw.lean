/- The law: Unwind. -/
import Derived.Test.YtameompfdamfpaaGreatDoorUUw
import Derived.Test.YtameompfdamfpaaGreatDoorRB
import Derived.Test.YtameompfdamfpaaGreatDoorFx
set_option linter.unusedVariables false
set_option linter.unusedSimpArgs false
namespace Go.Proofs.YtameompfdamfpaaGreatDoor
open Go.Am
theorem okV_docU {d:Dt} (hw:WV d) (h5:Dt.I d 0=5) (hb:d.bulk≤1048576) (h:okV d=true):DocU d:=by
 unfold okV at h
 simp only[Bool.and_eq_true,decide_eq_true_eq] at h
 exact⟨hw,h5,snd_nz h.2,hb⟩
theorem vd1 (m:Nat) (d:Dt) (hw:WV d) (hb:d.bulk≤1048576) (hm:3000000≤m) (hm2:m<9223372036854775000):∃b,law36_valid_1 (m+5) d=some b∧(b=false→DocU d):=by
 rw[law36_valid_1]
 by_cases h5:Dt.I d 0=5
 ·have e:(Dt.I d 0 !=5)=false:=by rw[h5];rfl
  rw[e,cond_false,rValid_eq hw m (by omega) (by omega) (by omega),Option.bind_some]
  refine⟨_,rfl,fun h=>okV_docU hw h5 hb ?_⟩
  simpa using h
 ·have e:(Dt.I d 0 !=5)=true:=by simp only[bne,Bool.not_eq_true',beq_eq_false_iff_ne];exact h5
  rw[e]
  exact⟨true,rfl,fun h=>by cases h⟩
theorem vd_loop (m:Nat) (docs:List Dt) (hl:docs.length≤1048576) (hw:∀d∈docs,WV d∧d.bulk≤1048576) (hm:3000000≤m) (hm2:m<9223372036854775000):∀(M i:Nat),i≤docs.length→docs.length-i<M→
  ∃r:Int,i9_l1 (m+5) M docs (docs.length:Int) (i:Int)=some r∧(decide (0≤r)=false→∀d∈docs.drop i,DocU d)
 |0,i,_,h=>by omega
 |M+    1,i,hi,h=>by
  simp only[i9_l1,dlt]
  by_cases hlt:i<docs.length
  ·obtain⟨w1,w2⟩:=hw _ (List.getElem_mem hlt)
   obtain⟨b,b1,b2⟩:=vd1 m docs[i] w1 w2 hm hm2
   obtain⟨r,r1,r2⟩:=vd_loop m docs hl hw hm hm2 M (i+1) (by omega) (by omega)
   simp only[hlt,decide_true,cond_true,i9_j2,i9_j3,idx_lt hlt,Option.bind_some,b1,wrapS (show i<9223372036854775807 by omega)]
   cases b with
   |true=>exact⟨(i:Int),rfl,fun h=>by rw[dp1] at h;cases h⟩
   |    false=>
        refine⟨r,r1,fun h d hd=>?_⟩
        rw[List.drop_eq_getElem_cons hlt] at hd
        rcases List.mem_cons.1 hd with rfl|hd
        ·exact b2 rfl
        ·exact r2 h d hd
  ·have e:i=docs.length:=by omega
   subst e
   exact⟨-1,by simp[i9_j4],fun _ d hd=>by simp at hd⟩
theorem valid_tot (m:Nat) (docs:List Dt) (hl:docs.length≤1048576) (hw:∀d∈docs,WV d∧d.bulk≤1048576) (hm:3000000≤m) (hm2:m<9223372036854775000):∃b,law36_valid (m+8) docs=some b∧(b=true→docs.length≤30∧∀d∈docs,DocU d):=by
 rw[law36_valid]
 by_cases h30:((docs.length:Nat):Int)≤30
 ·obtain⟨r,r1,r2⟩:=vd_loop m docs hl hw hm hm2 (m+6) 0 (Nat.zero_le _) (by omega)
  have h9:i9 (m+6) docs=some r:=r1
  rw[decide_eq_true h30,cond_true,i8,h9,Option.bind_some,Option.bind_some]
  refine⟨_,rfl,fun h=>⟨by omega,fun d hd=>r2 (by simpa using h) d (by simpa using hd)⟩⟩
 ·rw[decide_eq_false h30]
  exact⟨false,rfl,fun h=>by cases h⟩
theorem named_tot (m:Nat) (hm:50≤m) (s:ByteArray):∃b,law36_named (m+2) s=some b:=by
 rw[law36_named]
 cases (ByteArray.toList s==[]) with
 |true=>exact⟨true,rfl⟩
 |false=>
  rw[refvalid_eq m (by omega)]
  exact⟨_,rfl⟩
theorem law_unwind (p docs:List Dt) (name:ByteArray) (keep:Bool) (hn:name.size≤1048576) (hl:docs.length≤1048576) (hw:∀d∈docs,WV d∧d.bulk≤1048576):law36_ReshapeUnwind 68719478009 p name keep docs=some true:=by
 rw[show (68719478009:Nat)=68719478008+1 from rfl,law36_ReshapeUnwind]
 obtain⟨b,b1,b2⟩:=valid_tot 68719478000 docs hl hw (by omega) (by omega)
 obtain⟨e,e1⟩:=named_tot 68719478006 (by omega) name
 have c1:ref04_Valid (68719478007+1) p=some (vld p):=refvalid_eq 68719478007 (by omega) p
 rw[b1,c1,e1]
 simp only[Option.bind_some]
 cases b with
 |false=>rfl
 |true=>
  cases hv:vld p with
  |false=>rfl
  |true=>
   cases e with
   |false=>rfl
   |    true=>
        have hp:p≠[]:=fun h=>by subst h;cases hv
        obtain⟨b3,b4⟩:=b2 rfl
        obtain⟨r1,r2⟩:=unwind_both (keep:=keep) hv hp hn docs b3 b4 68719478002 (by omega) (by omega)
        have hlen:(docs.flatMap (unS p name keep)).length≤31457280:=by
         have key:∀l:List Dt,(∀d∈l,DocU d)→(l.flatMap (unS p name keep)).length≤1048576*l.length:=by
          intro l
          induction l with
          |nil=>intro _;simp
          |cons d r ih=>
           intro h
           have h1:=un_len (name:=name) (keep:=keep) (h d (by simp)) hp
           have h2:=ih fun x hx=>h x (by simp[hx])
           rw[List.flatMap_cons,List.length_append,List.length_cons]
           omega
         have:=key docs b4
         omega
        have hsm:=r03_list 68719478007 (docs.flatMap (unS p name keep)) (by omega) (by omega) fun x hx=>by
         obtain⟨d,hd,hx'⟩:=List.mem_flatMap.1 hx
         have hb:=un_bulk (b4 d hd) hp x hx'
         exact r03_refl 3300000 x (by omega) (by omega) 68719478006 (by omega)
        simp only[Bool.not_true,cond_false,law36_ReshapeUnwind_j0,law36_ReshapeUnwind_j1]
        rw[r1,r2,Option.bind_some,Option.bind_some,hsm]
        rfl
theorem unwind_fx {ds:List Dt} (h:HasTys Tryz.prog Tryz.f3.params.toList ds) (hb:Dt.bulkL ds≤1048576):FX Tryz.prog 3 (dats Tryz.f3.params.toList ds) [] (.dat 4 (.bool true)) []:=by
 have h':HasTys Tryz.prog [22,9,4,23] ds:=h
 match ds,h',hb with
 | [p,name,keep,docs],.cons h2 (.cons h3 (.cons h1 (.cons h4 .nil))),hb=>
   obtain⟨e2,_,_⟩:=ty_lst Tryz.underlying22 h2
   obtain⟨e3,_⟩:=ty_str Tryz.underlying9 h3
   have e1:=ty_bool Tryz.underlying4 h1
   obtain⟨e4,_,w4⟩:=ty_lst Tryz.underlying23 h4
   rw[e2,e3,e1,e4] at hb ⊢
   simp only[Dt.bulkL,Dt.bulk] at hb
   have l4:=len_bulk docs.toLst
   refine law36_ReshapeUnwind_fx 68719478008 (ct_ok 68719478008) p.toLst name.toStr keep.toBool docs.toLst (law_unwind p.toLst docs.toLst name.toStr keep.toBool (by omega) (by omega) fun d hd=>⟨wv_of (w4 d hd),?_⟩)
   have:=bulk_mem hd
   omega
end Go.Proofs.YtameompfdamfpaaGreatDoor
