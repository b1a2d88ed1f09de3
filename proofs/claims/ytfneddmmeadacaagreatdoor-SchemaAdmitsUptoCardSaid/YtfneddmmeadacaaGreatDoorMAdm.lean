/- The law on admitted writes. -/
import Derived.Test.YtfneddmmeadacaaGreatDoorMH
import Derived.Test.YtfneddmmeadacaaGreatDoorFx
set_option linter.unusedVariables false
set_option linter.unusedSimpArgs false
namespace Go.Proofs.YtfneddmmeadacaaGreatDoor
open Go.Am
theorem adm_both {d o n:Dt} (hs:WS (Dt.fld d 2)) (hb:BS (Dt.fld d 2)) (ho:WV o) (hn:WV n) (hbo:(Dt.fld d 2).bulk+o.bulk≤1048576) (hbn:(Dt.fld d 2).bulk+n.bulk≤1048576) (m:Nat) (hm:10000000000≤m) (hm2:m<600000000000):
  ∃(e:Int) (L:List Dt),schema_Admit (m+21) d o n=some (e,L)∧ref14_Admit (m+21) d o n=some (e,L)∧(3*L.length≤412316860416∧∀x∈L,(Dt.L x 0).length≤1048577):=by
 obtain⟨Ln,n1,n2,n3⟩:=check_both hs hb hn hbn m hm hm2
 obtain⟨Lo,o1,o2,_⟩:=check_both hs hb ho hbo m hm hm2
 have h0:3*([]:List Dt).length≤412316860416∧∀x∈([]:List Dt),(Dt.L x 0).length≤1048577:=⟨by simp,fun x hx=>by cases hx⟩
 rw[show m+21=m+20+1 from rfl,schema_Admit,ref14_Admit]
 simp only[schema_Admit_j5,schema_Admit_j4,schema_Admit_j3,schema_Admit_j2,schema_Admit_j1,schema_Admit_j0,ref14_Admit_j4,ref14_Admit_j3,ref14_Admit_j2,ref14_Admit_j1,ref14_Admit_j0,n1,n2,o1,o2,Option.bind_some]
 generalize (Dt.I d 3 !=1)=b1
 generalize (Dt.I d 3 !=2)=b2
 generalize ((Ln.length:Int)==0)=b3
 generalize (Dt.I d 3==1)=b4
 generalize (Dt.I o 0==5)=b5
 generalize decide ((0:Int)<(Lo.length:Int))=b6
 generalize (Dt.I d 4==1)=b7
 cases b1<;>cases b2<;>cases b3<;>cases b4<;>cases b5<;>cases b6<;>cases b7<;>first|exact⟨_,_,rfl,rfl,n3⟩|exact⟨_,_,rfl,rfl,h0⟩
theorem list3 {A:Type} {l:List A} (h:l.length=3):∃a b c,l=[a,b,c]:=by
 match l,h with
 | [a,b,c],_=>exact⟨a,b,c,rfl⟩
theorem law_sadmits (d o n:Dt) (hs:WS (Dt.fld d 2)) (hb:BS (Dt.fld d 2)) (ho:WV o) (hn:WV n) (hbk:d.bulk+o.bulk+n.bulk≤1048576):law14_SchemaAdmits (400000000000+1) (.agg [d,o,n])=some true:=by
 have h2:=fld_bulk d 2
 obtain⟨b,hb1⟩:=few_ok (s:=Dt.fld d 2) ho (by omega) 399999999990 (by omega)
 obtain⟨b',hb2⟩:=few_ok (s:=Dt.fld d 2) hn (by omega) 399999999990 (by omega)
 obtain⟨e,L,c1,c2,c3,c4⟩:=adm_both hs hb ho hn (by omega) (by omega) 399999999979 (by omega) (by omega)
 have hb1':law14_few 400000000000 (Dt.fld d 2) o=some b:=hb1
 have hb2':law14_few 400000000000 (Dt.fld d 2) n=some b':=hb2
 have c1':schema_Admit 400000000000 d o n=some (e,L):=c1
 have c2':ref14_Admit 400000000000 d o n=some (e,L):=c2
 have c5:ref14_SameList 400000000000 L L=some true:=samelist_refl 399999999997 (by omega) L (by omega) fun x hx=>by have:=c4 x hx;omega
 have f0:Dt.fld (.agg [d,o,n]) 0=d:=rfl
 have f1:Dt.fld (.agg [d,o,n]) 1=o:=rfl
 have f2:Dt.fld (.agg [d,o,n]) 2=n:=rfl
 rw[law14_SchemaAdmits]
 simp only[f0,f1,f2,hb1',hb2',Option.bind_some,law14_SchemaAdmits_j1,law14_SchemaAdmits_j0,c1',c2',c5,beq_self_eq_true,cond_true,awakeC]
 cases b<;>cases b'<;>rfl
theorem sadmits_fx {ds:List Dt} (h:HasTys Tryz.prog Tryz.f5.params.toList ds) (hb:Dt.bulkL ds≤1048576):FX Tryz.prog 5 (dats Tryz.f5.params.toList ds) [] (.dat 4 (.bool true)) []:=by
 have h':HasTys Tryz.prog [46] ds:=h
 cases h' with
 | @cons _ c _ _ h1 r=>
   cases r
   obtain⟨ds,rfl,hl⟩:=(ty_agg Tryz.underlying46 h1).1
   obtain⟨d,o,n,rfl⟩:=list3 hl
   have hf:=(ty_agg Tryz.underlying46 h1).2
   have td:HasTy Tryz.prog 44 d:=hf 0 _ rfl
   have tv:HasTy Tryz.prog 25 o:=hf 1 _ rfl
   have tn:HasTy Tryz.prog 25 n:=hf 2 _ rfl
   have ts:HasTy Tryz.prog 32 (Dt.fld d 2):=(ty_agg Tryz.underlying44 td).2 2 _ rfl
   simp only[Dt.bulkL,Dt.bulk] at hb
   exact law14_SchemaAdmits_fx 400000000000 (ct_ok 400000000000) _ (law_sadmits d o n (ws_of _ _ (Nat.le_refl _) ts) (bs_of _ _ (Nat.le_refl _) ts) (wv_of tv) (wv_of tn) (by omega))
end Go.Proofs.YtfneddmmeadacaaGreatDoor
