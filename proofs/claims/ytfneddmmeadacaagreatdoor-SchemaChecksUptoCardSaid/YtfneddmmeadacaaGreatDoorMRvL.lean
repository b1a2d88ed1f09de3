/- The law on the violations of values. -/
import Derived.Test.YtfneddmmeadacaaGreatDoorMH
import Derived.Test.YtfneddmmeadacaaGreatDoorFx
set_option linter.unusedVariables false
set_option linter.unusedSimpArgs false
namespace Go.Proofs.YtfneddmmeadacaaGreatDoor
open Go.Am
theorem law_schecks (s v:Dt) (hs:WS s) (hb:BS s) (hw:WV v) (hbk:s.bulk+v.bulk≤1048576):law14_SchemaChecks (400000000000+1) s v=some true:=by
 obtain⟨b,hb1⟩:=few_ok (s:=s) hw hbk 399999999990 (by omega)
 obtain⟨L,c1,c2,c3,c4⟩:=check_both hs hb hw hbk 399999999980 (by omega) (by omega)
 have hb1':law14_few 400000000000 s v=some b:=hb1
 have c1':schema_Check 400000000000 s v=some L:=c1
 have c2':ref14_Check 400000000000 s v=some L:=c2
 have c5:ref14_SameList 400000000000 L L=some true:=samelist_refl 399999999997 (by omega) L (by omega) fun x hx=>by have:=c4 x hx;omega
 rw[law14_SchemaChecks]
 simp only[hb1',Option.bind_some]
 cases b
 ·simp only[Bool.not_false,cond_true,awakeC,Option.bind_some]
 ·simp only[Bool.not_true,cond_false,law14_SchemaChecks_j0,c1',c2',c5,Option.bind_some,cond_true,awakeC]
theorem schecks_fx {ds:List Dt} (h:HasTys Tryz.prog Tryz.f4.params.toList ds) (hb:Dt.bulkL ds≤1048576):FX Tryz.prog 4 (dats Tryz.f4.params.toList ds) [] (.dat 4 (.bool true)) []:=by
 have h':HasTys Tryz.prog [32,25] ds:=h
 cases h' with
 | @cons _ s _ _ h1 r=>
   cases r with
   | @cons _ v _ _ h2 r=>
     cases r
     simp only[Dt.bulkL] at hb
     exact law14_SchemaChecks_fx 400000000000 (ct_ok 400000000000) _ _ (law_schecks s v (ws_of s.bulk s (Nat.le_refl _) h1) (bs_of s.bulk s (Nat.le_refl _) h1) (wv_of h2) (by omega))
end Go.Proofs.YtfneddmmeadacaaGreatDoor
