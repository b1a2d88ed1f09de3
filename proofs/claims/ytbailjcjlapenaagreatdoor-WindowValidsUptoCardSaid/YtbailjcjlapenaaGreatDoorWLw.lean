/- The law: Valid of windows. -/
import Derived.Test.YtbailjcjlapenaaGreatDoorWWd
import Derived.Test.YtbailjcjlapenaaGreatDoorFx
set_option linter.unusedVariables false
set_option linter.unusedSimpArgs false
namespace Go.Proofs.YtbailjcjlapenaaGreatDoor
open Go.Am
theorem large_eq (m:Nat) (w:Dt):i6 (m+5) [stgW w] 1 0=some (false,1):=by rfl
theorem cond_eq (m:Nat) (w:Dt) {r:Int} (h:pipeline_validWindow m w=some r):pipeline_conditions (m+1) (stgW w)=some r:=by
 have e:pipeline_conditions (m+1) (stgW w)=(pipeline_validWindow m w).bind fun r11=>some r11:=by rfl
 rw[e,h]
 rfl
theorem check_eq (m:Nat) (w:Dt) {r:Int} (h:pipeline_validWindow m w=some r):pipeline_check (m+2) [stgW w] true=some r:=by
 have e:pipeline_check (m+2) [stgW w] true=(usedC (stgW w)).bind fun r1=>bif Bool.not r1 then some 21 else(pipeline_conditions (m+1) (stgW w)).bind fun r2=>bif (r2 !=0) then some r2 else some 0:=by rfl
 rw[e,usedC_eq,Option.bind_some,cond_eq m w h,Option.bind_some,Bool.not_true,cond_false]
 cases hr:(r !=0) with
 |true=>rfl
 |false=>
  have:r=0:=by simpa [bne] using hr
  rw[this];rfl
theorem wvalid_eq (m:Nat) (w:Dt) {r:Int} (h:pipeline_validWindow (m+3) w=some r):window_Valid (m+7) w=some r:=by
 have e:window_Valid (m+7) w=(pipeline_Valid (m+6) [stgW w]).bind fun r0=>some r0:=by rfl
 rw[e,pipeline_Valid,large_eq,Option.bind_some,cond_false,pipeline_Valid_j0,check_eq (m+3) w h]
 rfl
theorem ww_of {d:Dt} (ht:HasTy Tryz.prog 33 d):WW d:=by
 have hs:=(ty_agg Tryz.underlying33 ht).2
 have t0:HasTy Tryz.prog 29 (Dt.fld d 0):=hs 0 _ rfl
 have t2:HasTy Tryz.prog 31 (Dt.fld d 2):=hs 2 _ rfl
 refine .mk (we_of _ _ (Nat.le_refl _) t0) fun o ho=>?_
 have tp:=(ty_lst Tryz.underlying31 t2).2.2 o ho
 have tq:HasTy Tryz.prog 29 (Dt.fld o 2):=(ty_agg Tryz.underlying63 tp).2 2 _ rfl
 exact we_of _ _ (Nat.le_refl _) tq
theorem law_windows (w:Dt) (hw:WW w) (hb:w.bulk≤1048576):law34_WindowValids 4000000001 w=some true:=by
 have h1:window_Valid 4000000000 w=some (winS w):=wvalid_eq 3999999993 w (win_prog (B:=1048576) (by omega) hw hb 3999999966 (by omega) (by omega))
 have h2:ref31_Window 3999999999 w=some (winS w):=win_ref (B:=1048576) (by omega) hw hb 3999999969 (by omega) (by omega)
 have h3:ref34_Valid 4000000000 w=some (winS w):=by
  rw[show (4000000000:Nat)=3999999999+1 from rfl,ref34_Valid,h2]
  rfl
 rw[show (4000000001:Nat)=4000000000+1 from rfl,law34_WindowValids,h1,h3]
 simp only[Option.bind_some,beq_self_eq_true,cond_true,awakeC]
theorem windows_fx {ds:List Dt} (h:HasTys Tryz.prog Tryz.f3.params.toList ds) (hb:Dt.bulkL ds≤1048576):FX Tryz.prog 3 (dats Tryz.f3.params.toList ds) [] (.dat 4 (.bool true)) []:=by
 have h':HasTys Tryz.prog [33] ds:=h
 cases h' with
 | @cons _ d _ _ h1 r=>
   cases r
   simp only[Dt.bulkL] at hb
   exact law34_WindowValids_fx 4000000000 (ct_ok 4000000000) _ (law_windows d (ww_of h1) (by omega))
end Go.Proofs.YtbailjcjlapenaaGreatDoor
