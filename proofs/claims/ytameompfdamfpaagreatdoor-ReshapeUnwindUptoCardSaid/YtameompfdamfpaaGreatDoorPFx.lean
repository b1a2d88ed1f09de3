/- Generated: the contracts. -/
import Derived.Test.YtameompfdamfpaaGreatDoorPEq0
set_option linter.unusedVariables false
set_option linter.unusedSimpArgs false
namespace Go.Proofs.YtameompfdamfpaaGreatDoor.P1
open Go.Am
set_option maxRecDepth 100000
theorem mixed:Tryz.prog.follows .mixedOrders=true:=by kernel_rfl
theorem path_Number_fx (m:Nat) (hct:∀R,CallOK (R:=R) Tryz.prog (ct m)) (a0:ByteArray) {r:Int×Bool} (h:path_Number (m+1) a0=some r):FX Tryz.prog 139 [(.dat 9 (.str a0))] [] (.tup [(.dat 3 (.int r.1)),(.dat 4 (.bool r.2))]) []:=
 FX_of (q:=((.tup [(.dat 3 (.int r.1)),(.dat 4 (.bool r.2))]),[])) (E:=env) (m:=m+1) (dec:=d1) jn_ok (hct _) mixed Tryz.func139 rfl (Nat.le_of_ble_eq_true rfl) (fun b hb=>d1_sim hb) ((path_Number_eq m a0).trans h)
theorem path_field_fx (m:Nat) (hct:∀R,CallOK (R:=R) Tryz.prog (ct m)) (a0:List Dt) (a1:ByteArray) {r:Int} (h:path_field (m+1) a0 a1=some r):FX Tryz.prog 138 [(.dat 31 (.lst a0)),(.dat 9 (.str a1))] [] (.dat 3 (.int r)) []:=
 FX_of (q:=((.dat 3 (.int r)),[])) (E:=env) (m:=m+1) (dec:=d2) jn_ok (hct _) mixed Tryz.func138 rfl (Nat.le_of_ble_eq_true rfl) (fun b hb=>d2_sim hb) ((path_field_eq m a0 a1).trans h)
theorem path_notName_fx (m:Nat) (hct:∀R,CallOK (R:=R) Tryz.prog (ct m)) (a0:ByteArray) {r:Bool} (h:path_notName (m+1) a0=some r):FX Tryz.prog 182 [(.dat 9 (.str a0))] [] (.dat 4 (.bool r)) []:=
 FX_of (q:=((.dat 4 (.bool r)),[])) (E:=env) (m:=m+1) (dec:=d5) jn_ok (hct _) mixed Tryz.func182 rfl (Nat.le_of_ble_eq_true rfl) (fun b hb=>d5_sim hb) ((path_notName_eq m a0).trans h)
theorem i4_fx (m:Nat) (hct:∀R,CallOK (R:=R) Tryz.prog (ct m)) (a0:List Dt) {r:Int} (h:i4 (m+1) a0=some r):FX Tryz.prog 228 [(.dat 22 (.lst a0)),(.fn 182 [])] [] (.dat 3 (.int r)) []:=
 FX_of (q:=((.dat 3 (.int r)),[])) (E:=env) (m:=m+1) (dec:=d2) jn_ok (hct _) mixed Tryz.func228 rfl (Nat.le_of_ble_eq_true rfl) (fun b hb=>d2_sim hb) ((i4_eq m a0).trans h)
theorem i3_fx (m:Nat) (hct:∀R,CallOK (R:=R) Tryz.prog (ct m)) (a0:List Dt) {r:Bool} (h:i3 (m+1) a0=some r):FX Tryz.prog 181 [(.dat 22 (.lst a0)),(.fn 182 [])] [] (.dat 4 (.bool r)) []:=
 FX_of (q:=((.dat 4 (.bool r)),[])) (E:=env) (m:=m+1) (dec:=d5) jn_ok (hct _) mixed Tryz.func181 rfl (Nat.le_of_ble_eq_true rfl) (fun b hb=>d5_sim hb) ((i3_eq m a0).trans h)
theorem path_Valid_fx (m:Nat) (hct:∀R,CallOK (R:=R) Tryz.prog (ct m)) (a0:List Dt) {r:Bool} (h:path_Valid (m+1) a0=some r):FX Tryz.prog 141 [(.dat 22 (.lst a0))] [] (.dat 4 (.bool r)) []:=
 FX_of (q:=((.dat 4 (.bool r)),[])) (E:=env) (m:=m+1) (dec:=d5) jn_ok (hct _) mixed Tryz.func141 rfl (Nat.le_of_ble_eq_true rfl) (fun b hb=>d5_sim hb) ((path_Valid_eq m a0).trans h)
theorem ct141_ok (m:Nat) (hct:∀k,k<m→∀R,CallOK (R:=R) Tryz.prog (ct k)) {R:Type} {args:List AV} {objs:List Ob} {K:Res→Option R} {r:R} (h:ct141 m args objs K=some r):∃q:Res,K q=some r∧FX Tryz.prog 141 args objs q.1 q.2∧HasBody Tryz.prog 141:=by
 unfold ct141 at h
 split at h
 ·rename_i l hl
  obtain⟨x,hx,hk⟩:=Option.bind_eq_some_iff.1 h
  obtain⟨h1,h2⟩:=sel0_ok hl
  cases m with
  |zero=>cases hx
  |succ m=>exact⟨_,hk,(path_Valid_fx m (hct m (Nat.lt_succ_self m)) _ hx).conv h1 h2,⟨_,Tryz.func141,rfl,by decide⟩⟩
 cases h
theorem ct139_ok (m:Nat) (hct:∀k,k<m→∀R,CallOK (R:=R) Tryz.prog (ct k)) {R:Type} {args:List AV} {objs:List Ob} {K:Res→Option R} {r:R} (h:ct139 m args objs K=some r):∃q:Res,K q=some r∧FX Tryz.prog 139 args objs q.1 q.2∧HasBody Tryz.prog 139:=by
 unfold ct139 at h
 split at h
 ·rename_i l hl
  obtain⟨x,hx,hk⟩:=Option.bind_eq_some_iff.1 h
  obtain⟨h1,h2⟩:=sel1_ok hl
  cases m with
  |zero=>cases hx
  |succ m=>exact⟨_,hk,(path_Number_fx m (hct m (Nat.lt_succ_self m)) _ hx).conv h1 h2,⟨_,Tryz.func139,rfl,by decide⟩⟩
 cases h
theorem ct138_ok (m:Nat) (hct:∀k,k<m→∀R,CallOK (R:=R) Tryz.prog (ct k)) {R:Type} {args:List AV} {objs:List Ob} {K:Res→Option R} {r:R} (h:ct138 m args objs K=some r):∃q:Res,K q=some r∧FX Tryz.prog 138 args objs q.1 q.2∧HasBody Tryz.prog 138:=by
 unfold ct138 at h
 split at h
 ·rename_i l hl
  obtain⟨x,hx,hk⟩:=Option.bind_eq_some_iff.1 h
  obtain⟨h1,h2⟩:=sel2_ok hl
  cases m with
  |zero=>cases hx
  |succ m=>exact⟨_,hk,(path_field_fx m (hct m (Nat.lt_succ_self m)) _ _ hx).conv h1 h2,⟨_,Tryz.func138,rfl,by decide⟩⟩
 cases h
theorem ct181_ok (m:Nat) (hct:∀k,k<m→∀R,CallOK (R:=R) Tryz.prog (ct k)) {R:Type} {args:List AV} {objs:List Ob} {K:Res→Option R} {r:R} (h:ct181 m args objs K=some r):∃q:Res,K q=some r∧FX Tryz.prog 181 args objs q.1 q.2∧HasBody Tryz.prog 181:=by
 unfold ct181 at h
 split at h
 ·rename_i l hl
  obtain⟨x,hx,hk⟩:=Option.bind_eq_some_iff.1 h
  obtain⟨h1,h2⟩:=sel3_ok hl
  cases m with
  |zero=>cases hx
  |succ m=>exact⟨_,hk,(i3_fx m (hct m (Nat.lt_succ_self m)) _ hx).conv h1 h2,⟨_,Tryz.func181,rfl,by decide⟩⟩
 cases h
theorem ct228_ok (m:Nat) (hct:∀k,k<m→∀R,CallOK (R:=R) Tryz.prog (ct k)) {R:Type} {args:List AV} {objs:List Ob} {K:Res→Option R} {r:R} (h:ct228 m args objs K=some r):∃q:Res,K q=some r∧FX Tryz.prog 228 args objs q.1 q.2∧HasBody Tryz.prog 228:=by
 unfold ct228 at h
 split at h
 ·rename_i l hl
  obtain⟨x,hx,hk⟩:=Option.bind_eq_some_iff.1 h
  obtain⟨h1,h2⟩:=sel3_ok hl
  cases m with
  |zero=>cases hx
  |succ m=>exact⟨_,hk,(i4_fx m (hct m (Nat.lt_succ_self m)) _ hx).conv h1 h2,⟨_,Tryz.func228,rfl,by decide⟩⟩
 cases h
theorem ct182_ok (m:Nat) (hct:∀k,k<m→∀R,CallOK (R:=R) Tryz.prog (ct k)) {R:Type} {args:List AV} {objs:List Ob} {K:Res→Option R} {r:R} (h:ct182 m args objs K=some r):∃q:Res,K q=some r∧FX Tryz.prog 182 args objs q.1 q.2∧HasBody Tryz.prog 182:=by
 unfold ct182 at h
 split at h
 ·rename_i l hl
  obtain⟨x,hx,hk⟩:=Option.bind_eq_some_iff.1 h
  obtain⟨h1,h2⟩:=sel1_ok hl
  cases m with
  |zero=>cases hx
  |succ m=>exact⟨_,hk,(path_notName_fx m (hct m (Nat.lt_succ_self m)) _ hx).conv h1 h2,⟨_,Tryz.func182,rfl,by decide⟩⟩
 cases h
set_option maxHeartbeats 4000000 in
theorem ct_ok:∀(m:Nat) (R:Type),CallOK (R:=R) Tryz.prog (ct m):=by
 intro m
 induction m using Nat.strongRecOn with
 |_ m ih=>
  intro R f args objs K r h
  unfold ct at h
  rcases bset_some h with⟨hb,h1⟩| ⟨_,h⟩
  · have e:=beq_eq hb
    subst e
    exact ct141_ok m ih h1
  rcases bset_some h with⟨hb,h1⟩| ⟨_,h⟩
  · have e:=beq_eq hb
    subst e
    exact ct139_ok m ih h1
  rcases bset_some h with⟨hb,h1⟩| ⟨_,h⟩
  · have e:=beq_eq hb
    subst e
    exact ct138_ok m ih h1
  rcases bset_some h with⟨hb,h1⟩| ⟨_,h⟩
  · have e:=beq_eq hb
    subst e
    exact ct181_ok m ih h1
  rcases bset_some h with⟨hb,h1⟩| ⟨_,h⟩
  · have e:=beq_eq hb
    subst e
    exact ct228_ok m ih h1
  rcases bset_some h with⟨hb,h1⟩| ⟨_,h⟩
  · have e:=beq_eq hb
    subst e
    exact ct182_ok m ih h1
  cases h
end Go.Proofs.YtameompfdamfpaaGreatDoor.P1
