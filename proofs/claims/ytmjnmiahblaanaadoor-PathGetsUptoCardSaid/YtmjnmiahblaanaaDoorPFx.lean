/- Generated: the contracts. -/
import Derived.Test.YtmjnmiahblaanaaDoorPEq0
set_option linter.unusedVariables false
set_option linter.unusedSimpArgs false
namespace Go.Proofs.YtmjnmiahblaanaaDoor.P1
open Go.Am
set_option maxRecDepth 100000
theorem mixed:Tryd.prog.follows .mixedOrders=true:=by kernel_rfl
theorem path_Number_fx (m:Nat) (hct:∀R,CallOK (R:=R) Tryd.prog (ct m)) (a0:ByteArray) {r:Int×Bool} (h:path_Number (m+1) a0=some r):FX Tryd.prog 20 [(.dat 9 (.str a0))] [] (.tup [(.dat 3 (.int r.1)),(.dat 4 (.bool r.2))]) []:=
 FX_of (q:=((.tup [(.dat 3 (.int r.1)),(.dat 4 (.bool r.2))]),[])) (E:=env) (m:=m+1) (dec:=d1) jn_ok (hct _) mixed Tryd.func20 rfl (Nat.le_of_ble_eq_true rfl) (fun b hb=>d1_sim hb) ((path_Number_eq m a0).trans h)
theorem path_field_fx (m:Nat) (hct:∀R,CallOK (R:=R) Tryd.prog (ct m)) (a0:List Dt) (a1:ByteArray) {r:Int} (h:path_field (m+1) a0 a1=some r):FX Tryd.prog 51 [(.dat 34 (.lst a0)),(.dat 9 (.str a1))] [] (.dat 3 (.int r)) []:=
 FX_of (q:=((.dat 3 (.int r)),[])) (E:=env) (m:=m+1) (dec:=d2) jn_ok (hct _) mixed Tryd.func51 rfl (Nat.le_of_ble_eq_true rfl) (fun b hb=>d2_sim hb) ((path_field_eq m a0 a1).trans h)
theorem path_notName_fx (m:Nat) (hct:∀R,CallOK (R:=R) Tryd.prog (ct m)) (a0:ByteArray) {r:Bool} (h:path_notName (m+1) a0=some r):FX Tryd.prog 47 [(.dat 9 (.str a0))] [] (.dat 4 (.bool r)) []:=
 FX_of (q:=((.dat 4 (.bool r)),[])) (E:=env) (m:=m+1) (dec:=d5) jn_ok (hct _) mixed Tryd.func47 rfl (Nat.le_of_ble_eq_true rfl) (fun b hb=>d5_sim hb) ((path_notName_eq m a0).trans h)
theorem i4_fx (m:Nat) (hct:∀R,CallOK (R:=R) Tryd.prog (ct m)) (a0:List Dt) {r:Int} (h:i4 (m+1) a0=some r):FX Tryd.prog 69 [(.dat 23 (.lst a0)),(.fn 47 [])] [] (.dat 3 (.int r)) []:=
 FX_of (q:=((.dat 3 (.int r)),[])) (E:=env) (m:=m+1) (dec:=d2) jn_ok (hct _) mixed Tryd.func69 rfl (Nat.le_of_ble_eq_true rfl) (fun b hb=>d2_sim hb) ((i4_eq m a0).trans h)
theorem i3_fx (m:Nat) (hct:∀R,CallOK (R:=R) Tryd.prog (ct m)) (a0:List Dt) {r:Bool} (h:i3 (m+1) a0=some r):FX Tryd.prog 46 [(.dat 23 (.lst a0)),(.fn 47 [])] [] (.dat 4 (.bool r)) []:=
 FX_of (q:=((.dat 4 (.bool r)),[])) (E:=env) (m:=m+1) (dec:=d5) jn_ok (hct _) mixed Tryd.func46 rfl (Nat.le_of_ble_eq_true rfl) (fun b hb=>d5_sim hb) ((i3_eq m a0).trans h)
theorem path_Valid_fx (m:Nat) (hct:∀R,CallOK (R:=R) Tryd.prog (ct m)) (a0:List Dt) {r:Bool} (h:path_Valid (m+1) a0=some r):FX Tryd.prog 17 [(.dat 23 (.lst a0))] [] (.dat 4 (.bool r)) []:=
 FX_of (q:=((.dat 4 (.bool r)),[])) (E:=env) (m:=m+1) (dec:=d5) jn_ok (hct _) mixed Tryd.func17 rfl (Nat.le_of_ble_eq_true rfl) (fun b hb=>d5_sim hb) ((path_Valid_eq m a0).trans h)
theorem ct17_ok (m:Nat) (hct:∀k,k<m→∀R,CallOK (R:=R) Tryd.prog (ct k)) {R:Type} {args:List AV} {objs:List Ob} {K:Res→Option R} {r:R} (h:ct17 m args objs K=some r):∃q:Res,K q=some r∧FX Tryd.prog 17 args objs q.1 q.2∧HasBody Tryd.prog 17:=by
 unfold ct17 at h
 split at h
 ·rename_i l hl
  obtain⟨x,hx,hk⟩:=Option.bind_eq_some_iff.1 h
  obtain⟨h1,h2⟩:=sel0_ok hl
  cases m with
  |zero=>cases hx
  |succ m=>exact⟨_,hk,(path_Valid_fx m (hct m (Nat.lt_succ_self m)) _ hx).conv h1 h2,⟨_,Tryd.func17,rfl,by decide⟩⟩
 cases h
theorem ct20_ok (m:Nat) (hct:∀k,k<m→∀R,CallOK (R:=R) Tryd.prog (ct k)) {R:Type} {args:List AV} {objs:List Ob} {K:Res→Option R} {r:R} (h:ct20 m args objs K=some r):∃q:Res,K q=some r∧FX Tryd.prog 20 args objs q.1 q.2∧HasBody Tryd.prog 20:=by
 unfold ct20 at h
 split at h
 ·rename_i l hl
  obtain⟨x,hx,hk⟩:=Option.bind_eq_some_iff.1 h
  obtain⟨h1,h2⟩:=sel1_ok hl
  cases m with
  |zero=>cases hx
  |succ m=>exact⟨_,hk,(path_Number_fx m (hct m (Nat.lt_succ_self m)) _ hx).conv h1 h2,⟨_,Tryd.func20,rfl,by decide⟩⟩
 cases h
theorem ct51_ok (m:Nat) (hct:∀k,k<m→∀R,CallOK (R:=R) Tryd.prog (ct k)) {R:Type} {args:List AV} {objs:List Ob} {K:Res→Option R} {r:R} (h:ct51 m args objs K=some r):∃q:Res,K q=some r∧FX Tryd.prog 51 args objs q.1 q.2∧HasBody Tryd.prog 51:=by
 unfold ct51 at h
 split at h
 ·rename_i l hl
  obtain⟨x,hx,hk⟩:=Option.bind_eq_some_iff.1 h
  obtain⟨h1,h2⟩:=sel2_ok hl
  cases m with
  |zero=>cases hx
  |succ m=>exact⟨_,hk,(path_field_fx m (hct m (Nat.lt_succ_self m)) _ _ hx).conv h1 h2,⟨_,Tryd.func51,rfl,by decide⟩⟩
 cases h
theorem ct46_ok (m:Nat) (hct:∀k,k<m→∀R,CallOK (R:=R) Tryd.prog (ct k)) {R:Type} {args:List AV} {objs:List Ob} {K:Res→Option R} {r:R} (h:ct46 m args objs K=some r):∃q:Res,K q=some r∧FX Tryd.prog 46 args objs q.1 q.2∧HasBody Tryd.prog 46:=by
 unfold ct46 at h
 split at h
 ·rename_i l hl
  obtain⟨x,hx,hk⟩:=Option.bind_eq_some_iff.1 h
  obtain⟨h1,h2⟩:=sel3_ok hl
  cases m with
  |zero=>cases hx
  |succ m=>exact⟨_,hk,(i3_fx m (hct m (Nat.lt_succ_self m)) _ hx).conv h1 h2,⟨_,Tryd.func46,rfl,by decide⟩⟩
 cases h
theorem ct69_ok (m:Nat) (hct:∀k,k<m→∀R,CallOK (R:=R) Tryd.prog (ct k)) {R:Type} {args:List AV} {objs:List Ob} {K:Res→Option R} {r:R} (h:ct69 m args objs K=some r):∃q:Res,K q=some r∧FX Tryd.prog 69 args objs q.1 q.2∧HasBody Tryd.prog 69:=by
 unfold ct69 at h
 split at h
 ·rename_i l hl
  obtain⟨x,hx,hk⟩:=Option.bind_eq_some_iff.1 h
  obtain⟨h1,h2⟩:=sel3_ok hl
  cases m with
  |zero=>cases hx
  |succ m=>exact⟨_,hk,(i4_fx m (hct m (Nat.lt_succ_self m)) _ hx).conv h1 h2,⟨_,Tryd.func69,rfl,by decide⟩⟩
 cases h
theorem ct47_ok (m:Nat) (hct:∀k,k<m→∀R,CallOK (R:=R) Tryd.prog (ct k)) {R:Type} {args:List AV} {objs:List Ob} {K:Res→Option R} {r:R} (h:ct47 m args objs K=some r):∃q:Res,K q=some r∧FX Tryd.prog 47 args objs q.1 q.2∧HasBody Tryd.prog 47:=by
 unfold ct47 at h
 split at h
 ·rename_i l hl
  obtain⟨x,hx,hk⟩:=Option.bind_eq_some_iff.1 h
  obtain⟨h1,h2⟩:=sel1_ok hl
  cases m with
  |zero=>cases hx
  |succ m=>exact⟨_,hk,(path_notName_fx m (hct m (Nat.lt_succ_self m)) _ hx).conv h1 h2,⟨_,Tryd.func47,rfl,by decide⟩⟩
 cases h
set_option maxHeartbeats 4000000 in
theorem ct_ok:∀(m:Nat) (R:Type),CallOK (R:=R) Tryd.prog (ct m):=by
 intro m
 induction m using Nat.strongRecOn with
 |_ m ih=>
  intro R f args objs K r h
  unfold ct at h
  rcases bset_some h with⟨hb,h1⟩| ⟨_,h⟩
  · have e:=beq_eq hb
    subst e
    exact ct17_ok m ih h1
  rcases bset_some h with⟨hb,h1⟩| ⟨_,h⟩
  · have e:=beq_eq hb
    subst e
    exact ct20_ok m ih h1
  rcases bset_some h with⟨hb,h1⟩| ⟨_,h⟩
  · have e:=beq_eq hb
    subst e
    exact ct51_ok m ih h1
  rcases bset_some h with⟨hb,h1⟩| ⟨_,h⟩
  · have e:=beq_eq hb
    subst e
    exact ct46_ok m ih h1
  rcases bset_some h with⟨hb,h1⟩| ⟨_,h⟩
  · have e:=beq_eq hb
    subst e
    exact ct69_ok m ih h1
  rcases bset_some h with⟨hb,h1⟩| ⟨_,h⟩
  · have e:=beq_eq hb
    subst e
    exact ct47_ok m ih h1
  cases h
end Go.Proofs.YtmjnmiahblaanaaDoor.P1
