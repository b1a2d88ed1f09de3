/- Generated: the contracts. -/
import Derived.Test.YtmecfjhdnbgfeaaGreatDoorP1Eq0
set_option linter.unusedVariables false
set_option linter.unusedSimpArgs false
namespace Go.Proofs.YtmecfjhdnbgfeaaGreatDoor.P1
open Go.Am
set_option maxRecDepth 100000
theorem mixed:Tryz.prog.follows .mixedOrders=true:=by kernel_rfl
abbrev CtH (m:Nat):Prop:=∀R,CallOK (R:=R) Tryz.prog (ct m)
abbrev CtK (m:Nat):Prop:=∀k,k<m→CtH k
abbrev FQ {R:Type} (f:Nat) (args:List AV) (objs:List Ob) (K:Res→Option R) (r:R):Prop:=∃q:Res,K q=some r∧FX Tryz.prog f args objs q.1 q.2∧HasBody Tryz.prog f
theorem fo {R:Type} {m f:Nat} {fn:Func} {c:Code} {args:List AV} {objs:List Ob} {res:AV} {ro:List Ob} {dec:Res→Option R} {r:R} (hct:CtH m) (hf:Tryz.prog.funcs[f]? =some fn) (hc:fn.body=some c) (hl:Nat.ble args.length fn.ntmps=true) (hd:∀{b:Res},dec b=some r→Sim Tryz.prog b (res,ro)) (h:ev Tryz.prog env (ct m) jn (m+1) f fn.ntmps c ⟨args,objs,objs.length⟩ (fun e σ=>(Tf Tryz.prog env f fn e σ).bind dec)=some r):FX Tryz.prog f args objs res ro:=
 FX_of (q:=(res,ro)) (E:=env) (m:=m+1) (dec:=dec) jn_ok (hct _) mixed hf hc (Nat.le_of_ble_eq_true hl) (fun _ hb=>hd hb) h
section
variable {R:Type} {args:List AV} {objs:List Ob} {K:Res→Option R} {r:R}
theorem zu m (hct:CtH m) {r:Dt} (h:aT (m+1)=some r):FX Tryz.prog 123 [] [] (.dat 26 r) []:=
 fo hct Tryz.func123 rfl rfl Sb ((zn m).trans h)
theorem Sc m (hct:CtH m) (a0:ByteArray) {r:Dt} (h:oL (m+1) a0=some r):FX Tryz.prog 214 [.dat 9 (.str a0)] [] (.dat 26 r) []:=
 fo hct Tryz.func214 rfl rfl Sb ((RZ m a0).trans h)
theorem tT m (hct:CtH m) (a0:Int) {r:Dt} (h:aN (m+1) a0=some r):FX Tryz.prog 166 [.dat 3 (.int a0)] [] (.dat 26 r) []:=
 fo hct Tryz.func166 rfl rfl Sb ((tL m a0).trans h)
theorem expr_ofTexts_fx m (hct:CtH m) (a0:Int) (a1:List Dt) {r:Dt} (h:expr_ofTexts (m+1) a0 a1=some r):FX Tryz.prog 164 [.dat 3 (.int a0),.dat 23 (.lst a1)] [] (.dat 26 r) []:=
 fo hct Tryz.func164 rfl rfl Sb ((JL m a0 a1).trans h)
theorem aeN (m:Nat) (hct:∀k,k<m→∀R,CallOK (R:=R) Tryz.prog (ct k)) {R:Type} {args:List AV} {objs:List Ob} {K:Res→Option R} {r:R} (h:akS m args objs K=some r):∃q:Res,K q=some r∧FX Tryz.prog 213 args objs q.1 q.2∧HasBody Tryz.prog 213:=Ro h
theorem aeO (m:Nat) (hct:∀k,k<m→∀R,CallOK (R:=R) Tryz.prog (ct k)) {R:Type} {args:List AV} {objs:List Ob} {K:Res→Option R} {r:R} (h:akT m args objs K=some r):∃q:Res,K q=some r∧FX Tryz.prog 215 args objs q.1 q.2∧HasBody Tryz.prog 215:=Ro h
theorem aeP m (hct:CtK m) (h:aeI m args objs K=some r):FQ 164 args objs K r:=by
 unfold aeI at h
 split at h
 ·rename_i l hl
  obtain⟨x,hx,hk⟩:=Option.bind_eq_some_iff.1 h
  obtain⟨h1,h2⟩:=ajm hl
  cases m with
  |zero=>cases hx
  |succ m=>exact⟨_,hk,(expr_ofTexts_fx m (hct m (Nat.lt_succ_self m)) _ _ hx).conv h1 h2,⟨_,Tryz.func164,rfl,by decide⟩⟩
 cases h
theorem aeQ m (hct:CtK m) (h:aeJ m args objs K=some r):FQ 123 args objs K r:=by
 unfold aeJ at h
 split at h
 ·rename_i l hl
  obtain⟨x,hx,hk⟩:=Option.bind_eq_some_iff.1 h
  obtain⟨h1,h2⟩:=aaG hl
  cases m with
  |zero=>cases hx
  |succ m=>exact⟨_,hk,(zu m (hct m (Nat.lt_succ_self m)) hx).conv h1 h2,⟨_,Tryz.func123,rfl,by decide⟩⟩
 cases h
theorem aeR m (hct:CtK m) (h:aeK m args objs K=some r):FQ 216 args objs K r:=by
 unfold aeK at h
 split at h
 ·rename_i l hl
  obtain⟨x,hx,hk⟩:=Option.bind_eq_some_iff.1 h
  obtain⟨h1,h2⟩:=ajn hl
  exact⟨_,hk,(NU hx).conv h1 h2,⟨_,Tryz.func216,rfl,by decide⟩⟩
 cases h
theorem aeS m (hct:CtK m) (h:aeL m args objs K=some r):FQ 214 args objs K r:=by
 unfold aeL at h
 split at h
 ·rename_i l hl
  obtain⟨x,hx,hk⟩:=Option.bind_eq_some_iff.1 h
  obtain⟨h1,h2⟩:=ajo hl
  cases m with
  |zero=>cases hx
  |succ m=>exact⟨_,hk,(Sc m (hct m (Nat.lt_succ_self m)) _ hx).conv h1 h2,⟨_,Tryz.func214,rfl,by decide⟩⟩
 cases h
theorem aeT m (hct:CtK m) (h:aeM m args objs K=some r):FQ 166 args objs K r:=by
 unfold aeM at h
 split at h
 ·rename_i l hl
  obtain⟨x,hx,hk⟩:=Option.bind_eq_some_iff.1 h
  obtain⟨h1,h2⟩:=ajp hl
  cases m with
  |zero=>cases hx
  |succ m=>exact⟨_,hk,(tT m (hct m (Nat.lt_succ_self m)) _ hx).conv h1 h2,⟨_,Tryz.func166,rfl,by decide⟩⟩
 cases h
end
set_option maxHeartbeats 4000000 in
theorem ct_ok:∀(m:Nat) (R:Type),CallOK (R:=R) Tryz.prog (ct m):=by
 intro m
 induction m using Nat.strongRecOn with
 |_ m ih=>
  intro R f args objs K r h
  unfold ct at h
  rcases dH h with⟨hb,h1⟩| ⟨_,h⟩
  ·cases beq_eq hb;exact aeP m ih h1
  rcases dH h with⟨hb,h1⟩| ⟨_,h⟩
  ·cases beq_eq hb;exact aeQ m ih h1
  rcases dH h with⟨hb,h1⟩| ⟨_,h⟩
  ·cases beq_eq hb;exact aeR m ih h1
  rcases dH h with⟨hb,h1⟩| ⟨_,h⟩
  ·cases beq_eq hb;exact aeS m ih h1
  rcases dH h with⟨hb,h1⟩| ⟨_,h⟩
  ·cases beq_eq hb;exact aeT m ih h1
  rcases dH h with⟨hb,h1⟩| ⟨_,h⟩
  ·cases beq_eq hb;exact aeN m ih h1
  rcases dH h with⟨hb,h1⟩| ⟨_,h⟩
  ·cases beq_eq hb;exact aeO m ih h1
  cases h
end Go.Proofs.YtmecfjhdnbgfeaaGreatDoor.P1
