/- The card of docstore/docstorelaw36.ReshapeMerge: for every input the law returns true, and its arguments read as before. -/
import Derived.Test.YtmecfjhdnbgfeaaGreatDoorCards
import Derived.Test.YtmecfjhdnbgfeaaGreatDoorTie
import Derived.Test.YtmecfjhdnbgfeaaGreatDoorPA
import Derived.Test.YtmecfjhdnbgfeaaGreatDoorPC
import Derived.WalkKit
import Derived.ProofKit
import Derived.OpenShut
import Derived.Deep.DeepHandedRow
import Derived.Deep.DeepWitnessRowRef
import Derived.Lib.LaidIn
import Derived.SizedLaws
import Derived.PinnedBridge
set_option linter.all false
namespace Go.Proofs.YtmecfjhdnbgfeaaGreatDoor.reshapeMerge
open Go.ChangeShapes Go.WideShapes Go.ChangeAt Go.RowKit Go.Am
theorem aud{H:Type}:BulkOK (H:=H) Rows.uptoBulk Rows.uptoBulkAll:={
 str:=fun _=>rfl
 lit:=fun l=>by cases l<;>simp[Rows.uptoBulk]
 nil:=aL _
 slice:=fun _ _=>rfl
 agg:=fun _=>rfl
 none:=rfl
 cons:=fun _ _=>rfl}
theorem own:ownKnob Tryz.prog.godebug=none:=by kernel_rfl
set_option maxRecDepth 100000 in
theorem contract(H:Type)(enc:TypeId×Value->H)(W:World)(base:Nat)(args:Array Value)(ds gs:List (DataW H))(before:List MemPlace)
  (hval:∀(j:Nat) t v,Tryz.f7.params[j]? =some t->args[j]? =some v->Value.okWide Tryz.prog W .any base t v)
  (hW:DataW.Whole enc Tryz.prog Tryz.f7.params.toList Rows.reshapeMergeSpec.vars false W args.toList ds gs before)(htab:TabOK (fun b=>b<W.heap.size) W)
  (hk:Rows.uptoSmall H (ds++gs)=true):
  Calls Tryz.prog 7 args W fun e W'=>∃v,e= .returned v∧Rows.reshapeMergeSpec.post enc Tryz.prog Tryz.f7 false true false false W args v W':=
 ame aud (Ts:=[51,9,49,22,3,23,26,24,48,4]) (TB:=4) (N:=1048576) (by kernel_rfl) (by kernel_rfl) (by kernel_rfl) (by kernel_rfl) Tryz.underlying4 rfl rfl (fun Ds h=>by
  have h':Ds.length=3:=h;match Ds,h' with
  | [d0,d1,d2],_=>rfl) (fun ds h hb=>agO h hb) hval htab (by
  have hg:gs=[]:=by obtain⟨p,q,_,hV,_⟩:=hW;exact(trodVars_none hV).1
  subst hg;rw[List.append_nil]at hk;exact of_decide_eq_true hk) hW
theorem UJ:Rows.reshapeMergeUptoRow.laid=UO:=by kernel_rfl
theorem agM(os:Os)(args:Array Value):laidMet Tryz.prog Rows.reshapeMergeUptoRow.laid ((kD os).forCall (fun _ _=>0) ⟨#[],args,[]⟩).memory:=by rw[UJ];exact Yo os args
theorem MS(os:Os){H:Type}(enc:TypeId×Value->H):
  (Rows.OpenSpec.upto Rows.reshapeMergeSpec).preRow enc Tryz.prog Tryz.f7 Rows.reshapeMergeUptoRow.domain false Rows.reshapeMergeUptoRow.laid ((kD os).forCall (fun _ _=>0) ⟨#[],#[.agg #[.string ⟨#[]⟩,.slice none 0 0,.int .i64 0,.int .i64 0],.slice none 0 0,.slice none 0 0],[]⟩).memory #[.agg #[.string ⟨#[]⟩,.slice none 0 0,.int .i64 0,.int .i64 0],.slice none 0 0,.slice none 0 0]:=by
 have hw:(DataW.whole enc Tryz.prog ((kD os).forCall (fun _ _=>0) ⟨#[],#[.agg #[.string ⟨#[]⟩,.slice none 0 0,.int .i64 0,.int .i64 0],.slice none 0 0,.slice none 0 0],[]⟩).memory Tryz.f7.params.toList Rows.reshapeMergeSpec.vars false (#[.agg #[.string ⟨#[]⟩,.slice none 0 0,.int .i64 0,.int .i64 0],.slice none 0 0,.slice none 0 0]:Array Value).toList 8).map (fun x=>(x.1,x.2.1))=
   some ([.agg [.lit (.string []),.nil,.lit (.int .i64 0),.lit (.int .i64 0)],.nil,.nil],[]):=by kernel_rfl
 obtain⟨⟨x1,x2,x3⟩,hx,hx1⟩:=aW.1 hw;simp only[Prod.mk.injEq]at hx1;obtain⟨rfl,rfl⟩:=hx1;exact OpenSpec.preRow_of_cond 8 hx (by kernel_rfl) (fun k hk=>by cases hk;kernel_rfl) (by kernel_rfl) (agM os _)
set_option maxRecDepth 100000 in
theorem lifted(os:Os)(started:os.Started)(H:Type)(enc:TypeId×Value->H)(F:Stop.Interp):
  ReturnsInHanded {} Tryz.checked os 7 .any ((Rows.OpenSpec.upto Rows.reshapeMergeSpec).preRow enc Tryz.prog Tryz.f7 Rows.reshapeMergeUptoRow.domain false Rows.reshapeMergeUptoRow.laid) (((Rows.OpenSpec.upto Rows.reshapeMergeSpec).at F).post enc Tryz.prog Tryz.f7 false true false false):=by
 refine returnsInHanded_of_row (C:=Tryz.checked) (s:=Rows.OpenSpec.upto Rows.reshapeMergeSpec) own started (by kernel_rfl) Tryz.func7
  (witness_row_atRef (enc:=enc) (C:=Tryz.checked) false (kD os) #[.agg #[.string ⟨#[]⟩,.slice none 0 0,.int .i64 0,.int .i64 0],.slice none 0 0,.slice none 0 0] rfl (by kernel_rfl) (by kernel_rfl) (by kernel_rfl) (MS os enc)) ?_
 intro W base args ds gs before hval hW _ hcond _ hlaid _ _;rw[UJ]at hlaid;exact contract H enc W base args ds gs before hval hW (agR hlaid) (hcond _ rfl)
theorem said:Rows.ReshapeMergeUptoSaid:=
 OpenClaim.holds_of_cond 7 Tryz.f7 rfl rfl rfl rfl rfl rfl rfl ⟨rfl,rfl,rfl,rfl,rfl⟩ rfl rfl rfl rfl rfl (by kernel_rfl) Tryz.func7 (by kernel_rfl)
  (of_decide_eq_true (by kernel_rfl)) (by unfold Func.isWrapper;first|(rw[if_pos (by decide+kernel)];kernel_rfl)|(rw[if_neg (by decide+kernel)];exact⟨rfl,rfl⟩))
  (fun os started H enc _ F=>by rw[OpenClaim.pre_eq_preRow];exact lifted os started H enc F)
theorem stand:(Tryz.f7.params.toList.all fun t=>!Tryz.prog.wantsStandIn t)=true:=by kernel_rfl
theorem plain(f:FuncId)(fn:Func)(hf:Tryz.pinned.checked.prog.funcNamed "docstore/docstorelaw36.ReshapeMerge" =some f)(hfn:Tryz.pinned.checked.prog.funcs[f]? =some fn):
  false=Tryz.pinned.checked.prog.looks []∧∀(j:Nat) t,fn.params[j]? =some t->Tryz.pinned.checked.prog.wantsStandIn t=false:=by
 obtain rfl:f=7:=Option.some.inj ((show Tryz.prog.funcNamed "docstore/docstorelaw36.ReshapeMerge" =some 7 by kernel_rfl).symm.trans hf) |>.symm
 obtain rfl:fn=Tryz.f7:=(Option.some.inj (Tryz.func7.symm.trans hfn)).symm;refine⟨by kernel_rfl,fun j t ht=>?_⟩;have h:=List.all_eq_true.1 stand t (aM (i:=j) (by rw[Array.getElem?_toList];exact ht));have h2:Tryz.prog.wantsStandIn t=false:=by simpa using h
 exact h2
theorem card:Rows.ReshapeMergeUptoCardSaid:=
 Claim7.holds_tied_plain_at .later [] _ _ _ _ said (fun _ h=>by cases h) (by kernel_rfl) (fun _ h=>by cases h) reshapeMergeUpto_row_tie rfl ⟨rfl,rfl⟩ (by kernel_rfl) rfl plain (by kernel_rfl)
