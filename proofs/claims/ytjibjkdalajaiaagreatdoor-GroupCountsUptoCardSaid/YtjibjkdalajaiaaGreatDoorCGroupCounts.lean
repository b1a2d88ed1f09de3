/- The card of docstore/docstorelaw33.GroupCounts: for every input the law returns true, and its arguments read as before. -/
import Derived.Test.YtjibjkdalajaiaaGreatDoorCards
import Derived.Test.YtjibjkdalajaiaaGreatDoorTie
import Derived.Test.YtjibjkdalajaiaaGreatDoorPA
import Derived.Test.YtjibjkdalajaiaaGreatDoorPC
import Derived.WalkKit
import Derived.ProofKit
import Derived.OpenShut
import Derived.Deep.DeepHandedRow
import Derived.Deep.DeepWitnessRowRef
import Derived.Lib.LaidIn
import Derived.SizedLaws
import Derived.PinnedBridge
set_option linter.all false
namespace Go.Proofs.YtjibjkdalajaiaaGreatDoor.groupCounts
open Go.ChangeShapes Go.WideShapes Go.ChangeAt Go.RowKit Go.Am
theorem aq5{H:Type}:BulkOK (H:=H) Rows.uptoBulk Rows.uptoBulkAll:={
 str:=fun _=>rfl
 lit:=fun l=>by cases l<;>simp[Rows.uptoBulk]
 nil:=ay _
 slice:=fun _ _=>rfl
 agg:=fun _=>rfl
 none:=rfl
 cons:=fun _ _=>rfl}
theorem own:ownKnob Tryz.prog.godebug=none:=by kernel_rfl
set_option maxRecDepth 100000 in
theorem contract(H:Type)(enc:TypeId×Value->H)(W:World)(base:Nat)(args:Array Value)(ds gs:List (DataW H))(before:List MemPlace)
  (hval:∀(j:Nat) t v,Tryz.f3.params[j]? =some t->args[j]? =some v->Value.okWide Tryz.prog W .any base t v)
  (hW:DataW.Whole enc Tryz.prog Tryz.f3.params.toList Rows.groupCountsSpec.vars false W args.toList ds gs before)(htab:TabOK (fun b=>b<W.heap.size) W)
  (hk:Rows.uptoSmall H (ds++gs)=true):
  Calls Tryz.prog 3 args W fun e W'=>∃v,e= .returned v∧Rows.groupCountsSpec.post enc Tryz.prog Tryz.f3 false true false false W args v W':=
 alF aq5 (Ts:=[29,23,3,9,22,26,27,24,44]) (TB:=4) (N:=1048576) (by kernel_rfl) (by kernel_rfl) (by kernel_rfl) (by kernel_rfl) Tryz.underlying4 rfl rfl (fun Ds h=>by
  have h':Ds.length=2:=h;match Ds,h' with
  | [d0,d1],_=>rfl) (fun ds h hb=>adK h hb) hval htab (by
  have hg:gs=[]:=by obtain⟨p,q,_,hV,_⟩:=hW;exact(trodVars_none hV).1
  subst hg;rw[List.append_nil]at hk;exact of_decide_eq_true hk) hW
theorem ad5:Rows.groupCountsUptoRow.laid=afX:=by kernel_rfl
theorem aiD(os:Os)(args:Array Value):laidMet Tryz.prog Rows.groupCountsUptoRow.laid ((AB os).forCall (fun _ _=>0) ⟨#[],args,[]⟩).memory:=by rw[ad5];exact ahC os args
theorem YG(os:Os){H:Type}(enc:TypeId×Value->H):
  (Rows.OpenSpec.upto Rows.groupCountsSpec).preRow enc Tryz.prog Tryz.f3 Rows.groupCountsUptoRow.domain false Rows.groupCountsUptoRow.laid ((AB os).forCall (fun _ _=>0) ⟨#[],#[.agg #[.int .i64 0,.slice none 0 0,.string ⟨#[]⟩,.slice none 0 0,.int .i64 0,.int .i64 0,.string ⟨#[]⟩,.slice none 0 0,.slice none 0 0,.int .i64 0,.slice none 0 0],.slice none 0 0],[]⟩).memory #[.agg #[.int .i64 0,.slice none 0 0,.string ⟨#[]⟩,.slice none 0 0,.int .i64 0,.int .i64 0,.string ⟨#[]⟩,.slice none 0 0,.slice none 0 0,.int .i64 0,.slice none 0 0],.slice none 0 0]:=by
 have hw:(DataW.whole enc Tryz.prog ((AB os).forCall (fun _ _=>0) ⟨#[],#[.agg #[.int .i64 0,.slice none 0 0,.string ⟨#[]⟩,.slice none 0 0,.int .i64 0,.int .i64 0,.string ⟨#[]⟩,.slice none 0 0,.slice none 0 0,.int .i64 0,.slice none 0 0],.slice none 0 0],[]⟩).memory Tryz.f3.params.toList Rows.groupCountsSpec.vars false (#[.agg #[.int .i64 0,.slice none 0 0,.string ⟨#[]⟩,.slice none 0 0,.int .i64 0,.int .i64 0,.string ⟨#[]⟩,.slice none 0 0,.slice none 0 0,.int .i64 0,.slice none 0 0],.slice none 0 0]:Array Value).toList 8).map (fun x=>(x.1,x.2.1))=
   some ([.agg [.lit (.int .i64 0),.nil,.lit (.string []),.nil,.agg [.lit (.int .i64 0),.lit (.int .i64 0),.lit (.string []),.nil,.nil],.lit (.int .i64 0),.nil],.nil],[]):=by kernel_rfl
 obtain⟨⟨x1,x2,x3⟩,hx,hx1⟩:=aY.1 hw;simp only[Prod.mk.injEq]at hx1;obtain⟨rfl,rfl⟩:=hx1;exact OpenSpec.preRow_of_cond 8 hx (by kernel_rfl) (fun k hk=>by cases hk;kernel_rfl) (by kernel_rfl) (aiD os _)
set_option maxRecDepth 100000 in
theorem lifted(os:Os)(started:os.Started)(H:Type)(enc:TypeId×Value->H)(F:Stop.Interp):
  ReturnsInHanded {} Tryz.checked os 3 .any ((Rows.OpenSpec.upto Rows.groupCountsSpec).preRow enc Tryz.prog Tryz.f3 Rows.groupCountsUptoRow.domain false Rows.groupCountsUptoRow.laid) (((Rows.OpenSpec.upto Rows.groupCountsSpec).at F).post enc Tryz.prog Tryz.f3 false true false false):=by
 refine returnsInHanded_of_row (C:=Tryz.checked) (s:=Rows.OpenSpec.upto Rows.groupCountsSpec) own started (by kernel_rfl) Tryz.func3
  (witness_row_atRef (enc:=enc) (C:=Tryz.checked) false (AB os) #[.agg #[.int .i64 0,.slice none 0 0,.string ⟨#[]⟩,.slice none 0 0,.int .i64 0,.int .i64 0,.string ⟨#[]⟩,.slice none 0 0,.slice none 0 0,.int .i64 0,.slice none 0 0],.slice none 0 0] rfl (by kernel_rfl) (by kernel_rfl) (by kernel_rfl) (YG os enc)) ?_
 intro W base args ds gs before hval hW _ hcond _ hlaid _ _;rw[ad5]at hlaid;exact contract H enc W base args ds gs before hval hW (amO hlaid) (hcond _ rfl)
theorem said:Rows.GroupCountsUptoSaid:=
 OpenClaim.holds_of_cond 3 Tryz.f3 rfl rfl rfl rfl rfl rfl rfl ⟨rfl,rfl,rfl,rfl,rfl⟩ rfl rfl rfl rfl rfl (by kernel_rfl) Tryz.func3 (by kernel_rfl)
  (of_decide_eq_true (by kernel_rfl)) (by unfold Func.isWrapper;first|(rw[if_pos (by decide+kernel)];kernel_rfl)|(rw[if_neg (by decide+kernel)];exact⟨rfl,rfl⟩))
  (fun os started H enc _ F=>by rw[OpenClaim.pre_eq_preRow];exact lifted os started H enc F)
theorem stand:(Tryz.f3.params.toList.all fun t=>!Tryz.prog.wantsStandIn t)=true:=by kernel_rfl
theorem plain(f:FuncId)(fn:Func)(hf:Tryz.pinned.checked.prog.funcNamed "docstore/docstorelaw33.GroupCounts" =some f)(hfn:Tryz.pinned.checked.prog.funcs[f]? =some fn):
  false=Tryz.pinned.checked.prog.looks []∧∀(j:Nat) t,fn.params[j]? =some t->Tryz.pinned.checked.prog.wantsStandIn t=false:=by
 obtain rfl:f=3:=Option.some.inj ((show Tryz.prog.funcNamed "docstore/docstorelaw33.GroupCounts" =some 3 by kernel_rfl).symm.trans hf) |>.symm
 obtain rfl:fn=Tryz.f3:=(Option.some.inj (Tryz.func3.symm.trans hfn)).symm;refine⟨by kernel_rfl,fun j t ht=>?_⟩;have h:=List.all_eq_true.1 stand t (aU (i:=j) (by rw[Array.getElem?_toList];exact ht));have h2:Tryz.prog.wantsStandIn t=false:=by simpa using h
 exact h2
theorem card:Rows.GroupCountsUptoCardSaid:=
 Claim7.holds_tied_plain_at .later [] _ _ _ _ said (fun _ h=>by cases h) (by kernel_rfl) (fun _ h=>by cases h) groupCountsUpto_row_tie rfl ⟨rfl,rfl⟩ (by kernel_rfl) rfl plain (by kernel_rfl)
