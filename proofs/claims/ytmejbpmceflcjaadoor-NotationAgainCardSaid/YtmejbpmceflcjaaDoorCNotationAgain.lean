/- The card of docstore/docstorelaw05.NotationAgain: for every input the law returns true, and its arguments read as before. -/
import Derived.Test.YtmejbpmceflcjaaDoorCards
import Derived.Test.YtmejbpmceflcjaaDoorTie
import Derived.Test.YtmejbpmceflcjaaDoorAm21
import Derived.Test.YtmejbpmceflcjaaDoorNAgL
import Derived.WalkKit
import Derived.ProofKit
import Derived.OpenShut
import Derived.Deep.DeepHandedRow
import Derived.Deep.DeepWitnessRowRef
import Derived.Lib.LaidIn
import Derived.SizedLaws
import Derived.Test.YtmejbpmceflcjaaDoorCTabsN
import Derived.PinnedBridge
set_option linter.unusedVariables false
set_option linter.unusedSimpArgs false
namespace Go.Proofs.YtmejbpmceflcjaaDoor.notationAgain
open Go.ChangeShapes Go.WideShapes Go.ChangeAt Go.RowKit Go.Am
theorem bulkOK {H:Type}:BulkOK (H:=H) Rows.uptoBulk Rows.uptoBulkAll:={
 str:=fun _=>rfl
 lit:=fun l=>by cases l<;>simp[Rows.uptoBulk]
 nil:=Nat.le_refl _
 slice:=fun _ _=>rfl
 agg:=fun _=>rfl
 none:=rfl
 cons:=fun _ _=>rfl}
theorem own:ownKnob Tryd.prog.godebug=none:=by kernel_rfl
set_option maxRecDepth 100000 in
theorem contract (H:Type) (enc:TypeId×Value→H) (W:World) (base:Nat) (args:Array Value) (ds gs:List (DataW H)) (before:List MemPlace)
  (hval:∀(j:Nat) t v,Tryd.f5.params[j]? =some t→args[j]? =some v→Value.okWide Tryd.prog W .any base t v)
  (hW:DataW.Whole enc Tryd.prog Tryd.f5.params.toList Rows.notationAgainSpec.vars false W args.toList ds gs before) (htab:TabOK (fun b=>b<W.heap.size) W):
  Calls Tryd.prog 5 args W fun e W'=>∃v,e= .returned v∧Rows.notationAgainSpec.post enc Tryd.prog Tryd.f5 false true false false W args v W':=
 law_post bulkOK (Ts:=[9]) (TB:=4) (N:=Rows.uptoBulkAll ds) (by kernel_rfl) (by kernel_rfl) (by kernel_rfl) (by kernel_rfl) Tryd.underlying4 rfl rfl (fun Ds h=>by
  have h':Ds.length=1:=h
  match Ds,h' with
  | [d0],_=>rfl) (fun ds h hb=>nagain_fx h) hval htab (Nat.le_refl _) hW
theorem laid_eq:Rows.notationAgainRow.laid=laidL:=by kernel_rfl
theorem laid_met (os:Os) (args:Array Value):laidMet Tryd.prog Rows.notationAgainRow.laid ((laidWorld os).forCall (fun _ _=>0) ⟨#[],args,[]⟩).memory:=by
 rw[laid_eq]
 exact laid_met0 os args
theorem witness_row (os:Os) {H:Type} (enc:TypeId×Value→H):
  (OpenSpec.ofChange Rows.notationAgainSpec).preRow enc Tryd.prog Tryd.f5 Rows.notationAgainRow.domain false Rows.notationAgainRow.laid ((laidWorld os).forCall (fun _ _=>0) ⟨#[],#[.string ⟨#[]⟩],[]⟩).memory #[.string ⟨#[]⟩]:=by
 have hw:(DataW.whole enc Tryd.prog ((laidWorld os).forCall (fun _ _=>0) ⟨#[],#[.string ⟨#[]⟩],[]⟩).memory Tryd.f5.params.toList Rows.notationAgainSpec.vars false (#[.string ⟨#[]⟩]:Array Value).toList 8).map (fun x=>(x.1,x.2.1))=
   some ([.lit (.string [])],[]):=by kernel_rfl
 obtain⟨⟨x1,x2,x3⟩,hx,hx1⟩:=Option.map_eq_some_iff.1 hw
 simp only[Prod.mk.injEq] at hx1
 obtain⟨rfl,rfl⟩:=hx1
 exact OpenSpec.preRow_of_cond 8 hx (by kernel_rfl) (fun k hk=>by cases hk) (by kernel_rfl) (laid_met os _)
set_option maxRecDepth 100000 in
theorem lifted (os:Os) (started:os.Started) (H:Type) (enc:TypeId×Value→H) (F:Stop.Interp):
  ReturnsInHanded {} Tryd.checked os 5 .any ((OpenSpec.ofChange Rows.notationAgainSpec).preRow enc Tryd.prog Tryd.f5 Rows.notationAgainRow.domain false Rows.notationAgainRow.laid) (((OpenSpec.ofChange Rows.notationAgainSpec).at F).post enc Tryd.prog Tryd.f5 false true false false):=by
 refine returnsInHanded_of_row (C:=Tryd.checked) (s:=OpenSpec.ofChange Rows.notationAgainSpec) own started (by kernel_rfl) Tryd.func5
  (witness_row_atRef (enc:=enc) (C:=Tryd.checked) false (laidWorld os) #[.string ⟨#[]⟩] rfl (by kernel_rfl) (by kernel_rfl) (by kernel_rfl) (witness_row os enc)) ?_
 intro W base args ds gs before hval hW _ hcond _ hlaid _ _
 rw[laid_eq] at hlaid
 exact contract H enc W base args ds gs before hval hW (tabOK_of hlaid)
theorem said:Rows.NotationAgainSaid:=
 OpenClaim.holds_of_cond 5 Tryd.f5 rfl rfl rfl rfl rfl rfl rfl ⟨rfl,rfl,rfl,rfl,rfl⟩ rfl rfl rfl rfl rfl (by kernel_rfl) Tryd.func5 (by kernel_rfl)
  (of_decide_eq_true (by kernel_rfl)) (by unfold Func.isWrapper;first|(rw[if_pos (by decide+kernel)];kernel_rfl)|(rw[if_neg (by decide+kernel)];exact⟨rfl,rfl⟩))
  (fun os started H enc _ F=>by rw[OpenClaim.pre_eq_preRow];exact lifted os started H enc F)
theorem stand:(Tryd.f5.params.toList.all fun t=>!Tryd.prog.wantsStandIn t)=true:=by kernel_rfl
theorem plain (f:FuncId) (fn:Func) (hf:Tryd.pinned.checked.prog.funcNamed "docstore/docstorelaw05.NotationAgain" =some f) (hfn:Tryd.pinned.checked.prog.funcs[f]? =some fn):
  true=Tryd.pinned.checked.prog.looks []∧∀(j:Nat) t,fn.params[j]? =some t→Tryd.pinned.checked.prog.wantsStandIn t=false:=by
 obtain rfl:f=5:=Option.some.inj ((show Tryd.prog.funcNamed "docstore/docstorelaw05.NotationAgain" =some 5 by kernel_rfl).symm.trans hf) |>.symm
 obtain rfl:fn=Tryd.f5:=(Option.some.inj (Tryd.func5.symm.trans hfn)).symm
 refine⟨by kernel_rfl,fun j t ht=>?_⟩
 have h:=List.all_eq_true.1 stand t (List.mem_of_getElem? (i:=j) (by rw[Array.getElem?_toList];exact ht))
 have h2:Tryd.prog.wantsStandIn t=false:=by simpa using h
 exact h2
theorem card:Rows.NotationAgainCardSaid:=
 Claim7.holds_tied_plain_at .later [] _ _ _ _ said (fun _ h=>by cases h) (by kernel_rfl) (fun _ h=>by cases h) notationAgain_row_tie rfl ⟨rfl,rfl⟩ (by kernel_rfl) rfl plain (by kernel_rfl)
end Go.Proofs.YtmejbpmceflcjaaDoor.notationAgain
