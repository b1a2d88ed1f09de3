/- The card of docstorelaw04.PathNumbers, from the contract of the law's function. -/
import Derived.Test.YtmjnmiahblaanaaDoorCards
import Derived.Test.YtmjnmiahblaanaaDoorTie
import Derived.Test.YtmjnmiahblaanaaDoorFx
import Derived.Test.YtmjnmiahblaanaaDoorMNum
import Derived.WalkKit
import Derived.ProofKit
import Derived.OpenShut
import Derived.Deep.DeepHandedRow
import Derived.Deep.DeepWitnessRowRef
import Derived.Lib.LaidIn
import Derived.SizedLaws
import Derived.Lib.LaidU8T
import Derived.PinnedBridge
set_option linter.unusedVariables false
set_option linter.unusedSimpArgs false
namespace Go.Proofs.YtmjnmiahblaanaaDoor.pathNumbers
open Go.ChangeShapes Go.WideShapes Go.ChangeAt Go.RowKit Go.Am
open Go.ChangeMaps (open_string shut_string)

theorem law_fx (s : ByteArray) (hs : s.size ≤ maxLen) : FX Tryd.prog 5 [.dat 9 (.str s)] [] (.dat 4 (.bool true)) [] :=
  law04_PathNumbers_fx 6 (ct_ok 6) s (law_numbers s)

theorem own : ownKnob Tryd.prog.godebug = none := by kernel_rfl

theorem below_of {P : Program} {ok : Nat → Prop} {w w' : World} {β β' : Nat → Option Value} {hs' : List Ob} (h : FinX P ok w w' β β' [] hs') : Below w.heap.size w w' :=
  ⟨h.below.os, h.below.tape, h.below.output, h.below.size, fun k hk => h.below.block k hk (fun ⟨l, ho, _⟩ => by cases l <;> cases ho)⟩
theorem plain_call {P : Program} {f : FuncId} {args : List AV} {res : AV} (h : FX P f args [] res []) (W : World) (vs : List Value) (hv : RVsX P (fun _ => False) W (fun _ => none) args vs) :
    Calls P f vs.toArray W fun e w' => ∃ v β', e = .returned v ∧ FinX P (fun _ => False) W w' (fun _ => none) β' [] [] ∧ RV P (okOf ⟨fun _ => False, XO [] (fun _ => none), fun _ => none, 0⟩ W w' [] β') w' β' res v :=
  h (fun _ => False) W (fun _ => none) vs (fun b hb => hb.elim) (fun l => rfl) (fun l l' b h => by obtain ⟨h1, _⟩ := h; cases l <;> cases h1) hv
theorem agg_str {P : Program} {T : TypeId} (h : P.underlying T = some .string) (d : Dt) : AV.isAgg P (.dat T d) = false := by
  show aggT P T = false
  unfold aggT
  rw [h]
theorem agg_bool {P : Program} {T : TypeId} (h : P.underlying T = some .bool) (d : Dt) : AV.isAgg P (.dat T d) = false := by
  show aggT P T = false
  unfold aggT
  rw [h]
theorem rv_str {P : Program} {T : TypeId} (h : P.underlying T = some .string) {ok : Nat → Prop} {w : World} {β : Nat → Option Value} {s : ByteArray} (hs : s.size ≤ maxLen) : RV P ok w β (.dat T (.str s)) (.string s) :=
  ⟨fun e => (by rw [agg_str h] at e; cases e), fun _ => RA.dat (RD.str h hs)⟩
theorem rv_true {P : Program} {T : TypeId} (h : P.underlying T = some .bool) {ok : Nat → Prop} {w : World} {β : Nat → Option Value} {b : Bool} {v : Value} (hr : RV P ok w β (.dat T (.bool b)) v) : v = .bool b := by
  obtain ⟨_, h2⟩ := hr
  have := h2 (agg_bool h _)
  cases this with
  | dat h => cases h with
    | bool => rfl
set_option maxRecDepth 100000 in
/-- What the contract says of every argument and every world. -/
theorem contract (H : Type) (enc : TypeId × Value → H) (W : World) (base : Nat) (args : Array Value) (ds gs : List (DataW H)) (before : List MemPlace)
    (hval : ∀ (j : Nat) t v, Tryd.f5.params[j]? = some t → args[j]? = some v → Value.okWide Tryd.prog W .any base t v)
    (hW : DataW.Whole enc Tryd.prog Tryd.f5.params.toList Rows.pathNumbersSpec.vars false W args.toList ds gs before) :
    Calls Tryd.prog 5 args W fun e W' => ∃ v, e = .returned v ∧ Rows.pathNumbersSpec.post enc Tryd.prog Tryd.f5 false true false false W args v W' := by
  have hW' := hW
  obtain ⟨p, q, hA0, hV, rfl, hfz, hnd⟩ := hW
  have hA : DataW.TrodAll enc Tryd.prog W 0 (fun _ => true) true Tryd.f5.params.toList args.toList ds p := hA0
  rw [Tryd.params5] at hA hval
  obtain ⟨v0, vs0, d0, ds0, p0, q0, hargs, rfl, rfl, h0, r0⟩ := trodAll_cons hA
  obtain ⟨rfl, rfl, rfl⟩ := trodAll_nil r0
  obtain rfl : args = #[v0] := by cases args; simp_all
  obtain ⟨rfl, rfl⟩ := trodVars_none hV
  obtain ⟨s, rfl, rfl, rfl, ws⟩ := open_string Tryd.underlying9 (hval 0 9 v0 rfl rfl) h0
  clear hA0
  simp only [List.append_nil] at hW'
  have walk := plain_call (law_fx s ws) W [.string s] (.cons (rv_str Tryd.underlying9 ws) .nil)
  refine walk.mono fun e W' ⟨v, β', he, hf, hr⟩ => ?_
  subst he
  have hg := below_of hf
  obtain rfl : v = .bool true := rv_true Tryd.underlying4 hr
  have e1 : Rows.pathNumbersSpec.fn H ([.lit (.string s.data.toList)] ++ []) = { results := [.lit (.bool true)], args := [.lit (.string s.data.toList)] } := rfl
  refine ⟨_, rfl, _, _, _, [], [], [], hW', ?_, ?_, ?_, hg.frame _, fun h => by cases h⟩
  · rw [e1]; exact trodAll_mk1 (shut_bool Tryd.underlying4 _)
  · rw [e1]; exact trodAll_mk1 (shut_string Tryd.underlying9 ws)
  · rw [e1]; rfl

/-- A world for the witness: the settled one, the two tables holding what their initialisers lay. -/
noncomputable def laidWorld (os : Os) : World :=
  let w0 := World.holding Tryd.prog os ⟨#[], #[], []⟩
  let put (h : Array Obj) (g : Nat) (cs : Array Value) : Array Obj := h.modify g fun
    | .cells _ t frozen => .cells cs t frozen
    | o => o
  let h1 := put w0.heap 1 (Lib.firstTab.map fun z => Value.int .u8 z).toArray
  let h2 := put h1 2 ((List.range 16).flatMap fun i => [Value.int .u8 (Lib.accLo i), Value.int .u8 (Lib.accHi i)]).toArray
  { w0 with heap := h2 }
theorem laid_eq : Rows.pathNumbersRow.laid = [("unicode/utf8.acceptRanges", Lib.acceptData), ("unicode/utf8.first", Lib.firstData)] := by kernel_rfl
theorem laid_met (os : Os) (args : Array Value) : laidMet Tryd.prog Rows.pathNumbersRow.laid ((laidWorld os).forCall (fun _ _ => 0) ⟨#[], args, []⟩).memory := by
  rw [laid_eq]
  exact (LaidIn.of_run (l := [("unicode/utf8.acceptRanges", Lib.acceptData), ("unicode/utf8.first", Lib.firstData)]) [2, 1] 8 (by kernel_rfl) (by kernel_rfl) (by kernel_rfl) (by kernel_rfl)).met

theorem witness_row (os : Os) {H : Type} (enc : TypeId × Value → H) :
    (OpenSpec.ofChange Rows.pathNumbersSpec).preRow enc Tryd.prog Tryd.f5 Rows.pathNumbersRow.domain false Rows.pathNumbersRow.laid ((laidWorld os).forCall (fun _ _ => 0) ⟨#[], #[.string ⟨#[]⟩], []⟩).memory #[.string ⟨#[]⟩] := by
  have hw : (DataW.whole enc Tryd.prog ((laidWorld os).forCall (fun _ _ => 0) ⟨#[], #[.string ⟨#[]⟩], []⟩).memory Tryd.f5.params.toList Rows.pathNumbersSpec.vars false #[Value.string ⟨#[]⟩].toList 8).map (fun x => (x.1, x.2.1)) =
      some ([.lit (.string [])], []) := by kernel_rfl
  obtain ⟨⟨x1, x2, x3⟩, hx, hx1⟩ := Option.map_eq_some_iff.1 hw
  simp only [Prod.mk.injEq] at hx1
  obtain ⟨rfl, rfl⟩ := hx1
  exact OpenSpec.preRow_of_cond 8 hx (by kernel_rfl) (fun k hk => by cases hk) (by kernel_rfl) (laid_met os _)

set_option maxRecDepth 100000 in
theorem lifted (os : Os) (started : os.Started) (H : Type) (enc : TypeId × Value → H) (F : Stop.Interp) :
    ReturnsInHanded {} Tryd.checked os 5 .any ((OpenSpec.ofChange Rows.pathNumbersSpec).preRow enc Tryd.prog Tryd.f5 Rows.pathNumbersRow.domain false Rows.pathNumbersRow.laid) (((OpenSpec.ofChange Rows.pathNumbersSpec).at F).post enc Tryd.prog Tryd.f5 false true false false) := by
  refine returnsInHanded_of_row (C := Tryd.checked) (s := OpenSpec.ofChange Rows.pathNumbersSpec) own started (by kernel_rfl) Tryd.func5
    (witness_row_atRef (enc := enc) (C := Tryd.checked) false (laidWorld os) #[.string ⟨#[]⟩] rfl (by kernel_rfl) (by kernel_rfl) (by kernel_rfl) (witness_row os enc)) ?_
  intro W base args ds gs before hval hW _ _ _ hL _ _
  exact contract H enc W base args ds gs before hval hW

theorem said : Rows.PathNumbersSaid :=
  OpenClaim.holds_of_cond 5 Tryd.f5 rfl rfl rfl rfl rfl rfl rfl ⟨rfl, rfl, rfl, rfl, rfl⟩ rfl rfl rfl rfl rfl (by kernel_rfl) Tryd.func5 (by kernel_rfl)
    (of_decide_eq_true (by kernel_rfl)) (by unfold Func.isWrapper; first | (rw [if_pos (by decide +kernel)]; kernel_rfl) | (rw [if_neg (by decide +kernel)]; exact ⟨rfl, rfl⟩))
    (fun os started H enc _ F => by rw [OpenClaim.pre_eq_preRow]; exact lifted os started H enc F)

theorem plain (f : FuncId) (fn : Func) (hf : Tryd.pinned.checked.prog.funcNamed "docstore/docstorelaw04.PathNumbers" = some f) (hfn : Tryd.pinned.checked.prog.funcs[f]? = some fn) :
    false = Tryd.pinned.checked.prog.looks [] ∧ ∀ (j : Nat) t, fn.params[j]? = some t → Tryd.pinned.checked.prog.wantsStandIn t = false := by
  obtain rfl : f = 5 := Option.some.inj ((show Tryd.prog.funcNamed "docstore/docstorelaw04.PathNumbers" = some 5 by kernel_rfl).symm.trans hf) |>.symm
  obtain rfl : fn = Tryd.f5 := (Option.some.inj (Tryd.func5.symm.trans hfn)).symm
  refine ⟨by kernel_rfl, fun j t ht => ?_⟩
  rw [Tryd.params5] at ht
  obtain rfl : t = 9 := by simpa using Array.mem_of_getElem? ht
  exact (show Tryd.prog.wantsStandIn 9 = false by kernel_rfl)

theorem card : Rows.PathNumbersCardSaid :=
  Claim7.holds_tied_plain_at .later [] _ _ _ _ said (fun _ h => by cases h) (by kernel_rfl) (fun _ h => by cases h) pathNumbers_row_tie rfl ⟨rfl, rfl⟩ (by kernel_rfl) rfl plain (by kernel_rfl)
end Go.Proofs.YtmjnmiahblaanaaDoor.pathNumbers
