/- The package's tables: what the rows' condition says is what the machine's table lists; a world that holds them. -/
import Derived.Test.YtjnkagkoolbodaaGreatDoorCTab
import Derived.MakeChecks
import Derived.Lib.LaidIn
set_option linter.unusedVariables false
set_option linter.unusedSimpArgs false
namespace Go.Proofs.YtjnkagkoolbodaaGreatDoor
open Go.Am
noncomputable def TH:List (String×DataW Unit):=[("unicode/utf8.acceptRanges",Rows.laid_unicode_utf8_acceptRanges),("unicode/utf8.first",Rows.laid_unicode_utf8_first)]
noncomputable def aFH:List (String×DataW Unit×Nat):=[("unicode/utf8.first",Rows.laid_unicode_utf8_first,1),("unicode/utf8.acceptRanges",Rows.laid_unicode_utf8_acceptRanges,2)]
set_option maxRecDepth 100000 in
theorem aqF:tabs=aFH.map fun q=>(q.2.2,gv q.2.1):=by kernel_rfl
section
variable {W:World}
theorem Qk:Told (fun _=>()) Tryz.prog W 0 (fun _=>true) false 235:=LQ Tryz.underlying235 (by kernel_rfl) (LP Tryz.underlying5)
theorem aaF:Told (fun _=>()) Tryz.prog W 0 (fun _=>true) false 238:=LQ Tryz.underlying238 (by kernel_rfl) (afc (f:=5) Tryz.underlying237 rfl rfl rfl rfl (by kernel_rfl) (by kernel_rfl) (LP Tryz.underlying5))
set_option maxRecDepth 100000 in
theorem aaG (h:laidMetH Tryz.prog TH W):TabOK (fun b=>b<W.heap.size) W:=by
 rw[Go.MakeChecks.laidMetH_plain _ _ _ (by kernel_rfl)] at h
 obtain⟨ps,hl,_⟩:=h
 refine⟨?_,fun g hg=>by have hg':g∈([]:List Nat):=hg;cases hg'⟩
 intro t ht
 rw[aqF] at ht
 obtain⟨q,hq,rfl⟩:=List.mem_map.1 ht
 have key:∃(T:TypeId) (fr:Nat×Nat),W.heap[q.2.2]? =some (.cells (gv q.2.1).toArray T fr):=by
  have hq':q∈[("unicode/utf8.first",Rows.laid_unicode_utf8_first,1),("unicode/utf8.acceptRanges",Rows.laid_unicode_utf8_acceptRanges,2)]:=hq
  rcases List.mem_cons.1 hq' with rfl|hq'
  ·exact qh (by kernel_rfl) (kF hl (g:=1) (t:=235) (.tail _ (.head _)) (by kernel_rfl) (by kernel_rfl) Qk)
  rcases List.mem_cons.1 hq' with rfl|hq'
  ·exact qh (by kernel_rfl) (kF hl (g:=2) (t:=238) (.head _) (by kernel_rfl) (by kernel_rfl) aaF)
  cases hq'
 exact arf key
end
noncomputable def iY (os:Os):World:=
 let w0:=World.holding Tryz.prog os ⟨#[],#[],[]⟩
 let put (h:Array Obj) (g:Nat) (cs:List Value):Array Obj:=h.modify g fun
  | .cells _ t frozen=> .cells cs.toArray t frozen
  |o=>o
 let h1:=put w0.heap 2 (gv (H:=Unit) Rows.laid_unicode_utf8_acceptRanges)
 let h2:=put h1 1 (gv Rows.laid_unicode_utf8_first)
 {w0 with heap:=h2}
set_option maxRecDepth 100000 in
theorem Xk (os:Os) (args:Array Value):laidMet Tryz.prog TH ((iY os).forCall (fun _ _=>0) ⟨#[],args,[]⟩).memory:=
 (LaidIn.of_run (l:=TH) [2,1] 8 (by kernel_rfl) (by kernel_rfl) (by kernel_rfl) (by kernel_rfl)).met
end Go.Proofs.YtjnkagkoolbodaaGreatDoor
