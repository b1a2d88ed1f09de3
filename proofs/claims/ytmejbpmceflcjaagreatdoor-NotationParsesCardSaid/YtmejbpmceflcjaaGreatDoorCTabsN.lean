/- The package's tables: what the rows' condition says is what the machine's table lists; a world that holds them. -/
import Derived.Test.YtmejbpmceflcjaaGreatDoorCTab
import Derived.MakeChecks
import Derived.Lib.LaidIn
set_option linter.unusedVariables false
set_option linter.unusedSimpArgs false
namespace Go.Proofs.YtmejbpmceflcjaaGreatDoor
open Go.Am
noncomputable def laidL:List (String×DataW Unit):=[("math/bits.deBruijn32tab",Rows.laid_math_bits_deBruijn32tab),("math/bits.deBruijn64tab",Rows.laid_math_bits_deBruijn64tab),("internal/strconv.uint64pow10",Rows.laid_internal_strconv_uint64pow10),("unicode/utf8.acceptRanges",Rows.laid_unicode_utf8_acceptRanges),("strconv.ErrRange",Rows.laid_strconv_ErrRange),("strconv.ErrSyntax",Rows.laid_strconv_ErrSyntax),("unicode/utf8.first",Rows.laid_unicode_utf8_first)]
noncomputable def tabQ:List (String×DataW Unit×Nat):=[("internal/strconv.uint64pow10",Rows.laid_internal_strconv_uint64pow10,2),("unicode/utf8.first",Rows.laid_unicode_utf8_first,0),("unicode/utf8.acceptRanges",Rows.laid_unicode_utf8_acceptRanges,1)]
set_option maxRecDepth 100000 in
theorem tabs_eq:tabs=tabQ.map fun q=>(q.2.2,gv q.2.1):=by kernel_rfl
section
variable {W:World}
theorem told_first:Told (fun _=>()) Tryz.prog W 0 (fun _=>true) false 101:=told_arr Tryz.underlying101 (by kernel_rfl) (told_int Tryz.underlying5)
theorem told_pow:Told (fun _=>()) Tryz.prog W 0 (fun _=>true) false 121:=told_arr Tryz.underlying121 (by kernel_rfl) (told_int Tryz.underlying79)
theorem told_acc:Told (fun _=>()) Tryz.prog W 0 (fun _=>true) false 104:=told_arr Tryz.underlying104 (by kernel_rfl) (told_two (f:=5) Tryz.underlying103 rfl rfl rfl rfl (by kernel_rfl) (by kernel_rfl) (told_int Tryz.underlying5))
set_option maxRecDepth 100000 in
theorem tabOK_of (h:laidMetH Tryz.prog laidL W):TabOK (fun b=>b<W.heap.size) W:=by
 rw[Go.MakeChecks.laidMetH_plain _ _ _ (by kernel_rfl)] at h
 obtain⟨ps,hl,_⟩:=h
 refine⟨?_,fun g hg=>?_⟩
 case refine_2=>
  have hg':g∈[4]:=hg
  rw[List.mem_singleton] at hg'
  subst hg'
  obtain⟨u,v,hv⟩:=ifc_of_laid hl (g:=4) (t:=83) (.tail _ (.tail _ (.tail _ (.tail _ (.head _))))) (by kernel_rfl) (by kernel_rfl) Tryz.underlying83
  obtain⟨T,fr,hb⟩:=block_of_var (g:=4) (by kernel_rfl) hv
  exact⟨(Array.getElem?_eq_some_iff.1 hb).1,_,T,fr,hb,.inr ⟨u,v,rfl⟩⟩
 intro t ht
 rw[tabs_eq] at ht
 obtain⟨q,hq,rfl⟩:=List.mem_map.1 ht
 have key:∃(T:TypeId) (fr:Nat×Nat),W.heap[q.2.2]? =some (.cells (gv q.2.1).toArray T fr):=by
  have hq':q∈[("internal/strconv.uint64pow10",Rows.laid_internal_strconv_uint64pow10,2),("unicode/utf8.first",Rows.laid_unicode_utf8_first,0),("unicode/utf8.acceptRanges",Rows.laid_unicode_utf8_acceptRanges,1)]:=hq
  rcases List.mem_cons.1 hq' with rfl|hq'
  ·exact block_of_var (by kernel_rfl) (tab_of_laid hl (g:=2) (t:=121) (.tail _ (.tail _ (.head _))) (by kernel_rfl) (by kernel_rfl) told_pow)
  rcases List.mem_cons.1 hq' with rfl|hq'
  ·exact block_of_var (by kernel_rfl) (tab_of_laid hl (g:=0) (t:=101) (.tail _ (.tail _ (.tail _ (.tail _ (.tail _ (.tail _ (.head _))))))) (by kernel_rfl) (by kernel_rfl) told_first)
  rcases List.mem_cons.1 hq' with rfl|hq'
  ·exact block_of_var (by kernel_rfl) (tab_of_laid hl (g:=1) (t:=104) (.tail _ (.tail _ (.tail _ (.head _)))) (by kernel_rfl) (by kernel_rfl) told_acc)
  cases hq'
 exact tab_one key
end
noncomputable def lowB:Nat:=(World.holding Tryz.prog default ⟨#[],#[],[]⟩).heap.size
noncomputable def laidWorld (os:Os):World:=
 let w0:=World.holding Tryz.prog os ⟨#[.cells (gv (H:=Unit) (.lit (.string [118,97,108,117,101,32,111,117,116,32,111,102,32,114,97,110,103,101]))).toArray 134,.cells (gv (H:=Unit) (.lit (.string [105,110,118,97,108,105,100,32,115,121,110,116,97,120]))).toArray 134],#[],[]⟩
 let put (h:Array Obj) (g:Nat) (cs:List Value):Array Obj:=h.modify g fun
  | .cells _ t frozen=> .cells cs.toArray t frozen
  |o=>o
 let h1:=put w0.heap 5 (gv (H:=Unit) Rows.laid_math_bits_deBruijn32tab)
 let h2:=put h1 6 (gv (H:=Unit) Rows.laid_math_bits_deBruijn64tab)
 let h3:=put h2 2 (gv (H:=Unit) Rows.laid_internal_strconv_uint64pow10)
 let h4:=put h3 1 (gv (H:=Unit) Rows.laid_unicode_utf8_acceptRanges)
 let h5:=put h4 0 (gv Rows.laid_unicode_utf8_first)
 let h6:=put h5 4 [.iface 132 (.pointer (some ⟨lowB,0,none⟩))]
 let h7:=put h6 3 [.iface 132 (.pointer (some ⟨lowB+1,0,none⟩))]
 {w0 with heap:=h7}
set_option maxRecDepth 100000 in
theorem laid_met0 (os:Os) (args:Array Value):laidMet Tryz.prog laidL ((laidWorld os).forCall (fun _ _=>0) ⟨#[],args,[]⟩).memory:=
 (LaidIn.of_run (l:=laidL) [5,6,2,1,4,lowB,3,lowB+1,0] 8 (by kernel_rfl) (by kernel_rfl) (by kernel_rfl) (by kernel_rfl)).met
end Go.Proofs.YtmejbpmceflcjaaGreatDoor
