/- The package's tables: what the rows' condition says is what the machine's table lists; a world that holds them. -/
import Derived.Test.YtfneddmmeadacaaGreatDoorCTab
import Derived.MakeChecks
import Derived.Lib.LaidIn
set_option linter.unusedVariables false
set_option linter.unusedSimpArgs false
namespace Go.Proofs.YtfneddmmeadacaaGreatDoor
open Go.Am
noncomputable def laidL:List (String×DataW Unit):=[("math/bits.deBruijn32tab",Rows.laid_math_bits_deBruijn32tab),("math/bits.deBruijn64tab",Rows.laid_math_bits_deBruijn64tab),("internal/strconv.uint64pow10",Rows.laid_internal_strconv_uint64pow10),("unicode/utf8.acceptRanges",Rows.laid_unicode_utf8_acceptRanges),("docstore/schema.kindWords",Rows.laid_docstore_schema_kindWords),("unicode/utf8.first",Rows.laid_unicode_utf8_first)]
noncomputable def tabQ:List (String×DataW Unit×Nat):=[("docstore/schema.kindWords",Rows.laid_docstore_schema_kindWords,2),("internal/strconv.uint64pow10",Rows.laid_internal_strconv_uint64pow10,4),("unicode/utf8.first",Rows.laid_unicode_utf8_first,0),("unicode/utf8.acceptRanges",Rows.laid_unicode_utf8_acceptRanges,1)]
set_option maxRecDepth 100000 in
theorem tabs_eq:tabs=tabQ.map fun q=>(q.2.2,gv q.2.1):=by kernel_rfl
section
variable {W:World}
theorem told_first:Told (fun _=>()) Tryz.prog W 0 (fun _=>true) false 122:=told_arr Tryz.underlying122 (by kernel_rfl) (told_int Tryz.underlying5)
theorem told_words:Told (fun _=>()) Tryz.prog W 0 (fun _=>true) false 127:=told_arr Tryz.underlying127 (by kernel_rfl) (told_str Tryz.underlying9)
theorem told_pow:Told (fun _=>()) Tryz.prog W 0 (fun _=>true) false 138:=told_arr Tryz.underlying138 (by kernel_rfl) (told_int Tryz.underlying111)
theorem told_acc:Told (fun _=>()) Tryz.prog W 0 (fun _=>true) false 125:=told_arr Tryz.underlying125 (by kernel_rfl) (told_two (f:=5) Tryz.underlying124 rfl rfl rfl rfl (by kernel_rfl) (by kernel_rfl) (told_int Tryz.underlying5))
set_option maxRecDepth 100000 in
theorem tabOK_of (h:laidMetH Tryz.prog laidL W):TabOK (fun b=>b<W.heap.size) W:=by
 rw[Go.MakeChecks.laidMetH_plain _ _ _ (by kernel_rfl)] at h
 obtain⟨ps,hl,_⟩:=h
 intro t ht
 rw[tabs_eq] at ht
 obtain⟨q,hq,rfl⟩:=List.mem_map.1 ht
 have key:∃(T:TypeId) (fr:Nat×Nat),W.heap[q.2.2]? =some (.cells (gv q.2.1).toArray T fr):=by
  have hq':q∈[("docstore/schema.kindWords",Rows.laid_docstore_schema_kindWords,2),("internal/strconv.uint64pow10",Rows.laid_internal_strconv_uint64pow10,4),("unicode/utf8.first",Rows.laid_unicode_utf8_first,0),("unicode/utf8.acceptRanges",Rows.laid_unicode_utf8_acceptRanges,1)]:=hq
  rcases List.mem_cons.1 hq' with rfl|hq'
  ·exact block_of_var (by kernel_rfl) (tab_of_laid hl (g:=2) (t:=127) (.tail _ (.tail _ (.tail _ (.tail _ (.head _))))) (by kernel_rfl) (by kernel_rfl) told_words)
  rcases List.mem_cons.1 hq' with rfl|hq'
  ·exact block_of_var (by kernel_rfl) (tab_of_laid hl (g:=4) (t:=138) (.tail _ (.tail _ (.head _))) (by kernel_rfl) (by kernel_rfl) told_pow)
  rcases List.mem_cons.1 hq' with rfl|hq'
  ·exact block_of_var (by kernel_rfl) (tab_of_laid hl (g:=0) (t:=122) (.tail _ (.tail _ (.tail _ (.tail _ (.tail _ (.head _)))))) (by kernel_rfl) (by kernel_rfl) told_first)
  rcases List.mem_cons.1 hq' with rfl|hq'
  ·exact block_of_var (by kernel_rfl) (tab_of_laid hl (g:=1) (t:=125) (.tail _ (.tail _ (.tail _ (.head _)))) (by kernel_rfl) (by kernel_rfl) told_acc)
  cases hq'
 exact tab_one key
end
noncomputable def laidWorld (os:Os):World:=
 let w0:=World.holding Tryz.prog os ⟨#[],#[],[]⟩
 let put (h:Array Obj) (g:Nat) (cs:List Value):Array Obj:=h.modify g fun
  | .cells _ t frozen=> .cells cs.toArray t frozen
  |o=>o
 let h1:=put w0.heap 5 (gv (H:=Unit) Rows.laid_math_bits_deBruijn32tab)
 let h2:=put h1 6 (gv (H:=Unit) Rows.laid_math_bits_deBruijn64tab)
 let h3:=put h2 4 (gv (H:=Unit) Rows.laid_internal_strconv_uint64pow10)
 let h4:=put h3 1 (gv (H:=Unit) Rows.laid_unicode_utf8_acceptRanges)
 let h5:=put h4 2 (gv (H:=Unit) Rows.laid_docstore_schema_kindWords)
 let h6:=put h5 0 (gv Rows.laid_unicode_utf8_first)
 {w0 with heap:=h6}
set_option maxRecDepth 100000 in
theorem laid_met0 (os:Os) (args:Array Value):laidMet Tryz.prog laidL ((laidWorld os).forCall (fun _ _=>0) ⟨#[],args,[]⟩).memory:=
 (LaidIn.of_run (l:=laidL) [5,6,4,1,2,0] 8 (by kernel_rfl) (by kernel_rfl) (by kernel_rfl) (by kernel_rfl)).met
end Go.Proofs.YtfneddmmeadacaaGreatDoor
