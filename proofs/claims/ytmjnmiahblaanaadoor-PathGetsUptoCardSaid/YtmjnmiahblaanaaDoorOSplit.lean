/- strings.Split at a separator of one byte, and strings.Join: contracts over any program (out of the shelf's), in the abstract machine's words. -/
import Derived.Shelf.Strings.Split
import Derived.Shelf.Strings.OnBuilder
import Derived.Lib.CutLaws
import Derived.Test.YtmjnmiahblaanaaDoorAm9
set_option linter.unusedVariables false
set_option linter.unusedSimpArgs false
namespace Go.Am
open Go.Shelf Go.RowKit Go.Lib Go.Proofs
variable {P:Program} {ρ:Ren}
set_option maxHeartbeats 1000000 in
theorem strings_Split_one (L:Lays.n146 P ρ) (hi9:(P.info? (ρ.t 9)).map (fun i=>(i.zero,i.size,i.bytes))=some (some (.string ByteArray.empty),1,16)) (s:ByteArray) (ch:UInt8) (w:World) (hs:s.size<4294967281):
  Calls P (ρ.f 146) #[.string s,.string ⟨#[ch]⟩] w fun e w'=>
   e= .returned (.slice (some ⟨w.heap.size,0,none⟩) (Lib.countB s ⟨#[ch]⟩+1) (Lib.countB s ⟨#[ch]⟩+1))∧w'=w.alloc (.cells ((Lib.splitB ⟨#[ch]⟩ 0 (Lib.countB s ⟨#[ch]⟩) s).map Value.string).toArray (ρ.t 9)):=by
 have h1:1≤(⟨#[ch]⟩:ByteArray).size:=Nat.le_refl 1
 have hI:∀(x:ByteArray) (c:Array Value),x.size≤s.size→Calls P (ρ.f 143) #[.string x,.string ⟨#[ch]⟩] (w.alloc (.cells c (ρ.t 9))) fun e w'=>e= .returned (.int .i64 (Lib.indexB x ⟨#[ch]⟩))∧w'=w.alloc (.cells c (ρ.t 9)):=fun x c _=>by
  refine(Any.strings_Index_one {L with} x ch _).mono fun e w' ⟨he,hw⟩=>⟨?_,hw⟩
  rw[he,←Lib.index_one]
 have hC:Calls P (ρ.f 138) #[.string s,.string ⟨#[ch]⟩] w fun e w'=>e= .returned (.int .i64 (Lib.countB s ⟨#[ch]⟩))∧w'=w:=by
  refine(Any.strings_Count_one {L with} s ch w).mono fun e w' ⟨he,hw⟩=>⟨?_,hw⟩
  rw[he]
  show _=Ending.returned (Value.int .i64 ((Lib.count s.data.toList [ch]:Nat):Int))
  rw[Lib.count_one]
  rfl
 have hle:=Lib.countB_le ⟨#[ch]⟩ h1 s.size s (Nat.le_refl _)
 have hlen:=Lib.splitB_all ⟨#[ch]⟩ h1 0 _ s rfl
 have c:=Any.strings_genSplit_core (ρ:=ρ) {L with} hi9 s ⟨#[ch]⟩ 0 (-1) (Lib.countB s ⟨#[ch]⟩+1) w hs h1 (Nat.zero_le _) hI hC (by decide) (by decide) (by rw[if_pos (by decide)];omega)
 rw[Nat.add_sub_cancel,hlen] at c
 have e2:Lib.cellsOf (Lib.splitB ⟨#[ch]⟩ 0 (Lib.countB s ⟨#[ch]⟩) s) (Lib.countB s ⟨#[ch]⟩+1)=((Lib.splitB ⟨#[ch]⟩ 0 (Lib.countB s ⟨#[ch]⟩) s).map Value.string).toArray:=by rw[←hlen];exact Lib.cellsOf_full _
 rw[e2] at c
 clear hI hC
 have t3:=L.t3;have t9:=L.t9;have t31:=L.t31
 have a3:=L.a3;have a9:=L.a9;have a31:=L.a31
 have z3:=L.z3;have v3:=L.v3;have z9:=L.z9;have v9:=L.v9;have z31:=L.z31;have v31:=L.v31
 have e221:∀args w,(callFunc (ρ.f 221) args).run P w= .ok (.enter (ρ.f 221) args) w:=enters_of L.f221 (by kernel_rfl) rfl
 go_enter L.f146,Body.n146_ntmps ρ
 go_wp2_with (go_at_fn (ρ.f 221);refine c.mono ?_;rintro e w' ⟨rfl,hw⟩;rw[hw])
 go_ret
 exact⟨rfl,rfl⟩
theorem fx_nil {f:FuncId} {args:List AV} {res:AV} (h:∀(ok:Nat→Prop) (w:World) (β:Nat→Option Value) (vs:List Value),(∀b,ok b→b<w.heap.size)→RVsX P ok w β args vs→
  Calls P f vs.toArray w fun e w'=>∃v,e= .returned v∧Below w.heap.size w w'∧RV P (fun b=>b<w'.heap.size∧(b<w.heap.size→ok b)) w' β res v):FX P f args [] res []:=by
 intro ok w β vs hok hobs hsep hvs _
 have no:∀(β:Nat→Option Value) l b,¬owns [] β l b:=fun β l b h=>by obtain⟨h1,_⟩:=h;cases l<;>cases h1
 refine(h ok w β vs (fun b hb=>(hok b hb).1) hvs).mono ?_
 rintro e w' ⟨v,rfl,hb,hr⟩
 refine⟨v,β,rfl,⟨⟨hb.os,hb.tape,hb.output,hb.size,fun b h1 _=>hb.block b h1⟩,fun l=>?_,fun l l' b h1=>(no _ _ _ h1).elim,fun l b h1=>(no _ _ _ h1).elim,fun l _=>rfl⟩,hr.mono (fun b h1=>⟨⟨h1.1,fun h2=> .inl (h1.2 h2),fun l=>no _ _ _⟩,rfl⟩) (Ext.refl _)⟩
 have:=hobs l
 exact(show β l=none from this)
theorem below_alloc (w:World) (o:Obj):Below w.heap.size w (w.alloc o):=by
 have hh:(w.alloc o).heap=w.heap.push o:=rfl
 refine⟨rfl,rfl,rfl,?_,fun k hk=>?_⟩
 ·rw[hh,Array.size_push];exact Nat.le_succ _
 ·rw[hh,Array.getElem?_push,if_neg (Nat.ne_of_lt hk)]
theorem heap_alloc' (w:World) (o:Obj):(w.alloc o).heap=w.heap.push o:=rfl
theorem cell_alloc' (w:World) (cs:Array Value) (T:TypeId) (j:Nat):(w.alloc (.cells cs T)).cell? ⟨w.heap.size,j,none⟩=cs[j]? :=by
 have:(w.alloc (.cells cs T)).heap[w.heap.size]? =some (.cells cs T (0,0)):=by rw[heap_alloc',Array.getElem?_push,if_pos rfl]
 simp only[World.cell?,this]
 rfl
theorem RVsX.two {ok:Nat→Prop} {w:World} {β:Nat→Option Value} {a b:AV} {vs:List Value} (h:RVsX P ok w β [a,b] vs):∃x y,vs=[x,y]∧RV P ok w β a x∧RV P ok w β b y:=by
 cases h with
 |cons h1 h2=>cases h2 with
  |cons h3 h4=>cases h4;exact⟨_,_,rfl,h1,h3⟩
theorem RV.str_inv {ok:Nat→Prop} {w:World} {β:Nat→Option Value} {T:TypeId} {s:ByteArray} {v:Value} (hT:P.underlying T=some .string) (h:RV P ok w β (.dat T (.str s)) v):v= .string s∧s.size≤maxLen:=by
 have hA:AV.isAgg P (.dat T (.str s))=false:=by
  show aggT P T=false
  unfold aggT
  rw[hT]
 cases h.2 hA with
 |dat h=>cases h with
  |str _ hs=>exact⟨rfl,hs⟩
theorem splitB_le (sep:ByteArray):∀(k:Nat) (s:ByteArray),∀x∈Lib.splitB sep 0 k s,x.size≤s.size
 |0,s,x,hx=>by rw[Lib.splitB_zero] at hx;simp at hx;subst hx;exact Nat.le_refl _
 |k+    1,s,x,hx=>by
  rcases Lib.indexB_cases s sep with h| ⟨i,h,hi⟩
  ·rw[Lib.splitB_miss sep 0 _ s h] at hx;simp at hx;subst hx;exact Nat.le_refl _
  ·rw[Lib.splitB_hit sep 0 k s i h] at hx
   rcases List.mem_cons.1 hx with rfl|hx
   ·simp[ByteArray.size_extract];omega
   ·    have:=splitB_le sep k _ x hx
        simp[ByteArray.size_extract] at this
        omega
theorem split_fx (L:Lays.n146 P ρ) (hi9:(P.info? (ρ.t 9)).map (fun i=>(i.zero,i.size,i.bytes))=some (some (.string ByteArray.empty),1,16)) (hc9:P.cellsOf (ρ.t 9)=1) (h31:P.underlying (ρ.t 31)=some (.slice (ρ.t 9))) (s:ByteArray) (ch:UInt8) (hs:s.size<4294967281):
  FX P (ρ.f 146) [.dat (ρ.t 9) (.str s),.dat (ρ.t 9) (.str ⟨#[ch]⟩)] [] (.dat (ρ.t 31) (.lst ((Lib.splitB ⟨#[ch]⟩ 0 (Lib.countB s ⟨#[ch]⟩) s).map .str))) []:=by
 refine fx_nil fun ok w β vs hok hvs=>?_
 obtain⟨x,y,rfl,hx,hy⟩:=hvs.two
 obtain⟨rfl,_⟩:=hx.str_inv L.t9
 obtain⟨rfl,_⟩:=hy.str_inv L.t9
 refine(strings_Split_one L hi9 s ch w hs).mono ?_
 rintro e w' ⟨rfl,rfl⟩
 refine⟨_,rfl,below_alloc _ _,?_⟩
 have hlen:=Lib.splitB_all ⟨#[ch]⟩ (Nat.le_refl 1) 0 _ s rfl
 have hle:=Lib.countB_le ⟨#[ch]⟩ (Nat.le_refl 1) s.size s (Nat.le_refl _)
 have hA:AV.isAgg P (.dat (ρ.t 31) (.lst ((Lib.splitB ⟨#[ch]⟩ 0 (Lib.countB s ⟨#[ch]⟩) s).map .str)))=false:=by
  show aggT P (ρ.t 31)=false
  unfold aggT
  rw[h31]
 refine⟨fun h=>(by rw[hA] at h;cases h),fun _=>RA.dat ?_⟩
 have hmax:maxLen=9223372036854775807:=rfl
 obtain⟨ps,hps⟩:∃ps,Lib.splitB ⟨#[ch]⟩ 0 (Lib.countB s ⟨#[ch]⟩) s=ps:=⟨_,rfl⟩
 have hpz:∀x∈ps,x.size≤s.size:=by rw[←hps];exact splitB_le _ _ _
 rw[hps] at hlen ⊢
 refine RD.lst ⟨w.heap.size,0,none⟩ (fun i=>[.string (ps.getD i ByteArray.empty)]) h31 (by simp[hlen]) (Nat.le_refl _) (by omega) (fun _=>⟨rfl,by rw[heap_alloc',Array.size_push];exact Nat.lt_succ_self _,fun h=>absurd h (Nat.lt_irrefl _)⟩) ?_ ?_
 ·intro i hi
  refine⟨by simp[hc9],by simp[Value.oneCell'],fun j v hv=>?_⟩
  cases j with
  |succ j=>simp at hv
  |zero=>
   simp at hv
   subst hv
   rw[hc9,add_mk]
   have hi':i<ps.length:=by omega
   rw[cell_alloc']
   simp[hi']
 ·intro i d hd
  rw[List.getElem?_map] at hd
  obtain⟨x,hx,rfl⟩:=Option.map_eq_some_iff.1 hd
  have hm:=hpz x (List.mem_of_getElem? hx)
  simp only[List.getD,hx,Option.getD_some]
  exact .str L.t9 (by omega)
def strs:List Dt→List ByteArray
 | []=>[]
 |d::r=>d.toStr::strs r
theorem strs_get:∀(l:List Dt) (i:Nat),(strs l)[i]? =(l[i]?).map Dt.toStr
 | [],i=>by simp[strs]
 |d::r,0=>by simp[strs]
 |d::r,i+1=>by simp[strs,strs_get r i]
theorem strs_length:∀(l:List Dt),(strs l).length=l.length
 | []=>rfl
 |d::r=>by simp[strs,strs_length r]
theorem join_fx (L:Lays.n156 P ρ) (X:Builder.Extra P ρ) {T9 T31:TypeId} (h9:P.underlying T9=some .string) (hc9:P.cellsOf T9=1) (h31:P.underlying T31=some (.slice T9)) (es:List Dt) (sep:ByteArray)
  (hn:es.length≤140737488355328) (hlen:(Lib.join ((strs es).map (·.data.toList)) sep.data.toList).length≤140737488355328):
  FX P (ρ.f 156) [.dat T31 (.lst es),.dat T9 (.str sep)] [] (.dat T9 (.str ⟨(Lib.join ((strs es).map (·.data.toList)) sep.data.toList).toArray⟩)) []:=by
 refine fx_nil fun ok w β vs hok hvs=>?_
 obtain⟨x,y,rfl,hx,hy⟩:=hvs.two
 obtain⟨rfl,_⟩:=hy.str_inv h9
 have hA:AV.isAgg P (.dat T31 (.lst es))=false:=by
  show aggT P T31=false
  unfold aggT
  rw[h31]
 have hB:AV.isAgg P (.dat T9 (.str ⟨(Lib.join ((strs es).map (·.data.toList)) sep.data.toList).toArray⟩))=false:=by
  show aggT P T9=false
  unfold aggT
  rw[h9]
 have hmax:maxLen=9223372036854775807:=rfl
 have out:∀w':World,RV P (fun b=>b<w'.heap.size∧(b<w.heap.size→ok b)) w' β (.dat T9 (.str ⟨(Lib.join ((strs es).map (·.data.toList)) sep.data.toList).toArray⟩)) (.string ⟨(Lib.join ((strs es).map (·.data.toList)) sep.data.toList).toArray⟩):=fun w'=>
  ⟨fun h=>(by rw[hB] at h;cases h),fun _=>RA.dat (.str h9 (by show (Lib.join ((strs es).map (·.data.toList)) sep.data.toList).toArray.size≤_;rw[List.size_toArray];omega))⟩
 cases hx.2 hA with
 |dat   h=>
  obtain⟨_,a,cap,ad,g,hv,hc,hm,ha,hg,hd⟩:=h.lst_inv h31
  simp only[Dt.toLst] at hv hc ha hg hd
  obtain rfl:x= .slice a es.length cap:=by simpa using hv
  by_cases h0:es.length=0
  ·obtain rfl:es=[]:=List.length_eq_zero_iff.1 h0
   refine(Any.strings_Join_none L X a cap sep w).mono ?_
   rintro e w' ⟨rfl,rfl⟩
   exact⟨_,rfl,Below.refl _ _,out _⟩
  ·obtain⟨rfl,hok'⟩:=ha (by omega)
   have hcell:∀(j:Nat) z,(strs es)[j]? =some z→w.cell? (ad.add j)=some (.string z):=by
        intro j z hz
        rw[strs_get] at hz
        obtain⟨d,hd1,rfl⟩:=Option.map_eq_some_iff.1 hz
        have hj:j<es.length:=(List.getElem?_eq_some_iff.1 hd1).1
        obtain⟨h1,h2,h3⟩:=hg j hj
        obtain⟨_,hcs,_⟩:=(hd j d hd1).str_inv h9
        have:=h3 0 (.string d.toStr) (by rw[hcs];rfl)
        rwa [hc9,Nat.mul_one,Nat.add_zero] at this
   obtain⟨b,o,sp⟩:=ad
   have h00:∃z,(strs es)[0]? =some z:=⟨(strs es)[0]'(by rw[strs_length];omega),List.getElem?_eq_getElem _⟩
   obtain⟨z0,hz0⟩:=h00
   have hs0:=hcell 0 z0 hz0
   obtain rfl:sp=none:=by
        cases sp with
        |none=>rfl
        |some k=>
         have e:(⟨b,o,some k⟩:Addr).add 0=⟨b,o,some k⟩:=by unfold Addr.add;simp
         rw[e] at hs0
         simp only[World.cell?] at hs0
         split at hs0<;>simp at hs0
   have hj:=Any.strings_Join L X b o cap (strs es) sep w (fun j z hz=>by rw[←add_mk];exact hcell j z hz) (hok _ hok') (by rw[strs_length];exact hn) (by rw[strs_length];exact hc) hlen
   rw[strs_length] at hj
   refine hj.mono ?_
   rintro e w' ⟨rfl,hw⟩
   exact⟨_,rfl,hw,out _⟩
end Go.Am
