/- Data whose memory is nobody else's: every part lies in blocks of its own.
A document's value with memory of its own:its parts,and what it is after one part has changed.
A list with memory of its own:what it is after one element has changed in place. -/
import Derived.Test.YtameompfdamfpaaGreatDoorAmF
import Derived.Test.YtameompfdamfpaaGreatDoorAm21
set_option linter.unusedVariables false
set_option linter.unusedSimpArgs false
namespace Go.Am
open Go.RowKit
inductive RT (P:Program) (w:World):Nat→Nat→TypeId→Dt→List Value→Prop where
 |int {lo hi:Nat} {T:TypeId} {k:IntKind} {n:Int} (hu:P.underlying T=some (.int k)) (h1:k.min≤n) (h2:n≤k.max):RT P w lo hi T (.int n) [.int k n]
 |bool {lo hi:Nat} {T:TypeId} {b:Bool} (hu:P.underlying T=some .bool):RT P w lo hi T (.bool b) [.bool b]
 |str {lo hi:Nat} {T:TypeId} {s:ByteArray} (hu:P.underlying T=some .string) (hs:s.size≤maxLen):RT P w lo hi T (.str s) [.string s]
 |agg {lo hi:Nat} {T:TypeId} {fs:Array Field} {ds:List Dt} {cs:List Value} (m:Nat→Nat) (hu:P.underlying T=some (.struct fs)) (hl:ds.length=fs.size) (hc:cs.length=P.cellsOf T) (h1:∀c∈cs,c.oneCell'=true)
  (h0:lo≤m 0) (hm:∀i,m i≤m (i+1)) (hn:m ds.length≤hi)
  (h:∀(i:Nat) (f:Field) (d:Dt),fs[i]? =some f→ds[i]? =some d→RT P w (m i) (m (i+1)) f.type d ((cs.drop f.offset).take (P.cellsOf f.type))):RT P w lo hi T (.agg ds) cs
 |nil {lo hi:Nat} {T E:TypeId} (hu:P.underlying T=some (.slice E)):RT P w lo hi T (.lst []) [.slice none 0 0]
 |lst {lo hi:Nat} {T E:TypeId} {es:List Dt} (b:Nat) (arr:Array Value) (m:Nat→Nat) (hu:P.underlying T=some (.slice E)) (hx:es.length≤maxLen) (hp:0<es.length) (hlb:lo≤b) (hb:b<m 0) (hm:∀i,m i≤m (i+1)) (hn:m es.length≤hi)
  (hc:w.heap[b]? =some (.cells arr E (0,0))) (hz:arr.size=es.length*P.cellsOf E) (h1:∀c∈arr.toList,c.oneCell'=true)
  (h:∀(i:Nat) (d:Dt),es[i]? =some d→RT P w (m i) (m (i+1)) E d ((arr.toList.drop (i*P.cellsOf E)).take (P.cellsOf E))):RT P w lo hi T (.lst es) [.slice (some ⟨b,0,none⟩) es.length es.length]
section
variable {P:Program} {w w':World} {lo hi lo' hi':Nat} {T:TypeId} {d:Dt} {cs:List Value}
theorem mono_le {m:Nat→Nat} (hm:∀i,m i≤m (i+1)):∀{i j:Nat},i≤j→m i≤m j:=fun {i j} h=>by
 induction j with
 |zero=>rw[Nat.le_zero.1 h];exact Nat.le_refl _
 |succ j ih=>
  rcases Nat.lt_or_ge i (j+1) with h1|h1
  ·exact Nat.le_trans (ih (by omega)) (hm j)
  ·rw[show i=j+1 by omega];exact Nat.le_refl _
theorem RT.widen (h:RT P w lo hi T d cs) (h1:lo'≤lo) (h2:hi≤hi'):RT P w lo' hi' T d cs:=by
 cases h with
 |int hu a b=>exact .int hu a b
 |bool hu=>exact .bool hu
 |str hu a=>exact .str hu a
 |agg m hu hl hc h1' h0 hm hn h=>exact .agg m hu hl hc h1' (by omega) hm (by omega) h
 |nil hu=>exact .nil hu
 |lst b arr m hu hx hp hlb hb hm hn hc hz h1' h=>exact .lst b arr m hu hx hp (by omega) hb hm (by omega) hc hz h1' h
theorem RT.frame (h:RT P w lo hi T d cs) (hk:∀b,lo≤b→b<hi→w'.heap[b]? =w.heap[b]?):RT P w' lo hi T d cs:=by
 induction h with
 |int hu a b=>exact .int hu a b
 |bool hu=>exact .bool hu
 |str hu a=>exact .str hu a
 | @agg lo hi T fs ds cs m hu hl hc h1 h0 hm hn h ih=>
   refine .agg m hu hl hc h1 h0 hm hn fun i f d hf hd=>ih i f d hf hd fun b hb1 hb2=>hk b ?_ ?_
   ·have:=mono_le hm (Nat.zero_le i);omega
   ·have hi:i<ds.length:=(List.getElem?_eq_some_iff.1 hd).1
    have:=mono_le hm (show i+1≤ds.length by omega);omega
 |nil hu=>exact .nil hu
 | @lst lo hi T E es b arr m hu hx hp hlb hb hm hn hc hz h1 h ih=>
   have hmn:=mono_le hm (Nat.zero_le es.length)
   refine .lst b arr m hu hx hp hlb hb hm hn ((hk b hlb (by omega)).trans hc) hz h1 fun i d hd=>ih i d hd fun b' hb1 hb2=>hk b' ?_ ?_
   ·have:=mono_le hm (Nat.zero_le i);omega
   ·have hi:i<es.length:=(List.getElem?_eq_some_iff.1 hd).1
    have:=mono_le hm (show i+1≤es.length by omega);omega
theorem RT.oneCell (h:RT P w lo hi T d cs):∀c∈cs,c.oneCell'=true:=by
 cases h with
 |int=>simp[Value.oneCell']
 |bool=>simp[Value.oneCell']
 |str=>simp[Value.oneCell']
 |agg _ _ _ _ h1=>exact h1
 |nil=>simp[Value.oneCell']
 |lst=>simp[Value.oneCell']
theorem seg_sub {l:List Value} {o n k:Nat} {v:Value} (h:((l.drop o).take n)[k]? =some v):l[o+k]? =some v:=by
 rw[List.getElem?_take] at h
 split at h
 ·rw[List.getElem?_drop] at h;exact h
 ·cases h
theorem RT.toRD {ok:Nat→Prop} (h:RT P w lo hi T d cs) (hk:∀b,lo≤b→b<hi→ok b):RD P ok w T d cs:=by
 induction h with
 |int hu a b=>exact .int hu a b
 |bool hu=>exact .bool hu
 |str hu a=>exact .str hu a
 | @agg lo hi T fs ds cs m hu hl hc h1 h0 hm hn h ih=>
   refine .agg hu hl hc h1 fun i f d hf hd=>ih i f d hf hd fun b hb1 hb2=>hk b ?_ ?_
   ·have:=mono_le hm (Nat.zero_le i);omega
   ·have hi:i<ds.length:=(List.getElem?_eq_some_iff.1 hd).1
    have:=mono_le hm (show i+1≤ds.length by omega);omega
 |nil hu=>exact .lst ⟨0,0,none⟩ (fun _=>[]) hu rfl (Nat.le_refl _) (Nat.zero_le _) (fun h=>by cases h) (fun i hi=>by omega) (fun i d hd=>by simp at hd)
 | @lst lo hi T E es b arr m hu hx hp hlb hb hm hn hc hz h1 h ih=>
   have hmn:=mono_le hm (Nat.zero_le es.length)
   refine .lst ⟨b,0,none⟩ (fun i=>(arr.toList.drop (i*P.cellsOf E)).take (P.cellsOf E)) hu rfl (Nat.le_refl _) hx (fun _=>⟨rfl,hk b hlb (by omega)⟩) (fun i hi=>⟨?_,?_,?_⟩) fun i d hd=>ih i d hd fun b' hb1 hb2=>hk b' ?_ ?_
   ·have hmul:(i+1)*P.cellsOf E≤es.length*P.cellsOf E:=Nat.mul_le_mul_right _ hi
    rw[Nat.add_mul,Nat.one_mul] at hmul
    simp only[List.length_take,List.length_drop,Array.length_toList];omega
   ·intro c hc'
    exact h1 c (List.mem_of_mem_drop (List.mem_of_mem_take hc'))
   ·intro j v hv
    have:=seg_sub hv
    rw[add_mk,Nat.zero_add,World.cell?,hc]
    simpa using this
   ·have:=mono_le hm (Nat.zero_le i);omega
   ·have hi:i<es.length:=(List.getElem?_eq_some_iff.1 hd).1
    have:=mono_le hm (show i+1≤es.length by omega);omega
end
end Go.Am
namespace Go.Am
open Go.RowKit
structure VTy (P:Program) (V F L D I S:TypeId) (fv ff:Array Field):Prop where
 v:P.underlying V=some (.struct fv)
 f:P.underlying F=some (.struct ff)
 l:P.underlying L=some (.slice V)
 d:P.underlying D=some (.slice F)
 i:P.underlying I=some (.int .i64)
 s:P.underlying S=some .string
 mv:fv.toList.map (fun x=>(x.type,x.offset))=[(I,0),(I,1),(S,2),(L,3),(D,4)]
 mf:ff.toList.map (fun x=>(x.type,x.offset))=[(S,0),(V,1)]
 cv:P.cellsOf V=5
 cf:P.cellsOf F=6
 cl:P.cellsOf L=1
 cd:P.cellsOf D=1
 ci:P.cellsOf I=1
 cs:P.cellsOf S=1
section
variable {P:Program} {V F L D I S:TypeId} {fv ff:Array Field} (hT:VTy P V F L D I S fv ff) {w w':World} {lo hi:Nat} {ok:Nat→Prop} {d:Dt} {cs:List Value}
include hT
theorem VTy.fld_v (i:Nat) (T:TypeId) (o:Nat) (h:[(I,0),(I,1),(S,2),(L,3),(D,4)][i]? =some (T,o)):∃f,fv[i]? =some f∧f.type=T∧f.offset=o:=by
 rw[←hT.mv,List.getElem?_map,Array.getElem?_toList] at h
 obtain⟨f,h1,h2⟩:=Option.map_eq_some_iff.1 h
 exact⟨f,h1,congrArg Prod.fst h2,congrArg Prod.snd h2⟩
theorem VTy.fld_f (i:Nat) (T:TypeId) (o:Nat) (h:[(S,0),(V,1)][i]? =some (T,o)):∃f,ff[i]? =some f∧f.type=T∧f.offset=o:=by
 rw[←hT.mf,List.getElem?_map,Array.getElem?_toList] at h
 obtain⟨f,h1,h2⟩:=Option.map_eq_some_iff.1 h
 exact⟨f,h1,congrArg Prod.fst h2,congrArg Prod.snd h2⟩
theorem VTy.size_v:fv.size=5:=by
 have:=congrArg List.length hT.mv
 simpa using this
theorem VTy.size_f:ff.size=2:=by
 have:=congrArg List.length hT.mf
 simpa using this
theorem RT.i_inv (h:RT P w lo hi I d cs):∃k,d= .int k∧cs=[.int .i64 k]∧IntKind.i64.min≤k∧k≤IntKind.i64.max:=by
 have hi:=hT.i
 cases h with
 |int hu h1 h2=>rw[hi] at hu;cases hu;exact⟨_,rfl,rfl,h1,h2⟩
 |bool hu=>rw[hi] at hu;cases hu
 |str hu=>rw[hi] at hu;cases hu
 |agg _ hu=>rw[hi] at hu;cases hu
 |nil hu=>rw[hi] at hu;cases hu
 |lst _ _ _ hu=>rw[hi] at hu;cases hu
theorem RT.s_inv (h:RT P w lo hi S d cs):∃s,d= .str s∧cs=[.string s]∧s.size≤maxLen:=by
 have hs:=hT.s
 cases h with
 |int hu=>rw[hs] at hu;cases hu
 |bool hu=>rw[hs] at hu;cases hu
 |str hu h1=>exact⟨_,rfl,rfl,h1⟩
 |agg _ hu=>rw[hs] at hu;cases hu
 |nil hu=>rw[hs] at hu;cases hu
 |lst _ _ _ hu=>rw[hs] at hu;cases hu
omit hT in
theorem RT.l_inv {T E:TypeId} (hl:P.underlying T=some (.slice E)) (h:RT P w lo hi T d cs):∃es,d= .lst es∧((es=[]∧cs=[.slice none 0 0])∨∃(b:Nat) (arr:Array Value) (m:Nat→Nat),cs=[.slice (some ⟨b,0,none⟩) es.length es.length]∧es.length≤maxLen∧0<es.length∧lo≤b∧b<m 0∧(∀i,m i≤m (i+1))∧m es.length≤hi∧
  w.heap[b]? =some (.cells arr E (0,0))∧arr.size=es.length*P.cellsOf E∧(∀c∈arr.toList,c.oneCell'=true)∧
  ∀(i:Nat) (d:Dt),es[i]? =some d→RT P w (m i) (m (i+1)) E d ((arr.toList.drop (i*P.cellsOf E)).take (P.cellsOf E))):=by
 cases h with
 |int hu=>rw[hl] at hu;cases hu
 |bool hu=>rw[hl] at hu;cases hu
 |str hu=>rw[hl] at hu;cases hu
 |agg _ hu=>rw[hl] at hu;cases hu
 |nil hu=>exact⟨[],rfl,.inl ⟨rfl,rfl⟩⟩
 |lst b arr m hu hx hp hlb hb hm hn hc hz h1 h=>rw[hl] at hu;cases hu;exact⟨_,rfl,.inr ⟨b,arr,m,rfl,hx,hp,hlb,hb,hm,hn,hc,hz,h1,h⟩⟩
omit hT in
theorem RT.agg_inv {T:TypeId} {fs:Array Field} (hs:P.underlying T=some (.struct fs)) (h:RT P w lo hi T d cs):∃(ds:List Dt) (m:Nat→Nat),d= .agg ds∧ds.length=fs.size∧cs.length=P.cellsOf T∧(∀c∈cs,c.oneCell'=true)∧lo≤m 0∧(∀i,m i≤m (i+1))∧m ds.length≤hi∧
  ∀(i:Nat) (f:Field) (d:Dt),fs[i]? =some f→ds[i]? =some d→RT P w (m i) (m (i+1)) f.type d ((cs.drop f.offset).take (P.cellsOf f.type)):=by
 cases h with
 |int hu=>rw[hs] at hu;cases hu
 |bool hu=>rw[hs] at hu;cases hu
 |str hu=>rw[hs] at hu;cases hu
 |nil hu=>rw[hs] at hu;cases hu
 |lst _ _ _ hu=>rw[hs] at hu;cases hu
 |agg m hu hl hc h1 h0 hm hn h=>rw[hs] at hu;cases hu;exact⟨_,m,rfl,hl,hc,h1,h0,hm,hn,h⟩
theorem RT.v_inv (h:RT P w lo hi V d cs):∃(k n:Int) (s:ByteArray) (l fs:List Dt) (c3 c4:Value) (a b c:Nat),d= .agg [.int k,.int n,.str s,.lst l,.lst fs]∧cs=[.int .i64 k,.int .i64 n,.string s,c3,c4]∧lo≤a∧a≤b∧b≤c∧c≤hi∧
   RT P w a b L (.lst l) [c3]∧RT P w b c D (.lst fs) [c4]∧(IntKind.i64.min≤k∧k≤IntKind.i64.max)∧(IntKind.i64.min≤n∧n≤IntKind.i64.max)∧s.size≤maxLen:=by
 obtain⟨ds,m,rfl,hl,hc,h1,h0,hm,hn,h⟩:=h.agg_inv hT.v
 rw[hT.size_v] at hl
 rw[hT.cv] at hc
 match ds,hl with
 | [d0,d1,d2,d3,d4],_=>
   match cs,hc with
   | [c0,c1,c2,c3,c4],_=>
     obtain⟨f0,a0,t0,o0⟩:=hT.fld_v 0 I 0 rfl
     obtain⟨f1,a1,t1,o1⟩:=hT.fld_v 1 I 1 rfl
     obtain⟨f2,a2,t2,o2⟩:=hT.fld_v 2 S 2 rfl
     obtain⟨f3,a3,t3,o3⟩:=hT.fld_v 3 L 3 rfl
     obtain⟨f4,a4,t4,o4⟩:=hT.fld_v 4 D 4 rfl
     have g0:=h 0 f0 d0 a0 rfl
     have g1:=h 1 f1 d1 a1 rfl
     have g2:=h 2 f2 d2 a2 rfl
     have g3:=h 3 f3 d3 a3 rfl
     have g4:=h 4 f4 d4 a4 rfl
     rw[t0,o0,hT.ci] at g0
     rw[t1,o1,hT.ci] at g1
     rw[t2,o2,hT.cs] at g2
     rw[t3,o3,hT.cl] at g3
     rw[t4,o4,hT.cd] at g4
     obtain⟨k,rfl,e0,k1,k2⟩:=g0.i_inv hT
     obtain⟨n,rfl,e1,n1,n2⟩:=g1.i_inv hT
     obtain⟨s,rfl,e2,s1⟩:=g2.s_inv hT
     obtain⟨l,rfl,_⟩:=g3.l_inv hT.l
     obtain⟨fs,rfl,_⟩:=g4.l_inv hT.d
     obtain rfl:c0= .int .i64 k:=by simpa using e0
     obtain rfl:c1= .int .i64 n:=by simpa using e1
     obtain rfl:c2= .string s:=by simpa using e2
     have m3:=mono_le hm (show 0≤3 by omega)
     exact⟨k,n,s,l,fs,c3,c4,m 3,m 4,m 5,rfl,rfl,by omega,hm 3,hm 4,hn,g3,g4,⟨k1,k2⟩,⟨n1,n2⟩,s1⟩
theorem RT.v_mk {k n:Int} {s:ByteArray} {l fs:List Dt} {c3 c4:Value} {a b c:Nat} (h1:lo≤a) (h2:a≤b) (h3:b≤c) (h4:c≤hi) (hl:RT P w a b L (.lst l) [c3]) (hd:RT P w b c D (.lst fs) [c4]) (hk:IntKind.i64.min≤k∧k≤IntKind.i64.max) (hn:IntKind.i64.min≤n∧n≤IntKind.i64.max) (hs:s.size≤maxLen):
  RT P w lo hi V (.agg [.int k,.int n,.str s,.lst l,.lst fs]) [.int .i64 k,.int .i64 n,.string s,c3,c4]:=by
 refine .agg (fun i=>if i≤3 then a else if i=4 then b else c) hT.v hT.size_v.symm hT.cv.symm ?_ (by simpa using h1) (fun i=>?_) (by simpa using h4) ?_
 ·intro x hx
  simp only[List.mem_cons,List.not_mem_nil,or_false] at hx
  rcases hx with rfl|rfl|rfl|rfl|rfl
  ·rfl
  ·rfl
  ·rfl
  ·exact hl.oneCell _ (by simp)
  ·exact hd.oneCell _ (by simp)
 ·by_cases i3:i≤2
  ·simp only[show i≤3 by omega,show i+1≤3 by omega,if_true];exact Nat.le_refl _
  ·by_cases i4:i=3
   ·subst i4;simpa using h2
   ·    by_cases i5:i=4
        ·subst i5;simpa using h3
        ·simp only[show ¬i≤3 by omega,show ¬i+1≤3 by omega,i5,show ¬i+1=4 by omega,if_false];exact Nat.le_refl _
 ·intro i f d' hf hd'
  match i with
  |0=>obtain⟨f0,a0,t0,o0⟩:=hT.fld_v 0 I 0 rfl;rw[a0] at hf;cases hf;cases hd';rw[t0,o0,hT.ci];exact .int hT.i hk.1 hk.2
  |1=>obtain⟨f0,a0,t0,o0⟩:=hT.fld_v 1 I 1 rfl;rw[a0] at hf;cases hf;cases hd';rw[t0,o0,hT.ci];exact .int hT.i hn.1 hn.2
  |2=>obtain⟨f0,a0,t0,o0⟩:=hT.fld_v 2 S 2 rfl;rw[a0] at hf;cases hf;cases hd';rw[t0,o0,hT.cs];exact .str hT.s hs
  |3=>obtain⟨f0,a0,t0,o0⟩:=hT.fld_v 3 L 3 rfl;rw[a0] at hf;cases hf;cases hd';rw[t0,o0,hT.cl];simpa using hl
  |4=>obtain⟨f0,a0,t0,o0⟩:=hT.fld_v 4 D 4 rfl;rw[a0] at hf;cases hf;cases hd';rw[t0,o0,hT.cd];simpa using hd
  |i+5=>simp at hd'
theorem RD.v_mk {k n:Int} {s:ByteArray} {l fs:List Dt} {c3 c4:Value} (hl:RD P ok w L (.lst l) [c3]) (hd:RD P ok w D (.lst fs) [c4]) (hk:IntKind.i64.min≤k∧k≤IntKind.i64.max) (hn:IntKind.i64.min≤n∧n≤IntKind.i64.max) (hs:s.size≤maxLen):
  RD P ok w V (.agg [.int k,.int n,.str s,.lst l,.lst fs]) [.int .i64 k,.int .i64 n,.string s,c3,c4]:=by
 refine .agg hT.v hT.size_v.symm hT.cv.symm ?_ ?_
 ·intro x hx
  simp only[List.mem_cons,List.not_mem_nil,or_false] at hx
  rcases hx with rfl|rfl|rfl|rfl|rfl
  ·rfl
  ·rfl
  ·rfl
  ·exact hl.oneCell _ (by simp)
  ·exact hd.oneCell _ (by simp)
 ·intro i f d' hf hd'
  match i with
  |0=>obtain⟨f0,a0,t0,o0⟩:=hT.fld_v 0 I 0 rfl;rw[a0] at hf;cases hf;cases hd';rw[t0,o0,hT.ci];exact .int hT.i hk.1 hk.2
  |1=>obtain⟨f0,a0,t0,o0⟩:=hT.fld_v 1 I 1 rfl;rw[a0] at hf;cases hf;cases hd';rw[t0,o0,hT.ci];exact .int hT.i hn.1 hn.2
  |2=>obtain⟨f0,a0,t0,o0⟩:=hT.fld_v 2 S 2 rfl;rw[a0] at hf;cases hf;cases hd';rw[t0,o0,hT.cs];exact .str hT.s hs
  |3=>obtain⟨f0,a0,t0,o0⟩:=hT.fld_v 3 L 3 rfl;rw[a0] at hf;cases hf;cases hd';rw[t0,o0,hT.cl];simpa using hl
  |4=>obtain⟨f0,a0,t0,o0⟩:=hT.fld_v 4 D 4 rfl;rw[a0] at hf;cases hf;cases hd';rw[t0,o0,hT.cd];simpa using hd
  |i+5=>simp at hd'
theorem RT.f_inv (h:RT P w lo hi F d cs):∃(s:ByteArray) (x:Dt) (c0:List Value),d= .agg [.str s,x]∧cs= .string s::c0∧c0.length=5∧s.size≤maxLen∧RT P w lo hi V x c0:=by
 obtain⟨ds,m,rfl,hl,hc,h1,h0,hm,hn,h⟩:=h.agg_inv hT.f
 rw[hT.size_f] at hl
 rw[hT.cf] at hc
 match ds,hl with
 | [d0,d1],_=>
   match cs,hc with
   |c::cr,hc=>
    obtain⟨f0,a0,t0,o0⟩:=hT.fld_f 0 S 0 rfl
    obtain⟨f1,a1,t1,o1⟩:=hT.fld_f 1 V 1 rfl
    have g0:=h 0 f0 d0 a0 rfl
    have g1:=h 1 f1 d1 a1 rfl
    rw[t0,o0,hT.cs] at g0
    rw[t1,o1,hT.cv] at g1
    obtain⟨s,rfl,e2,s1⟩:=g0.s_inv hT
    obtain rfl:c= .string s:=by simpa using e2
    have hcr:cr.length=5:=by simpa using hc
    have e1:(((Value.string s::cr).drop 1).take 5)=cr:=by simp[←hcr]
    rw[e1] at g1
    have m1:m 0≤m 1:=hm 0
    exact⟨s,d1,cr,rfl,rfl,hcr,s1,g1.widen (by omega) hn⟩
theorem RT.f_mk {s:ByteArray} {x:Dt} {c0:List Value} (hle:lo≤hi) (hl:c0.length=5) (hs:s.size≤maxLen) (hx:RT P w lo hi V x c0):RT P w lo hi F (.agg [.str s,x]) (.string s::c0):=by
 refine .agg (fun i=>if i≤1 then lo else hi) hT.f hT.size_f.symm (by rw[hT.cf];simp[hl]) ?_ (by simp) (fun i=>?_) (by simp) ?_
 ·intro y hy
  rcases List.mem_cons.1 hy with rfl|hy
  ·rfl
  ·exact hx.oneCell _ hy
 ·by_cases i1:i≤0
  ·simp only[show i≤1 by omega,show i+1≤1 by omega,if_true];exact Nat.le_refl _
  ·by_cases i2:i=1
   ·subst i2;simpa using hle
   ·simp only[show ¬i≤1 by omega,show ¬i+1≤1 by omega,if_false];exact Nat.le_refl _
 ·intro i f d' hf hd'
  match i with
  |0=>obtain⟨f0,a0,t0,o0⟩:=hT.fld_f 0 S 0 rfl;rw[a0] at hf;cases hf;cases hd';rw[t0,o0,hT.cs];exact .str hT.s hs
  |1=>obtain⟨f0,a0,t0,o0⟩:=hT.fld_f 1 V 1 rfl;rw[a0] at hf;cases hf;cases hd';rw[t0,o0,hT.cv];simpa [←hl] using hx
  |i+2=>simp at hd'
theorem RD.f_mk {s:ByteArray} {x:Dt} {c0:List Value} (hl:c0.length=5) (hs:s.size≤maxLen) (hx:RD P ok w V x c0):RD P ok w F (.agg [.str s,x]) (.string s::c0):=by
 refine .agg hT.f hT.size_f.symm (by rw[hT.cf];simp[hl]) ?_ ?_
 ·intro y hy
  rcases List.mem_cons.1 hy with rfl|hy
  ·rfl
  ·exact hx.oneCell _ hy
 ·intro i f d' hf hd'
  match i with
  |0=>obtain⟨f0,a0,t0,o0⟩:=hT.fld_f 0 S 0 rfl;rw[a0] at hf;cases hf;cases hd';rw[t0,o0,hT.cs];exact .str hT.s hs
  |1=>obtain⟨f0,a0,t0,o0⟩:=hT.fld_f 1 V 1 rfl;rw[a0] at hf;cases hf;cases hd';rw[t0,o0,hT.cv];simpa [←hl] using hx
  |i+2=>simp at hd'
end
end Go.Am
namespace Go.Am
open Go.RowKit
section
variable {P:Program} {w w':World} {lo hi:Nat} {ok:Nat→Prop} {T E:TypeId} {es:List Dt} {z:Value}
theorem seg_ext {a a':Array Value} {o n:Nat} (h:∀t,o≤t→t<o+n→a'[t]? =a[t]?):(a'.toList.drop o).take n=(a.toList.drop o).take n:=by
 apply List.ext_getElem?
 intro k
 rw[List.getElem?_take,List.getElem?_take]
 split
 ·rw[List.getElem?_drop,List.getElem?_drop,Array.getElem?_toList,Array.getElem?_toList]
  exact h _ (by omega) (by omega)
 ·rfl
theorem RT.hole (hu:P.underlying T=some (.slice E)) (h:RT P w lo hi T (.lst es) [z]) {i:Nat} {x:Dt} (hx0:es[i]? =some x):
  ∃(B a a':Nat) (arr:Array Value),z= .slice (some ⟨B,0,none⟩) es.length es.length∧w.heap[B]? =some (.cells arr E (0,0))∧arr.size=es.length*P.cellsOf E∧lo≤B∧B<a∧a≤a'∧a'≤hi∧es.length≤maxLen∧RT P w a a' E x ((arr.toList.drop (i*P.cellsOf E)).take (P.cellsOf E))∧
   ∀    (w':World) (x':Dt) (ok:Nat→Prop) (arr':Array Value),w'.heap[B]? =some (.cells arr' E (0,0))→arr'.size=arr.size→(∀t,t<i*P.cellsOf E∨(i+1)*P.cellsOf E≤t→arr'[t]? =arr[t]?)→
        RD P ok w' E x' ((arr'.toList.drop (i*P.cellsOf E)).take (P.cellsOf E))→(∀k,lo≤k→k<hi→k≠B→(k<a∨a'≤k)→w'.heap[k]? =w.heap[k]?)→(∀k,lo≤k→k<hi→ok k)→RD P ok w' T (.lst (es.set i x')) [z]:=by
 obtain⟨es',e,h⟩:=h.l_inv hu
 cases e
 have hlt:i<es.length:=(List.getElem?_eq_some_iff.1 hx0).1
 rcases h with⟨e,_⟩| ⟨B,arr,m,e,hx,hp,hlb,hb,hm,hn,hc,hz,h1,hE⟩
 ·rw[e] at hx0;cases hx0
 ·simp only[List.cons.injEq,and_true] at e
  have m0:=mono_le hm (Nat.zero_le i)
  have m1:=mono_le hm (show i+1≤es.length by omega)
  refine⟨B,m i,m (i+1),arr,e,hc,hz,hlb,by omega,hm i,by omega,hx,hE i x hx0,?_⟩
  intro w' x' ok arr' hc' hz' hout hrd hk hok
  subst e
  have hsame:∀j,j<es.length→j≠i→(arr'.toList.drop (j*P.cellsOf E)).take (P.cellsOf E)=(arr.toList.drop (j*P.cellsOf E)).take (P.cellsOf E):=fun j hj hji=>seg_ext fun t h1 h2=>hout t (by
   rcases Nat.lt_or_ge j i with hlt|hge
   ·    have:(j+1)*P.cellsOf E≤i*P.cellsOf E:=Nat.mul_le_mul_right _ hlt
        rw[Nat.add_mul,Nat.one_mul] at this
        exact .inl (by omega)
   ·    have:(i+1)*P.cellsOf E≤j*P.cellsOf E:=Nat.mul_le_mul_right _ (by omega)
        exact .inr (by omega))
  have hels:∀(j:Nat) (d:Dt),(es.set i x')[j]? =some d→RD P ok w' E d ((arr'.toList.drop (j*P.cellsOf E)).take (P.cellsOf E)):=fun j d hd=>by
   by_cases hji:j=i
   ·    subst hji
        rw[List.getElem?_set_self hlt] at hd
        cases hd
        exact hrd
   ·    rw[List.getElem?_set_ne (fun e=>hji e.symm)] at hd
        have hj:j<es.length:=(List.getElem?_eq_some_iff.1 hd).1
        have q0:=mono_le hm (Nat.zero_le j)
        have q1:=mono_le hm (show j+1≤es.length by omega)
        rw[hsame j hj hji]
        refine((hE j d hd).frame fun k hk1 hk2=>hk k (by omega) (by omega) (by omega) ?_).toRD fun k hk1 hk2=>hok k (by omega) (by omega)
        rcases Nat.lt_or_ge j i with hlt|hge
        ·have:=mono_le hm (show j+1≤i by omega);exact .inl (by omega)
        ·have:=mono_le hm (show i+1≤j by omega);exact .inr (by omega)
  refine .lst ⟨B,0,none⟩ (fun j=>(arr'.toList.drop (j*P.cellsOf E)).take (P.cellsOf E)) hu (by simp) (Nat.le_refl _) hx (fun _=>⟨rfl,hok B hlb (by have:=mono_le hm (Nat.zero_le es.length);omega)⟩) (fun j hj=>⟨?_,?_,?_⟩) hels
  ·have hmul:(j+1)*P.cellsOf E≤es.length*P.cellsOf E:=Nat.mul_le_mul_right _ hj
   rw[Nat.add_mul,Nat.one_mul] at hmul
   simp only[List.length_take,List.length_drop,Array.length_toList];omega
  ·have hj':j<(es.set i x').length:=by simpa using hj
   exact(hels j _ (List.getElem?_eq_getElem hj')).oneCell
  ·intro k v hv
   have:=seg_sub hv
   rw[add_mk,Nat.zero_add,World.cell?,hc']
   simpa using this
theorem RT.owns (hu:P.underlying T=some (.slice E)) (h:RT P w lo hi T (.lst es) [z]):
  ∃(xs:List Value),w.ownsRow 0 E (P.cellsOf E) z es.length xs∧(∀c∈xs,c.oneCell'=true)∧(∀b,blk z=some b→lo≤b∧b<hi)∧z.oneCell'=true∧
   ∀(w':World) (ok:Nat→Prop),(∀k,lo≤k→k<hi→blk z≠some k→w'.heap[k]? =w.heap[k]? ∧ok k)→∀(i:Nat) (d:Dt),es[i]? =some d→RD P ok w' E d ((xs.drop (i*P.cellsOf E)).take (P.cellsOf E)):=by
 obtain⟨es',e,h⟩:=h.l_inv hu
 cases e
 rcases h with⟨rfl,e⟩| ⟨B,arr,m,e,hx,hp,hlb,hb,hm,hn,hc,hz,h1,hE⟩
 ·simp only[List.cons.injEq,and_true] at e
  subst e
  exact⟨[],⟨by simp,.inl ⟨rfl,rfl⟩⟩,fun c hc=>(by cases hc),fun b hb=>(by cases hb),rfl,fun _ _ _ i d hd=>by simp at hd⟩
 ·simp only[List.cons.injEq,and_true] at e
  subst e
  have mn:=mono_le hm (Nat.zero_le es.length)
  refine⟨arr.toList,⟨by rw[Array.length_toList,hz],.inr ⟨B,es.length,arr,rfl,Nat.zero_le _,hc,Nat.le_refl _,hx,hz,?_⟩⟩,h1,fun b hb'=>?_,rfl,?_⟩
  ·rw[List.take_of_length_le (by rw[Array.length_toList,hz];exact Nat.le_refl _)]
  ·simp only[blk,Option.some.injEq] at hb';omega
  ·intro w' ok hk i d hd
   have hlt:i<es.length:=(List.getElem?_eq_some_iff.1 hd).1
   have q0:=mono_le hm (Nat.zero_le i)
   have q1:=mono_le hm (show i+1≤es.length by omega)
   have nb:∀k,m i≤k→blk (.slice (some ⟨B,0,none⟩) es.length es.length)≠some k:=fun k hk e=>by
        simp only[blk,Option.some.injEq] at e;omega
   exact((hE i d hd).frame fun k hk1 hk2=>(hk k (by omega) (by omega) (nb k hk1)).1).toRD fun k hk1 hk2=>(hk k (by omega) (by omega) (nb k hk1)).2
theorem spotless {w:World} {ad:Addr} {v:Value} (h:w.cell? ad=some v):ad=⟨ad.block,ad.off,none⟩:=by
 obtain⟨b,o,sp⟩:=ad
 cases sp with
 |none=>rfl
 |some k=>
  simp only[World.cell?] at h
  split at h<;>simp at h
theorem RD.elems (hu:P.underlying T=some (.slice E)) (hc:0<P.cellsOf E) (h:RD P ok w T (.lst es) [z]):∃(a:Option Addr) (cap b o:Nat),z= .slice a es.length cap∧es.length≤cap∧cap≤maxLen∧(0<es.length→a=some ⟨b,o,none⟩∧ok b)∧
  ∀(i:Nat) (x:Dt),es[i]? =some x→∃cs:List Value,cs.length=P.cellsOf E∧(∀j v,cs[j]? =some v→w.cell? ⟨b,o+i*P.cellsOf E+j,none⟩=some v)∧RD P ok w E x cs:=by
 obtain⟨_,a,cap,ad,g,hz,hcap,hm,ha,hg,hd⟩:=h.lst_inv hu
 simp only[Dt.toLst,List.cons.injEq,and_true] at hz hcap ha hg hd
 rcases Nat.eq_zero_or_pos es.length with h0|h0
 ·refine⟨a,cap,0,0,hz,hcap,hm,fun h=>by omega,fun i x hx=>?_⟩
  have:=(List.getElem?_eq_some_iff.1 hx).1
  omega
 ·obtain⟨ha1,ha2⟩:=ha h0
  obtain⟨q1,q2,q3⟩:=hg 0 h0
  have hlt:0<(g 0).length:=by omega
  have q4:=q3 0 _ (List.getElem?_eq_getElem hlt)
  rw[Nat.zero_mul,Nat.zero_add] at q4
  have e0:ad.add 0=ad:=by unfold Addr.add;simp
  rw[e0] at q4
  have hsp:=spotless q4
  refine⟨a,cap,ad.block,ad.off,hz,hcap,hm,fun _=>⟨by rw[ha1,←hsp],ha2⟩,fun i x hx=>?_⟩
  have hi:=(List.getElem?_eq_some_iff.1 hx).1
  obtain⟨r1,r2,r3⟩:=hg i hi
  refine⟨g i,r1,fun j v hv=>?_,hd i x hx⟩
  have:=r3 j v hv
  rw[hsp,add_mk,←Nat.add_assoc] at this
  exact this
theorem scells_get {b:Nat} {T:TypeId} {f:Nat×Nat}:∀(vs:List Value) (o:Nat) (w:World) {c:Array Value},w.heap[b]? =some (.cells c T f)→∃c1,(w.setCells b o vs).heap[b]? =some (.cells c1 T f)∧c1.size=c.size∧∀t,t<c.size→c1[t]? =if o≤t∧t<o+vs.length then vs[t-o]? else c[t]?
 | [],o,w,c,h=>⟨c,h,rfl,fun t ht=>by rw[if_neg (by simp)]⟩
 |v::r,o,w,c,h=>by
  have h2:(w.setCell ⟨b,o,none⟩ v).heap[b]? =some (.cells (c.setIfInBounds o v) T f):=by simp[World.setCell,Array.getElem?_modify,h]
  obtain⟨c1,h3,h4,h5⟩:=scells_get r (o+1) _ h2
  refine⟨c1,h3,by simpa using h4,fun t ht=>?_⟩
  rw[h5 t (by simpa using ht)]
  by_cases h6:t=o
  ·subst h6
   rw[if_neg (by omega),if_pos (by simp),Array.getElem?_setIfInBounds]
   simp[ht]
  ·by_cases h7:o+1≤t∧t<o+1+r.length
   ·    rw[if_pos h7,if_pos (by simp;omega)]
        obtain⟨k,hk⟩:∃k,t-o=k+1:=⟨t-o-1,by omega⟩
        rw[hk,List.getElem?_cons_succ]
        congr 1;omega
   ·    rw[if_neg h7,if_neg (by simp;omega),Array.getElem?_setIfInBounds]
        simp[Ne.symm h6]
theorem scells_other (b:Nat):∀(vs:List Value) (o:Nat) (w:World) {k:Nat},k≠b→(w.setCells b o vs).heap[k]? =w.heap[k]?
 | [],_,_,_,_=>rfl
 |v::r,o,w,k,h=>by
  show ((w.setCell ⟨b,o,none⟩ v).setCells b (o+1) r).heap[k]? =_
  rw[scells_other b r (o+1) _ h,Below.heap_setCell _ _ _ _ h]
theorem scells_rest (b:Nat):∀(vs:List Value) (o:Nat) (w:World),(w.setCells b o vs).os=w.os∧(w.setCells b o vs).tape=w.tape∧(w.setCells b o vs).output=w.output∧(w.setCells b o vs).heap.size=w.heap.size
 | [],_,_=>⟨rfl,rfl,rfl,rfl⟩
 |v::r,o,w=>by
  obtain⟨h1,h2,h3,h4⟩:=scells_rest b r (o+1) (w.setCell ⟨b,o,none⟩ v)
  exact⟨h1,h2,h3,h4.trans (World.size_setCell _ _ _)⟩
def Built (P:Program) (w:World) (lo B:Nat) (E:TypeId) (es:List Dt) (i:Nat):Prop:=
 ∃  (arr:Array Value) (m:Nat→Nat),w.heap[B]? =some (.cells arr E (0,0))∧arr.size=es.length*P.cellsOf E∧(∀c∈arr.toList,c.oneCell'=true)∧lo≤B∧B<m 0∧(∀j,m j≤m (j+1))∧m i≤w.heap.size∧
    ∀(j:Nat) (d:Dt),j<i→es[j]? =some d→RT P w (m j) (m (j+1)) E d ((arr.toList.drop (j*P.cellsOf E)).take (P.cellsOf E))
theorem Built.start {B:Nat} {arr:Array Value} (hb:w.heap[B]? =some (.cells arr E (0,0))) (hz:arr.size=es.length*P.cellsOf E) (h1:∀c∈arr.toList,c.oneCell'=true) (hlo:lo≤B) (hB:B<w.heap.size):Built P w lo B E es 0:=
 ⟨arr,fun _=>B+1,hb,hz,h1,hlo,Nat.lt_succ_self _,fun _=>Nat.le_refl _,hB,fun j d hj=>by omega⟩
theorem Built.done {B:Nat} (hu:P.underlying T=some (.slice E)) (h:Built P w lo B E es es.length) (hp:0<es.length) (hx:es.length≤maxLen):RT P w lo w.heap.size T (.lst es) [.slice (some ⟨B,0,none⟩) es.length es.length]:=by
 obtain⟨arr,m,hb,hz,h1,hlo,hB,hm,hmi,h⟩:=h
 exact .lst B arr m hu hx hp hlo hB hm hmi hb hz h1 fun i d hd=>h i d (List.getElem?_eq_some_iff.1 hd).1 hd
theorem Built.step {wr W1 W2:World} {B i a:Nat} {d:Dt} {cs:List Value} (h:Built P wr lo B E es i) (hd:es[i]? =some d) (hs:wr.heap.size≤W1.heap.size) (hk:∀b,b<wr.heap.size→W1.heap[b]? =wr.heap[b]?) (ha:wr.heap.size≤a)
  (hrt:RT P W1 a W1.heap.size E d cs) (hl:cs.length=P.cellsOf E) (h2:W2.heap=(W1.setCells B (i*P.cellsOf E) cs).heap):Built P W2 lo B E es (i+1):=by
 obtain⟨arr,m,hb,hz,h1,hlo,hB,hm,hmi,h⟩:=h
 have hlt:i<es.length:=(List.getElem?_eq_some_iff.1 hd).1
 have hBw:B<wr.heap.size:=(Array.getElem?_eq_some_iff.1 hb).1
 obtain⟨arr',hb',hz',hget⟩:=scells_get cs (i*P.cellsOf E) W1 ((hk B hBw).trans hb)
 have hmul:(i+1)*P.cellsOf E≤es.length*P.cellsOf E:=Nat.mul_le_mul_right _ hlt
 rw[Nat.add_mul,Nat.one_mul] at hmul
 have hsz2:W2.heap.size=W1.heap.size:=by rw[h2];exact(scells_rest B cs _ W1).2.2.2
 have hoth:∀k,k≠B→W2.heap[k]? =W1.heap[k]? :=fun k hk=>by rw[h2];exact scells_other B cs _ W1 hk
 have hseg:(arr'.toList.drop (i*P.cellsOf E)).take (P.cellsOf E)=cs:=by
  apply List.ext_getElem?
  intro t
  rw[List.getElem?_take]
  split
  ·rename_i ht
   rw[List.getElem?_drop,Array.getElem?_toList,hget _ (by omega),if_pos (by omega)]
   congr 1;omega
  ·rename_i ht
   rw[List.getElem?_eq_none (by omega)]
 refine⟨arr',fun j=>if j≤i then m j else W1.heap.size,by rw[h2];exact hb',hz'.trans hz,fun c hc=>?_,hlo,by simpa using hB,fun j=>?_,?_,fun j d' hj hd'=>?_⟩
 ·obtain⟨t,ht⟩:=List.getElem?_of_mem hc
  have htl:t<arr.size:=by
   have:=(List.getElem?_eq_some_iff.1 ht).1
   rw[Array.length_toList,hz'] at this;exact this
  rw[Array.getElem?_toList,hget t htl] at ht
  split at ht
  ·exact hrt.oneCell c (List.mem_of_getElem? ht)
  ·exact h1 c (by rw[←Array.getElem?_toList] at ht;exact List.mem_of_getElem? ht)
 ·show (if j≤i then m j else W1.heap.size)≤(if j+1≤i then m (j+1) else W1.heap.size)
  by_cases j1:j+1≤i
  ·rw[if_pos j1,if_pos (by omega)];exact hm j
  ·by_cases j2:j=i
   ·subst j2;rw[if_pos (Nat.le_refl _),if_neg (by omega)];omega
   ·rw[if_neg (by omega),if_neg (by omega)];exact Nat.le_refl _
 ·show (if i+1≤i then m (i+1) else W1.heap.size)≤W2.heap.size
  rw[if_neg (by omega),hsz2];exact Nat.le_refl _
 ·show RT P W2 (if j≤i then m j else W1.heap.size) (if j+1≤i then m (j+1) else W1.heap.size) E d' _
  by_cases hji:j=i
  ·subst hji
   rw[hd] at hd';cases hd'
   rw[if_pos (Nat.le_refl _),if_neg (by omega),hseg]
   exact(hrt.frame fun b hb1 hb2=>hoth b (by omega)).widen (by omega) (Nat.le_refl _)
  ·have q:=h j d' (by omega) hd'
   have m0:=mono_le hm (Nat.zero_le j)
   have m1:=mono_le hm (show j+1≤i by omega)
   rw[if_pos (show j≤i by omega),if_pos (show j+1≤i by omega)]
   have e:(arr'.toList.drop (j*P.cellsOf E)).take (P.cellsOf E)=(arr.toList.drop (j*P.cellsOf E)).take (P.cellsOf E):=seg_ext fun t ht1 ht2=>by
        have:(j+1)*P.cellsOf E≤i*P.cellsOf E:=Nat.mul_le_mul_right _ (by omega)
        rw[Nat.add_mul,Nat.one_mul] at this
        rw[hget t (by omega),if_neg (by omega)]
   rw[e]
   exact q.frame fun b hb1 hb2=>(hoth b (by omega)).trans (hk b (by omega))
theorem bulk_in {e:Dt}:∀{l:List Dt},e∈l→e.bulk≤Dt.bulkL l
 | [],h=>by cases h
 |d::r,h=>by
  simp only[Dt.bulkL]
  rcases List.mem_cons.1 h with rfl|h
  ·omega
  ·have:=bulk_in h;omega
theorem bulk_pos' (d:Dt):1≤d.bulk:=by cases d<;>simp[Dt.bulk]
theorem len_bulk:∀l:List Dt,l.length≤Dt.bulkL l
 | []=>Nat.le_refl _
 |d::r=>by
  have:=len_bulk r
  have:=bulk_pos' d
  simp only[Dt.bulkL,List.length_cons];omega
section
variable {V F L D I S:TypeId} {fv ff:Array Field} (hT:VTy P V F L D I S fv ff) {d:Dt} {cs:List Value}
include hT
theorem RD.i_inv (h:RD P ok w I d cs):∃k,d= .int k∧cs=[.int .i64 k]∧IntKind.i64.min≤k∧k≤IntKind.i64.max:=by
 obtain⟨e1,e2,h1,h2⟩:=h.int_inv hT.i
 exact⟨_,e1,e2,h1,h2⟩
theorem RD.v_inv (h:RD P ok w V d cs):∃(k n:Int) (s:ByteArray) (l fs:List Dt) (c3 c4:Value),d= .agg [.int k,.int n,.str s,.lst l,.lst fs]∧cs=[.int .i64 k,.int .i64 n,.string s,c3,c4]∧
   RD P ok w L (.lst l) [c3]∧RD P ok w D (.lst fs) [c4]∧(IntKind.i64.min≤k∧k≤IntKind.i64.max)∧(IntKind.i64.min≤n∧n≤IntKind.i64.max)∧s.size≤maxLen:=by
 obtain⟨⟨ds,rfl,hl⟩,hc,h1,h⟩:=h.agg_inv hT.v
 rw[hT.size_v] at hl
 rw[hT.cv] at hc
 match ds,hl with
 | [d0,d1,d2,d3,d4],_=>
   match cs,hc with
   | [c0,c1,c2,c3,c4],_=>
     obtain⟨f0,a0,t0,o0⟩:=hT.fld_v 0 I 0 rfl
     obtain⟨f1,a1,t1,o1⟩:=hT.fld_v 1 I 1 rfl
     obtain⟨f2,a2,t2,o2⟩:=hT.fld_v 2 S 2 rfl
     obtain⟨f3,a3,t3,o3⟩:=hT.fld_v 3 L 3 rfl
     obtain⟨f4,a4,t4,o4⟩:=hT.fld_v 4 D 4 rfl
     have g0:RD P ok w _ d0 _:=h 0 f0 a0
     have g1:RD P ok w _ d1 _:=h 1 f1 a1
     have g2:RD P ok w _ d2 _:=h 2 f2 a2
     have g3:RD P ok w _ d3 _:=h 3 f3 a3
     have g4:RD P ok w _ d4 _:=h 4 f4 a4
     rw[t0,o0,hT.ci] at g0
     rw[t1,o1,hT.ci] at g1
     rw[t2,o2,hT.cs] at g2
     rw[t3,o3,hT.cl] at g3
     rw[t4,o4,hT.cd] at g4
     obtain⟨k,rfl,e0,k1,k2⟩:=g0.i_inv hT
     obtain⟨n,rfl,e1,n1,n2⟩:=g1.i_inv hT
     obtain⟨e2',e2,s1⟩:=g2.str_inv hT.s
     obtain⟨e3,_⟩:=g3.lst_inv hT.l
     obtain⟨e4,_⟩:=g4.lst_inv hT.d
     obtain rfl:c0= .int .i64 k:=by simpa using e0
     obtain rfl:c1= .int .i64 n:=by simpa using e1
     obtain rfl:c2= .string d2.toStr:=by simpa using e2
     refine⟨k,n,d2.toStr,d3.toLst,d4.toLst,c3,c4,by rw[←e2',←e3,←e4],rfl,?_,?_,⟨k1,k2⟩,⟨n1,n2⟩,s1⟩
     ·rw[←e3];simpa using g3
     ·rw[←e4];simpa using g4
theorem RD.f_inv (h:RD P ok w F d cs):∃(s:ByteArray) (x:Dt) (c0:List Value),d= .agg [.str s,x]∧cs= .string s::c0∧c0.length=5∧s.size≤maxLen∧RD P ok w V x c0:=by
 obtain⟨⟨ds,rfl,hl⟩,hc,h1,h⟩:=h.agg_inv hT.f
 rw[hT.size_f] at hl
 rw[hT.cf] at hc
 match ds,hl with
 | [d0,d1],_=>
   match cs,hc with
   |c::cr,hc=>
    obtain⟨f0,a0,t0,o0⟩:=hT.fld_f 0 S 0 rfl
    obtain⟨f1,a1,t1,o1⟩:=hT.fld_f 1 V 1 rfl
    have g0:RD P ok w _ d0 _:=h 0 f0 a0
    have g1:RD P ok w _ d1 _:=h 1 f1 a1
    rw[t0,o0,hT.cs] at g0
    rw[t1,o1,hT.cv] at g1
    obtain⟨e2',e2,s1⟩:=g0.str_inv hT.s
    obtain rfl:c= .string d0.toStr:=by simpa using e2
    have hcr:cr.length=5:=by simpa using hc
    have e1:(((Value.string d0.toStr::cr).drop 1).take 5)=cr:=by simp[←hcr]
    rw[e1] at g1
    exact⟨d0.toStr,d1,cr,by rw[←e2'],rfl,hcr,s1,g1⟩
end
end
end Go.Am
