/- Splitting and joining at one byte, in plain Lean; the contracts of strings.Split, strings.Join, path.nest and slices.Delete at this seat. -/
import Derived.Test.YtmjnmiahblaanaaDoorON
import Derived.Test.YtmjnmiahblaanaaDoorOD
import Derived.Test.YtmjnmiahblaanaaDoorShelf
set_option linter.unusedVariables false
set_option linter.unusedSimpArgs false
namespace Go.Proofs.YtmjnmiahblaanaaDoor
open Go.RowKit Go.Shelf Go.Am
def consHd (b:UInt8):List (List UInt8)→List (List UInt8)
 | []=>[[b]]
 |h::t=>(b::h)::t
def splitOn (c:UInt8):List UInt8→List (List UInt8)
 | []=>[[]]
 |b::l=>bif b==c then[]::splitOn c l else consHd b (splitOn c l)
def joinOn (sep:List UInt8):List (List UInt8)→List UInt8
 | []=>[]
 | [x]=>x
 |x::y::r=>x++(sep++joinOn sep (y::r))
def bytesOf (l:List UInt8):ByteArray:=⟨l.toArray⟩
def strings_Split (s sep:ByteArray):Option (List Dt):=match sep.data.toList with
 | [c]=>bif Nat.blt s.size 4294967281 then some ((splitOn c s.data.toList).map fun l=> .str (bytesOf l)) else none
 |_=>none
def strings_Join (es:List Dt) (sep:ByteArray):Option ByteArray:=
 bif (Nat.ble es.length 140737488355328&&Nat.ble (joinOn sep.data.toList ((strs es).map (·.data.toList))).length 140737488355328) then some (bytesOf (joinOn sep.data.toList ((strs es).map (·.data.toList)))) else none
theorem splitOn_miss {c:UInt8}:∀{l:List UInt8},Lib.indexByte l c= -1→splitOn c l=[l]
 | [],_=>rfl
 |b::l,h=>by
  unfold Lib.indexByte at h
  by_cases hb:b==c
  ·simp[hb] at h
  ·simp only[hb,Bool.false_eq_true,if_false] at h
   have h1:Lib.indexByte l c= -1:=by
        by_cases h2:Lib.indexByte l c= -1
        ·exact h2
        ·have:=Lib.indexByte_ge l c
         simp[h2] at h
         omega
   simp only[splitOn,Bool.eq_false_iff.2 hb,cond_false,splitOn_miss h1,consHd]
theorem splitOn_hit {c:UInt8}:∀{l:List UInt8} {i:Nat},Lib.indexByte l c=i→splitOn c l=l.take i::splitOn c (l.drop (i+1))
 | [],i,h=>by simp[Lib.indexByte] at h
 |b::l,i,h=>by
  unfold Lib.indexByte at h
  by_cases hb:b==c
  ·simp only[hb,if_true] at h
   obtain rfl:i=0:=by omega
   simp[splitOn,hb]
  ·simp only[hb,Bool.false_eq_true,if_false] at h
   have hge:=Lib.indexByte_ge l c
   by_cases h2:Lib.indexByte l c= -1
   ·simp[h2] at h
   ·    simp only[h2,beq_iff_eq,if_false] at h
        obtain⟨j,hj⟩:∃j:Nat,i=j+1:=⟨i-1,by omega⟩
        subst hj
        have h3:Lib.indexByte l c=(j:Nat):=by omega
        simp only[splitOn,Bool.eq_false_iff.2 hb,cond_false,splitOn_hit h3,consHd,List.take_succ_cons,List.drop_succ_cons]
theorem bytes_eta (s:ByteArray):bytesOf s.data.toList=s:=by unfold bytesOf;simp
theorem splitB_eq (c:UInt8):∀(k:Nat) (s:ByteArray),Lib.countB s ⟨#[c]⟩=k→Lib.splitB ⟨#[c]⟩ 0 k s=(splitOn c s.data.toList).map bytesOf
 |0,s,h=>by
  rcases Lib.indexB_cases s ⟨#[c]⟩ with h1| ⟨i,h1,_⟩
  ·have h2:Lib.indexByte s.data.toList c= -1:=by rw[←Lib.index_one];exact h1
   rw[Lib.splitB_zero,splitOn_miss h2]
   simp[bytes_eta]
  ·rw[Lib.countB_hit s ⟨#[c]⟩ i (Nat.le_refl 1) h1] at h
   omega
 |k+    1,s,h=>by
  rcases Lib.indexB_cases s ⟨#[c]⟩ with h1| ⟨i,h1,_⟩
  ·rw[Lib.countB_miss s _ h1] at h
   omega
  ·have h2:Lib.indexByte s.data.toList c=i:=by rw[←Lib.index_one];exact h1
   rw[Lib.countB_hit s ⟨#[c]⟩ i (Nat.le_refl 1) h1] at h
   rw[Lib.splitB_hit _ 0 k s i h1,splitB_eq c k _ (by omega),splitOn_hit h2,List.map_cons]
   congr 1
   ·    apply ByteArray.ext
        apply Array.ext'
        simp[bytesOf,ByteArray.data_extract]
   ·    congr 2
        rw[show (⟨#[c]⟩:ByteArray).size=1 from rfl]
        simp only[ByteArray.data_extract,Array.toList_extract,List.extract_eq_take_drop]
        rw[List.take_of_length_le]
        rw[List.length_drop,Array.length_toList]
        exact Nat.le_refl _
theorem join_eq (sep:List UInt8):∀l:List (List UInt8),Lib.join l sep=joinOn sep l
 | []=>rfl
 | [x]=>by simp[Lib.join,List.intercalate,joinOn]
 |x::y::r=>by
  have:=join_eq sep (y::r)
  unfold Lib.join List.intercalate at this ⊢
  simp only[joinOn,←this]
  simp[List.intersperse]
set_option maxRecDepth 100000 in
theorem hi9:(Tryd.prog.info? 9).map (fun i=>(i.zero,i.size,i.bytes))=some (some (.string ByteArray.empty),1,16):=by kernel_rfl
theorem hbS:HasBody Tryd.prog 42:=⟨_,Tryd.func42,rfl,by decide⟩
theorem hbJ:HasBody Tryd.prog 45:=⟨_,Tryd.func45,rfl,by decide⟩
theorem hbN:HasBody Tryd.prog 74:=⟨_,Tryd.func74,rfl,by decide⟩
theorem hbD:HasBody Tryd.prog 73:=⟨_,Tryd.func73,rfl,by decide⟩
theorem Split_fx {s sep:ByteArray} {r:List Dt} (h:strings_Split s sep=some r):FX Tryd.prog 42 [.dat 9 (.str s),.dat 9 (.str sep)] [] (.dat 23 (.lst r)) []:=by
 unfold strings_Split at h
 split at h
 ·rename_i c hc
  obtain⟨h1,h2⟩:=bif_some h
  have h1':s.size<4294967281:=Nat.lt_of_lt_of_le (Nat.lt_succ_self _) (Nat.le_of_ble_eq_true h1)
  obtain rfl:sep=⟨#[c]⟩:=by
   rw[←bytes_eta sep,hc];rfl
  have:=split_fx Tryd.lays146 hi9 (by rw[show Tryd.lays146_ren.t 9=9 from rfl];exact c9) Tryd.underlying23 s c h1'
  rw[splitB_eq c _ s rfl] at this
  cases h2
  rw[List.map_map] at this
  exact this
 ·cases h
theorem Join_fx {es:List Dt} {sep:ByteArray} {r:ByteArray} (h:strings_Join es sep=some r):FX Tryd.prog 45 [.dat 23 (.lst es),.dat 9 (.str sep)] [] (.dat 9 (.str r)) []:=by
 unfold strings_Join at h
 obtain⟨h1,h2⟩:=bif_some h
 have h3:=Nat.le_of_ble_eq_true (and_l h1)
 have h4:=Nat.le_of_ble_eq_true (and_r h1)
 cases h2
 rw[←join_eq] at h4
 have:=join_fx Tryd.lays156 Tryd.Builder_Extra_156 Tryd.underlying9 c9 Tryd.underlying23 es sep h3 h4
 rw[join_eq] at this
 exact this
end Go.Proofs.YtmjnmiahblaanaaDoor
