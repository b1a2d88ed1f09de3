/- Generated: the functions as contracts for their callers. -/
import Derived.Test.YtmjnmiahblaanaaDoorSh
import Derived.Test.YtmjnmiahblaanaaDoorProg
set_option linter.unusedVariables false
set_option linter.unusedSimpArgs false
namespace Go.Proofs.YtmjnmiahblaanaaDoor
open Go.Am
def sel0 (args:List AV) (objs:List Ob):Option (Dt×List Dt):=match args,objs with
 | [.dat T0 x0,.dat T1 x1],[]=>bif (Nat.beq T0 36&&Nat.beq T1 23) then some (x0,x1.toLst) else none
 |_,_=>none
theorem sel0_ok {args:List AV} {objs:List Ob} {l:Dt×List Dt} (h:sel0 args objs=some l):CnA Tryd.prog args [(.dat 36 l.1),(.dat 23 (.lst l.2))]∧CnOL Tryd.prog objs []:=by
 unfold sel0 at h
 split at h
 ·obtain⟨hc,h2⟩:=bif_some h
  cases h2
  have e0:=beq_eq (and_l hc)
  have e1:=beq_eq (and_r hc)
  subst e0 e1
  exact⟨(.cons (.of .same rfl rfl) (.cons (.of (.dat (.lst Tryd.underlying23)) rfl rfl) .nil)),.nil⟩
 ·cases h
def sel1 (args:List AV) (objs:List Ob):Option (Dt×List Dt×Dt):=match args,objs with
 | [.dat T0 x0,.dat T1 x1,.dat T2 x2],[]=>bif (Nat.beq T0 36&&(Nat.beq T1 23&&Nat.beq T2 36)) then some (x0,x1.toLst,x2) else none
 |_,_=>none
theorem sel1_ok {args:List AV} {objs:List Ob} {l:Dt×List Dt×Dt} (h:sel1 args objs=some l):CnA Tryd.prog args [(.dat 36 l.1),(.dat 23 (.lst l.2.1)),(.dat 36 l.2.2)]∧CnOL Tryd.prog objs []:=by
 unfold sel1 at h
 split at h
 ·obtain⟨hc,h2⟩:=bif_some h
  cases h2
  have e0:=beq_eq (and_l hc)
  have e1:=beq_eq (and_l (and_r hc))
  have e2:=beq_eq (and_r (and_r hc))
  subst e0 e1 e2
  exact⟨(.cons (.of .same rfl rfl) (.cons (.of (.dat (.lst Tryd.underlying23)) rfl rfl) (.cons (.of .same rfl rfl) .nil))),.nil⟩
 ·cases h
def sel2 (args:List AV) (objs:List Ob):Option Dt:=match args,objs with
 | [.dat T0 x0],[]=>bif Nat.beq T0 47 then some x0 else none
 |_,_=>none
theorem sel2_ok {args:List AV} {objs:List Ob} {l:Dt} (h:sel2 args objs=some l):CnA Tryd.prog args [(.dat 47 l)]∧CnOL Tryd.prog objs []:=by
 unfold sel2 at h
 split at h
 ·obtain⟨hc,h2⟩:=bif_some h
  cases h2
  have e0:=beq_eq hc
  subst e0
  exact⟨(.cons (.of .same rfl rfl) .nil),.nil⟩
 ·cases h
def sel4 (args:List AV) (objs:List Ob):Option Unit:=match args,objs with
 | [],[]=>bif true then some () else none
 |_,_=>none
theorem sel4_ok {args:List AV} {objs:List Ob} {l:Unit} (h:sel4 args objs=some l):CnA Tryd.prog args []∧CnOL Tryd.prog objs []:=by
 unfold sel4 at h
 split at h
 ·obtain⟨hc,h2⟩:=bif_some h
  cases h2
  exact⟨.nil,.nil⟩
 ·cases h
def sel7 (args:List AV) (objs:List Ob):Option (Dt×Dt):=match args,objs with
 | [.dat T0 x0,.dat T1 x1],[]=>bif (Nat.beq T0 36&&Nat.beq T1 36) then some (x0,x1) else none
 |_,_=>none
theorem sel7_ok {args:List AV} {objs:List Ob} {l:Dt×Dt} (h:sel7 args objs=some l):CnA Tryd.prog args [(.dat 36 l.1),(.dat 36 l.2)]∧CnOL Tryd.prog objs []:=by
 unfold sel7 at h
 split at h
 ·obtain⟨hc,h2⟩:=bif_some h
  cases h2
  have e0:=beq_eq (and_l hc)
  have e1:=beq_eq (and_r hc)
  subst e0 e1
  exact⟨(.cons (.of .same rfl rfl) (.cons (.of .same rfl rfl) .nil)),.nil⟩
 ·cases h
def sel8 (args:List AV) (objs:List Ob):Option Dt:=match args,objs with
 | [.dat T0 x0],[]=>bif Nat.beq T0 36 then some x0 else none
 |_,_=>none
theorem sel8_ok {args:List AV} {objs:List Ob} {l:Dt} (h:sel8 args objs=some l):CnA Tryd.prog args [(.dat 36 l)]∧CnOL Tryd.prog objs []:=by
 unfold sel8 at h
 split at h
 ·obtain⟨hc,h2⟩:=bif_some h
  cases h2
  have e0:=beq_eq hc
  subst e0
  exact⟨(.cons (.of .same rfl rfl) .nil),.nil⟩
 ·cases h
def sel10 (args:List AV) (objs:List Ob):Option (List Dt×List Dt):=match args,objs with
 | [.dat T0 x0,.dat T1 x1],[]=>bif (Nat.beq T0 33&&Nat.beq T1 33) then some (x0.toLst,x1.toLst) else none
 |_,_=>none
theorem sel10_ok {args:List AV} {objs:List Ob} {l:List Dt×List Dt} (h:sel10 args objs=some l):CnA Tryd.prog args [(.dat 33 (.lst l.1)),(.dat 33 (.lst l.2))]∧CnOL Tryd.prog objs []:=by
 unfold sel10 at h
 split at h
 ·obtain⟨hc,h2⟩:=bif_some h
  cases h2
  have e0:=beq_eq (and_l hc)
  have e1:=beq_eq (and_r hc)
  subst e0 e1
  exact⟨(.cons (.of (.dat (.lst Tryd.underlying33)) rfl rfl) (.cons (.of (.dat (.lst Tryd.underlying33)) rfl rfl) .nil)),.nil⟩
 ·cases h
def sel15 (args:List AV) (objs:List Ob):Option (List Dt×List Dt):=match args,objs with
 | [.dat T0 x0,.dat T1 x1],[]=>bif (Nat.beq T0 23&&Nat.beq T1 23) then some (x0.toLst,x1.toLst) else none
 |_,_=>none
theorem sel15_ok {args:List AV} {objs:List Ob} {l:List Dt×List Dt} (h:sel15 args objs=some l):CnA Tryd.prog args [(.dat 23 (.lst l.1)),(.dat 23 (.lst l.2))]∧CnOL Tryd.prog objs []:=by
 unfold sel15 at h
 split at h
 ·obtain⟨hc,h2⟩:=bif_some h
  cases h2
  have e0:=beq_eq (and_l hc)
  have e1:=beq_eq (and_r hc)
  subst e0 e1
  exact⟨(.cons (.of (.dat (.lst Tryd.underlying23)) rfl rfl) (.cons (.of (.dat (.lst Tryd.underlying23)) rfl rfl) .nil)),.nil⟩
 ·cases h
def sel19 (args:List AV) (objs:List Ob):Option (List Dt×ByteArray):=match args,objs with
 | [.dat T0 x0,.dat T1 x1],[]=>bif (Nat.beq T0 34&&Nat.beq T1 9) then some (x0.toLst,x1.toStr) else none
 |_,_=>none
theorem sel19_ok {args:List AV} {objs:List Ob} {l:List Dt×ByteArray} (h:sel19 args objs=some l):CnA Tryd.prog args [(.dat 34 (.lst l.1)),(.dat 9 (.str l.2))]∧CnOL Tryd.prog objs []:=by
 unfold sel19 at h
 split at h
 ·obtain⟨hc,h2⟩:=bif_some h
  cases h2
  have e0:=beq_eq (and_l hc)
  have e1:=beq_eq (and_r hc)
  subst e0 e1
  exact⟨(.cons (.of (.dat (.lst Tryd.underlying34)) rfl rfl) (.cons (.of (.dat (.str Tryd.underlying9)) rfl rfl) .nil)),.nil⟩
 ·cases h
def sel20 (args:List AV) (objs:List Ob):Option ByteArray:=match args,objs with
 | [.dat T0 x0],[]=>bif Nat.beq T0 9 then some x0.toStr else none
 |_,_=>none
theorem sel20_ok {args:List AV} {objs:List Ob} {l:ByteArray} (h:sel20 args objs=some l):CnA Tryd.prog args [(.dat 9 (.str l))]∧CnOL Tryd.prog objs []:=by
 unfold sel20 at h
 split at h
 ·obtain⟨hc,h2⟩:=bif_some h
  cases h2
  have e0:=beq_eq hc
  subst e0
  exact⟨(.cons (.of (.dat (.str Tryd.underlying9)) rfl rfl) .nil),.nil⟩
 ·cases h
def sel22 (args:List AV) (objs:List Ob):Option (Dt×ByteArray):=match args,objs with
 | [.dat T0 x0,.dat T1 x1],[]=>bif (Nat.beq T0 36&&Nat.beq T1 9) then some (x0,x1.toStr) else none
 |_,_=>none
theorem sel22_ok {args:List AV} {objs:List Ob} {l:Dt×ByteArray} (h:sel22 args objs=some l):CnA Tryd.prog args [(.dat 36 l.1),(.dat 9 (.str l.2))]∧CnOL Tryd.prog objs []:=by
 unfold sel22 at h
 split at h
 ·obtain⟨hc,h2⟩:=bif_some h
  cases h2
  have e0:=beq_eq (and_l hc)
  have e1:=beq_eq (and_r hc)
  subst e0 e1
  exact⟨(.cons (.of .same rfl rfl) (.cons (.of (.dat (.str Tryd.underlying9)) rfl rfl) .nil)),.nil⟩
 ·cases h
def sel25 (args:List AV) (objs:List Ob):Option (Dt×List Dt×List Dt):=match args,objs with
 | [.row n0,.dat T1 x1,.dat T2 x2],[.row T3 x3]=>bif (Nat.beq n0 0&&(Nat.beq T1 36&&(Nat.beq T2 23&&Nat.beq T3 33))) then some (x1,x2.toLst,x3) else none
 |_,_=>none
theorem sel25_ok {args:List AV} {objs:List Ob} {l:Dt×List Dt×List Dt} (h:sel25 args objs=some l):CnA Tryd.prog args [(.row 0),(.dat 36 l.1),(.dat 23 (.lst l.2.1))]∧CnOL Tryd.prog objs [(.row 33 l.2.2)]:=by
 unfold sel25 at h
 split at h
 ·obtain⟨hc,h2⟩:=bif_some h
  cases h2
  have e0:=beq_eq (and_l hc)
  have e1:=beq_eq (and_l (and_r hc))
  have e2:=beq_eq (and_l (and_r (and_r hc)))
  have e3:=beq_eq (and_r (and_r (and_r hc)))
  subst e0 e1 e2 e3
  exact⟨(.cons (.of .same rfl rfl) (.cons (.of .same rfl rfl) (.cons (.of (.dat (.lst Tryd.underlying23)) rfl rfl) .nil))),(.cons .same .nil)⟩
 ·cases h
def sel27 (args:List AV) (objs:List Ob):Option (Dt×ByteArray×Dt):=match args,objs with
 | [.dat T0 x0,.dat T1 x1,.dat T2 x2],[]=>bif (Nat.beq T0 36&&(Nat.beq T1 9&&Nat.beq T2 36)) then some (x0,x1.toStr,x2) else none
 |_,_=>none
theorem sel27_ok {args:List AV} {objs:List Ob} {l:Dt×ByteArray×Dt} (h:sel27 args objs=some l):CnA Tryd.prog args [(.dat 36 l.1),(.dat 9 (.str l.2.1)),(.dat 36 l.2.2)]∧CnOL Tryd.prog objs []:=by
 unfold sel27 at h
 split at h
 ·obtain⟨hc,h2⟩:=bif_some h
  cases h2
  have e0:=beq_eq (and_l hc)
  have e1:=beq_eq (and_l (and_r hc))
  have e2:=beq_eq (and_r (and_r hc))
  subst e0 e1 e2
  exact⟨(.cons (.of .same rfl rfl) (.cons (.of (.dat (.str Tryd.underlying9)) rfl rfl) (.cons (.of .same rfl rfl) .nil))),.nil⟩
 ·cases h
def sel29 (args:List AV) (objs:List Ob):Option (List Dt):=match args,objs with
 | [.dat T0 x0],[]=>bif Nat.beq T0 23 then some x0.toLst else none
 |_,_=>none
theorem sel29_ok {args:List AV} {objs:List Ob} {l:List Dt} (h:sel29 args objs=some l):CnA Tryd.prog args [(.dat 23 (.lst l))]∧CnOL Tryd.prog objs []:=by
 unfold sel29 at h
 split at h
 ·obtain⟨hc,h2⟩:=bif_some h
  cases h2
  have e0:=beq_eq hc
  subst e0
  exact⟨(.cons (.of (.dat (.lst Tryd.underlying23)) rfl rfl) .nil),.nil⟩
 ·cases h
def sel32 (args:List AV) (objs:List Ob):Option (Dt×Bool):=match args,objs with
 | [.dat T0 x0,.dat T1 x1],[]=>bif (Nat.beq T0 36&&Nat.beq T1 4) then some (x0,x1.toBool) else none
 |_,_=>none
theorem sel32_ok {args:List AV} {objs:List Ob} {l:Dt×Bool} (h:sel32 args objs=some l):CnA Tryd.prog args [(.dat 36 l.1),(.dat 4 (.bool l.2))]∧CnOL Tryd.prog objs []:=by
 unfold sel32 at h
 split at h
 ·obtain⟨hc,h2⟩:=bif_some h
  cases h2
  have e0:=beq_eq (and_l hc)
  have e1:=beq_eq (and_r hc)
  subst e0 e1
  exact⟨(.cons (.of .same rfl rfl) (.cons (.of (.dat (.bool Tryd.underlying4)) rfl rfl) .nil)),.nil⟩
 ·cases h
def sel33 (args:List AV) (objs:List Ob):Option (Dt×Int):=match args,objs with
 | [.dat T0 x0,.dat T1 x1],[]=>bif (Nat.beq T0 36&&Nat.beq T1 3) then some (x0,x1.toInt) else none
 |_,_=>none
theorem sel33_ok {args:List AV} {objs:List Ob} {l:Dt×Int} (h:sel33 args objs=some l):CnA Tryd.prog args [(.dat 36 l.1),(.dat 3 (.int l.2))]∧CnOL Tryd.prog objs []:=by
 unfold sel33 at h
 split at h
 ·obtain⟨hc,h2⟩:=bif_some h
  cases h2
  have e0:=beq_eq (and_l hc)
  have e1:=beq_eq (and_r hc)
  subst e0 e1
  exact⟨(.cons (.of .same rfl rfl) (.cons (.of (.dat (.int Tryd.underlying3)) rfl rfl) .nil)),.nil⟩
 ·cases h
def sel37 (args:List AV) (objs:List Ob):Option (List Dt×Dt):=match args,objs with
 | [.dat T0 x0,.dat T1 x1],[]=>bif (Nat.beq T0 23&&Nat.beq T1 36) then some (x0.toLst,x1) else none
 |_,_=>none
theorem sel37_ok {args:List AV} {objs:List Ob} {l:List Dt×Dt} (h:sel37 args objs=some l):CnA Tryd.prog args [(.dat 23 (.lst l.1)),(.dat 36 l.2)]∧CnOL Tryd.prog objs []:=by
 unfold sel37 at h
 split at h
 ·obtain⟨hc,h2⟩:=bif_some h
  cases h2
  have e0:=beq_eq (and_l hc)
  have e1:=beq_eq (and_r hc)
  subst e0 e1
  exact⟨(.cons (.of (.dat (.lst Tryd.underlying23)) rfl rfl) (.cons (.of .same rfl rfl) .nil)),.nil⟩
 ·cases h
def sel40 (args:List AV) (objs:List Ob):Option (ByteArray×Int×Int):=match args,objs with
 | [.dat T0 x0,.dat T1 x1,.dat T2 x2],[]=>bif (Nat.beq T0 9&&(Nat.beq T1 3&&Nat.beq T2 3)) then some (x0.toStr,x1.toInt,x2.toInt) else none
 |_,_=>none
theorem sel40_ok {args:List AV} {objs:List Ob} {l:ByteArray×Int×Int} (h:sel40 args objs=some l):CnA Tryd.prog args [(.dat 9 (.str l.1)),(.dat 3 (.int l.2.1)),(.dat 3 (.int l.2.2))]∧CnOL Tryd.prog objs []:=by
 unfold sel40 at h
 split at h
 ·obtain⟨hc,h2⟩:=bif_some h
  cases h2
  have e0:=beq_eq (and_l hc)
  have e1:=beq_eq (and_l (and_r hc))
  have e2:=beq_eq (and_r (and_r hc))
  subst e0 e1 e2
  exact⟨(.cons (.of (.dat (.str Tryd.underlying9)) rfl rfl) (.cons (.of (.dat (.int Tryd.underlying3)) rfl rfl) (.cons (.of (.dat (.int Tryd.underlying3)) rfl rfl) .nil))),.nil⟩
 ·cases h
noncomputable def ct6 {R:Type} (m:Nat) (args:List AV) (objs:List Ob) (K:Res→Option R):Option R:=match sel0 args objs with
 |some l=>(law04_PathGets m l.1 l.2).bind fun r=>K ((.dat 4 (.bool r)),[])
 |none=>none
noncomputable def ct7 {R:Type} (m:Nat) (args:List AV) (objs:List Ob) (K:Res→Option R):Option R:=match sel1 args objs with
 |some l=>(law04_PathPuts m l.1 l.2.1 l.2.2).bind fun r=>K ((.dat 4 (.bool r)),[])
 |none=>none
noncomputable def ct8 {R:Type} (m:Nat) (args:List AV) (objs:List Ob) (K:Res→Option R):Option R:=match sel2 args objs with
 |some l=>(law04_PathChanges m l).bind fun r=>K ((.dat 4 (.bool r)),[])
 |none=>none
noncomputable def ct22 {R:Type} (m:Nat) (args:List AV) (objs:List Ob) (K:Res→Option R):Option R:=match sel0 args objs with
 |some l=>(law04_small m l.1 l.2).bind fun r=>K ((.dat 4 (.bool r)),[])
 |none=>none
noncomputable def ct12 {R:Type} (m:Nat) (args:List AV) (objs:List Ob) (K:Res→Option R):Option R:=match sel4 args objs with
 |some l=>(awakeC).bind fun r=>K ((.dat 4 (.bool r)),[])
 |none=>none
noncomputable def ct23 {R:Type} (m:Nat) (args:List AV) (objs:List Ob) (K:Res→Option R):Option R:=match sel0 args objs with
 |some l=>(path_Get m l.1 l.2).bind fun r=>K ((.dat 36 r),[])
 |none=>none
noncomputable def ct25 {R:Type} (m:Nat) (args:List AV) (objs:List Ob) (K:Res→Option R):Option R:=match sel0 args objs with
 |some l=>(ref04_Get m l.1 l.2).bind fun r=>K ((.dat 36 r),[])
 |none=>none
noncomputable def ct24 {R:Type} (m:Nat) (args:List AV) (objs:List Ob) (K:Res→Option R):Option R:=match sel7 args objs with
 |some l=>(ref01_Same m l.1 l.2).bind fun r=>K ((.dat 4 (.bool r)),[])
 |none=>none
noncomputable def ct28 {R:Type} (m:Nat) (args:List AV) (objs:List Ob) (K:Res→Option R):Option R:=match sel8 args objs with
 |some l=>(law04_lists m l).bind fun r=>K ((.dat 4 (.bool r)),[])
 |none=>none
noncomputable def ct30 {R:Type} (m:Nat) (args:List AV) (objs:List Ob) (K:Res→Option R):Option R:=match sel0 args objs with
 |some l=>(path_Reach m l.1 l.2).bind fun r=>K ((.dat 33 (.lst r)),[])
 |none=>none
noncomputable def ct29 {R:Type} (m:Nat) (args:List AV) (objs:List Ob) (K:Res→Option R):Option R:=match sel10 args objs with
 |some l=>(ref01_SameList m l.1 l.2).bind fun r=>K ((.dat 4 (.bool r)),[])
 |none=>none
noncomputable def ct26 {R:Type} (m:Nat) (args:List AV) (objs:List Ob) (K:Res→Option R):Option R:=match sel0 args objs with
 |some l=>(path_DropC l.1 l.2).bind fun r=>K ((.dat 36 r),[])
 |none=>none
noncomputable def ct27 {R:Type} (m:Nat) (args:List AV) (objs:List Ob) (K:Res→Option R):Option R:=match sel0 args objs with
 |some l=>(ref04_Drop m l.1 l.2).bind fun r=>K ((.dat 36 r),[])
 |none=>none
noncomputable def ct31 {R:Type} (m:Nat) (args:List AV) (objs:List Ob) (K:Res→Option R):Option R:=match sel1 args objs with
 |some l=>(path_PutC l.1 l.2.1 l.2.2).bind fun r=>K ((.tup [(.dat 36 r.1),(.dat 24 (.int r.2))]),[])
 |none=>none
noncomputable def ct32 {R:Type} (m:Nat) (args:List AV) (objs:List Ob) (K:Res→Option R):Option R:=match sel1 args objs with
 |some l=>(ref04_Put m l.1 l.2.1 l.2.2).bind fun r=>K ((.tup [(.dat 36 r.1),(.dat 24 (.int r.2))]),[])
 |none=>none
noncomputable def ct34 {R:Type} (m:Nat) (args:List AV) (objs:List Ob) (K:Res→Option R):Option R:=match sel15 args objs with
 |some l=>(path_Overlap m l.1 l.2).bind fun r=>K ((.dat 4 (.bool r)),[])
 |none=>none
noncomputable def ct33 {R:Type} (m:Nat) (args:List AV) (objs:List Ob) (K:Res→Option R):Option R:=match sel8 args objs with
 |some l=>(ref01_Valid m l).bind fun r=>K ((.dat 4 (.bool r)),[])
 |none=>none
noncomputable def ct49 {R:Type} (m:Nat) (args:List AV) (objs:List Ob) (K:Res→Option R):Option R:=match sel8 args objs with
 |some l=>(ref01_Depth m l).bind fun r=>K ((.dat 3 (.int r)),[])
 |none=>none
noncomputable def ct50 {R:Type} (m:Nat) (args:List AV) (objs:List Ob) (K:Res→Option R):Option R:=match sel8 args objs with
 |some l=>(ref01_Nodes m l).bind fun r=>K ((.dat 3 (.int r)),[])
 |none=>none
noncomputable def ct51 {R:Type} (m:Nat) (args:List AV) (objs:List Ob) (K:Res→Option R):Option R:=match sel19 args objs with
 |some l=>(path_field m l.1 l.2).bind fun r=>K ((.dat 3 (.int r)),[])
 |none=>none
noncomputable def ct20 {R:Type} (m:Nat) (args:List AV) (objs:List Ob) (K:Res→Option R):Option R:=match sel20 args objs with
 |some l=>(path_Number m l).bind fun r=>K ((.tup [(.dat 3 (.int r.1)),(.dat 4 (.bool r.2))]),[])
 |none=>none
noncomputable def ct52 {R:Type} (m:Nat) (args:List AV) (objs:List Ob) (K:Res→Option R):Option R:=match sel8 args objs with
 |some l=>(path_clone m l).bind fun r=>K ((.dat 36 r),[])
 |none=>none
noncomputable def ct53 {R:Type} (m:Nat) (args:List AV) (objs:List Ob) (K:Res→Option R):Option R:=match sel22 args objs with
 |some l=>(ref01_Get m l.1 l.2).bind fun r=>K ((.tup [(.dat 36 r.1),(.dat 4 (.bool r.2))]),[])
 |none=>none
noncomputable def ct21 {R:Type} (m:Nat) (args:List AV) (objs:List Ob) (K:Res→Option R):Option R:=match sel20 args objs with
 |some l=>(ref04_Number m l).bind fun r=>K ((.tup [(.dat 3 (.int r.1)),(.dat 4 (.bool r.2))]),[])
 |none=>none
noncomputable def ct58 {R:Type} (m:Nat) (args:List AV) (objs:List Ob) (K:Res→Option R):Option R:=match sel8 args objs with
 |some l=>(ref01_Parts m l).bind fun r=>K ((.dat 33 (.lst r)),[])
 |none=>none
noncomputable def ct59 {R:Type} (m:Nat) (args:List AV) (objs:List Ob) (K:Res→Option R):Option R:=match sel25 args objs with
 |some l=>(i25 m l.1 l.2.1 l.2.2).bind fun r=>K ((.row 1),[.gone,(.row 33 r)])
 |none=>none
noncomputable def ct55 {R:Type} (m:Nat) (args:List AV) (objs:List Ob) (K:Res→Option R):Option R:=match sel22 args objs with
 |some l=>(ref01_Remove m l.1 l.2).bind fun r=>K ((.dat 36 r),[])
 |none=>none
noncomputable def ct56 {R:Type} (m:Nat) (args:List AV) (objs:List Ob) (K:Res→Option R):Option R:=match sel27 args objs with
 |some l=>(ref01_Set m l.1 l.2.1 l.2.2).bind fun r=>K ((.dat 36 r),[])
 |none=>none
noncomputable def ct57 {R:Type} (m:Nat) (args:List AV) (objs:List Ob) (K:Res→Option R):Option R:=match sel4 args objs with
 |some l=>(ref01_Null m).bind fun r=>K ((.dat 36 r),[])
 |none=>none
noncomputable def ct18 {R:Type} (m:Nat) (args:List AV) (objs:List Ob) (K:Res→Option R):Option R:=match sel29 args objs with
 |some l=>(ref04_Valid m l).bind fun r=>K ((.dat 4 (.bool r)),[])
 |none=>none
noncomputable def ct61 {R:Type} (m:Nat) (args:List AV) (objs:List Ob) (K:Res→Option R):Option R:=match sel1 args objs with
 |some l=>(ref04_put m l.1 l.2.1 l.2.2).bind fun r=>K ((.tup [(.dat 36 r.1),(.dat 4 (.bool r.2))]),[])
 |none=>none
noncomputable def ct63 {R:Type} (m:Nat) (args:List AV) (objs:List Ob) (K:Res→Option R):Option R:=match sel15 args objs with
 |some l=>(slices_Equal m l.1 l.2).bind fun r=>K ((.dat 4 (.bool r)),[])
 |none=>none
noncomputable def ct62 {R:Type} (m:Nat) (args:List AV) (objs:List Ob) (K:Res→Option R):Option R:=match sel32 args objs with
 |some l=>(ref01_formed m l.1 l.2).bind fun r=>K ((.dat 4 (.bool r)),[])
 |none=>none
noncomputable def ct70 {R:Type} (m:Nat) (args:List AV) (objs:List Ob) (K:Res→Option R):Option R:=match sel33 args objs with
 |some l=>(ref01_levels m l.1 l.2).bind fun r=>K ((.dat 3 (.int r)),[])
 |none=>none
noncomputable def ct71 {R:Type} (m:Nat) (args:List AV) (objs:List Ob) (K:Res→Option R):Option R:=match sel33 args objs with
 |some l=>(ref01_count m l.1 l.2).bind fun r=>K ((.dat 3 (.int r)),[])
 |none=>none
noncomputable def ct72 {R:Type} (m:Nat) (args:List AV) (objs:List Ob) (K:Res→Option R):Option R:=match sel22 args objs with
 |some l=>(ref01_at m l.1 l.2).bind fun r=>K ((.dat 3 (.int r)),[])
 |none=>none
noncomputable def ct48 {R:Type} (m:Nat) (args:List AV) (objs:List Ob) (K:Res→Option R):Option R:=match sel20 args objs with
 |some l=>(ref01_Name m l).bind fun r=>K ((.dat 4 (.bool r)),[])
 |none=>none
noncomputable def ct75 {R:Type} (m:Nat) (args:List AV) (objs:List Ob) (K:Res→Option R):Option R:=match sel37 args objs with
 |some l=>(ref04_fresh m l.1 l.2).bind fun r=>K ((.dat 36 r),[])
 |none=>none
noncomputable def ct76 {R:Type} (m:Nat) (args:List AV) (objs:List Ob) (K:Res→Option R):Option R:=match sel20 args objs with
 |some l=>(ref01_UTF8 m l).bind fun r=>K ((.dat 4 (.bool r)),[])
 |none=>none
noncomputable def ct77 {R:Type} (m:Nat) (args:List AV) (objs:List Ob) (K:Res→Option R):Option R:=match sel32 args objs with
 |some l=>(ref01_fields m l.1 l.2).bind fun r=>K ((.dat 4 (.bool r)),[])
 |none=>none
noncomputable def ct84 {R:Type} (m:Nat) (args:List AV) (objs:List Ob) (K:Res→Option R):Option R:=match sel40 args objs with
 |some l=>(ref01_tail m l.1 l.2.1 l.2.2).bind fun r=>K ((.dat 4 (.bool r)),[])
 |none=>none
noncomputable def ct85 {R:Type} (m:Nat) (args:List AV) (objs:List Ob) (K:Res→Option R):Option R:=match sel20 args objs with
 |some l=>(ref01_wide m l).bind fun r=>K ((.dat 4 (.bool r)),[])
 |none=>none
noncomputable def d7 (q:Res):Option Bool:=match q with
 |(.dat T0 x0,[])=>bif Nat.beq T0 4 then some x0.toBool else none
 |_=>none
theorem d7_sim {b:Res} {r:Bool} (h:d7 b=some r):Sim Tryd.prog b ((.dat 4 (.bool r)),[]):=by
 unfold d7 at h
 split at h
 ·obtain⟨hc,h2⟩:=bif_some h
  cases h2
  have e0:=beq_eq hc
  subst e0
  exact Sim.of (.of (.dat (.bool Tryd.underlying4)) rfl rfl) .nil
 ·cases h
noncomputable def d19 (q:Res):Option Int:=match q with
 |(.dat T0 x0,[])=>bif Nat.beq T0 3 then some x0.toInt else none
 |_=>none
theorem d19_sim {b:Res} {r:Int} (h:d19 b=some r):Sim Tryd.prog b ((.dat 3 (.int r)),[]):=by
 unfold d19 at h
 split at h
 ·obtain⟨hc,h2⟩:=bif_some h
  cases h2
  have e0:=beq_eq hc
  subst e0
  exact Sim.of (.of (.dat (.int Tryd.underlying3)) rfl rfl) .nil
 ·cases h
noncomputable def d20 (q:Res):Option (Int×Bool):=match q with
 |(.tup [.dat T0 x0,.dat T1 x1],[])=>bif (Nat.beq T0 3&&Nat.beq T1 4) then some (x0.toInt,x1.toBool) else none
 |_=>none
theorem d20_sim {b:Res} {r:Int×Bool} (h:d20 b=some r):Sim Tryd.prog b ((.tup [(.dat 3 (.int r.1)),(.dat 4 (.bool r.2))]),[]):=by
 unfold d20 at h
 split at h
 ·obtain⟨hc,h2⟩:=bif_some h
  cases h2
  have e0:=beq_eq (and_l hc)
  have e1:=beq_eq (and_r hc)
  subst e0 e1
  exact Sim.of (.tup (.cons (.dat (.int Tryd.underlying3)) (.cons (.dat (.bool Tryd.underlying4)) .nil))) .nil
 ·cases h
noncomputable def d21 (q:Res):Option Dt:=match q with
 |(.dat T0 x0,[])=>bif Nat.beq T0 36 then some x0 else none
 |_=>none
theorem d21_sim {b:Res} {r:Dt} (h:d21 b=some r):Sim Tryd.prog b ((.dat 36 r),[]):=by
 unfold d21 at h
 split at h
 ·obtain⟨hc,h2⟩:=bif_some h
  cases h2
  have e0:=beq_eq hc
  subst e0
  exact Sim.of (.of .same rfl rfl) .nil
 ·cases h
noncomputable def d24 (q:Res):Option (List Dt):=match q with
 |(.dat T0 x0,[])=>bif Nat.beq T0 33 then some x0.toLst else none
 |_=>none
theorem d24_sim {b:Res} {r:List Dt} (h:d24 b=some r):Sim Tryd.prog b ((.dat 33 (.lst r)),[]):=by
 unfold d24 at h
 split at h
 ·obtain⟨hc,h2⟩:=bif_some h
  cases h2
  have e0:=beq_eq hc
  subst e0
  exact Sim.of (.of (.dat (.lst Tryd.underlying33)) rfl rfl) .nil
 ·cases h
noncomputable def d25 (q:Res):Option (List Dt):=match q with
 |(.row n0,[.gone,.row T1 x1])=>bif (Nat.beq n0 1&&Nat.beq T1 33) then some x1 else none
 |_=>none
theorem d25_sim {b:Res} {r:List Dt} (h:d25 b=some r):Sim Tryd.prog b ((.row 1),[.gone,(.row 33 r)]):=by
 unfold d25 at h
 split at h
 ·obtain⟨hc,h2⟩:=bif_some h
  cases h2
  have e0:=beq_eq (and_l hc)
  have e1:=beq_eq (and_r hc)
  subst e0 e1
  exact Sim.of (.of .same rfl rfl) (.cons .same (.cons .same .nil))
 ·cases h
noncomputable def d22 (q:Res):Option (Dt×Bool):=match q with
 |(.tup [.dat T0 x0,.dat T1 x1],[])=>bif (Nat.beq T0 36&&Nat.beq T1 4) then some (x0,x1.toBool) else none
 |_=>none
theorem d22_sim {b:Res} {r:Dt×Bool} (h:d22 b=some r):Sim Tryd.prog b ((.tup [(.dat 36 r.1),(.dat 4 (.bool r.2))]),[]):=by
 unfold d22 at h
 split at h
 ·obtain⟨hc,h2⟩:=bif_some h
  cases h2
  have e0:=beq_eq (and_l hc)
  have e1:=beq_eq (and_r hc)
  subst e0 e1
  exact Sim.of (.tup (.cons .same (.cons (.dat (.bool Tryd.underlying4)) .nil))) .nil
 ·cases h
noncomputable def d14 (q:Res):Option (Dt×Int):=match q with
 |(.tup [.dat T0 x0,.dat T1 x1],[])=>bif (Nat.beq T0 36&&Nat.beq T1 24) then some (x0,x1.toInt) else none
 |_=>none
theorem d14_sim {b:Res} {r:Dt×Int} (h:d14 b=some r):Sim Tryd.prog b ((.tup [(.dat 36 r.1),(.dat 24 (.int r.2))]),[]):=by
 unfold d14 at h
 split at h
 ·obtain⟨hc,h2⟩:=bif_some h
  cases h2
  have e0:=beq_eq (and_l hc)
  have e1:=beq_eq (and_r hc)
  subst e0 e1
  exact Sim.of (.tup (.cons .same (.cons (.dat (.int Tryd.underlying24)) .nil))) .nil
 ·cases h
noncomputable def ct {R:Type} (m:Nat) (f:FuncId) (args:List AV) (objs:List Ob) (K:Res→Option R):Option R:=
 bif Nat.beq f 6 then ct6 m args objs K else
 bif Nat.beq f 7 then ct7 m args objs K else
 bif Nat.beq f 8 then ct8 m args objs K else
 bif Nat.beq f 22 then ct22 m args objs K else
 bif Nat.beq f 12 then ct12 m args objs K else
 bif Nat.beq f 23 then ct23 m args objs K else
 bif Nat.beq f 25 then ct25 m args objs K else
 bif Nat.beq f 24 then ct24 m args objs K else
 bif Nat.beq f 28 then ct28 m args objs K else
 bif Nat.beq f 30 then ct30 m args objs K else
 bif Nat.beq f 29 then ct29 m args objs K else
 bif Nat.beq f 26 then ct26 m args objs K else
 bif Nat.beq f 27 then ct27 m args objs K else
 bif Nat.beq f 31 then ct31 m args objs K else
 bif Nat.beq f 32 then ct32 m args objs K else
 bif Nat.beq f 34 then ct34 m args objs K else
 bif Nat.beq f 33 then ct33 m args objs K else
 bif Nat.beq f 49 then ct49 m args objs K else
 bif Nat.beq f 50 then ct50 m args objs K else
 bif Nat.beq f 51 then ct51 m args objs K else
 bif Nat.beq f 20 then ct20 m args objs K else
 bif Nat.beq f 52 then ct52 m args objs K else
 bif Nat.beq f 53 then ct53 m args objs K else
 bif Nat.beq f 21 then ct21 m args objs K else
 bif Nat.beq f 58 then ct58 m args objs K else
 bif Nat.beq f 59 then ct59 m args objs K else
 bif Nat.beq f 55 then ct55 m args objs K else
 bif Nat.beq f 56 then ct56 m args objs K else
 bif Nat.beq f 57 then ct57 m args objs K else
 bif Nat.beq f 18 then ct18 m args objs K else
 bif Nat.beq f 61 then ct61 m args objs K else
 bif Nat.beq f 63 then ct63 m args objs K else
 bif Nat.beq f 62 then ct62 m args objs K else
 bif Nat.beq f 70 then ct70 m args objs K else
 bif Nat.beq f 71 then ct71 m args objs K else
 bif Nat.beq f 72 then ct72 m args objs K else
 bif Nat.beq f 48 then ct48 m args objs K else
 bif Nat.beq f 75 then ct75 m args objs K else
 bif Nat.beq f 76 then ct76 m args objs K else
 bif Nat.beq f 77 then ct77 m args objs K else
 bif Nat.beq f 84 then ct84 m args objs K else
 bif Nat.beq f 85 then ct85 m args objs K else
 none
end Go.Proofs.YtmjnmiahblaanaaDoor
