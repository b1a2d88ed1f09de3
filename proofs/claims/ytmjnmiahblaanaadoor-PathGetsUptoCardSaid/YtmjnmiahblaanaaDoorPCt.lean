/- Generated: the functions as contracts for their callers. -/
import Derived.Test.YtmjnmiahblaanaaDoorPSh
import Derived.Test.YtmjnmiahblaanaaDoorProg
set_option linter.unusedVariables false
set_option linter.unusedSimpArgs false
namespace Go.Proofs.YtmjnmiahblaanaaDoor.P1
open Go.Am
def sel0 (args:List AV) (objs:List Ob):Option (List Dt):=match args,objs with
 | [.dat T0 x0],[]=>bif Nat.beq T0 23 then some x0.toLst else none
 |_,_=>none
theorem sel0_ok {args:List AV} {objs:List Ob} {l:List Dt} (h:sel0 args objs=some l):CnA Tryd.prog args [(.dat 23 (.lst l))]∧CnOL Tryd.prog objs []:=by
 unfold sel0 at h
 split at h
 ·obtain⟨hc,h2⟩:=bif_some h
  cases h2
  have e0:=beq_eq hc
  subst e0
  exact⟨(.cons (.of (.dat (.lst Tryd.underlying23)) rfl rfl) .nil),.nil⟩
 ·cases h
def sel1 (args:List AV) (objs:List Ob):Option ByteArray:=match args,objs with
 | [.dat T0 x0],[]=>bif Nat.beq T0 9 then some x0.toStr else none
 |_,_=>none
theorem sel1_ok {args:List AV} {objs:List Ob} {l:ByteArray} (h:sel1 args objs=some l):CnA Tryd.prog args [(.dat 9 (.str l))]∧CnOL Tryd.prog objs []:=by
 unfold sel1 at h
 split at h
 ·obtain⟨hc,h2⟩:=bif_some h
  cases h2
  have e0:=beq_eq hc
  subst e0
  exact⟨(.cons (.of (.dat (.str Tryd.underlying9)) rfl rfl) .nil),.nil⟩
 ·cases h
def sel2 (args:List AV) (objs:List Ob):Option (List Dt×ByteArray):=match args,objs with
 | [.dat T0 x0,.dat T1 x1],[]=>bif (Nat.beq T0 34&&Nat.beq T1 9) then some (x0.toLst,x1.toStr) else none
 |_,_=>none
theorem sel2_ok {args:List AV} {objs:List Ob} {l:List Dt×ByteArray} (h:sel2 args objs=some l):CnA Tryd.prog args [(.dat 34 (.lst l.1)),(.dat 9 (.str l.2))]∧CnOL Tryd.prog objs []:=by
 unfold sel2 at h
 split at h
 ·obtain⟨hc,h2⟩:=bif_some h
  cases h2
  have e0:=beq_eq (and_l hc)
  have e1:=beq_eq (and_r hc)
  subst e0 e1
  exact⟨(.cons (.of (.dat (.lst Tryd.underlying34)) rfl rfl) (.cons (.of (.dat (.str Tryd.underlying9)) rfl rfl) .nil)),.nil⟩
 ·cases h
def sel3 (args:List AV) (objs:List Ob):Option (List Dt):=match args,objs with
 | [.dat T0 x0,.fn T1 []],[]=>bif (Nat.beq T0 23&&Nat.beq T1 47) then some x0.toLst else none
 |_,_=>none
theorem sel3_ok {args:List AV} {objs:List Ob} {l:List Dt} (h:sel3 args objs=some l):CnA Tryd.prog args [(.dat 23 (.lst l)),(.fn 47 [])]∧CnOL Tryd.prog objs []:=by
 unfold sel3 at h
 split at h
 ·obtain⟨hc,h2⟩:=bif_some h
  cases h2
  have e0:=beq_eq (and_l hc)
  have e1:=beq_eq (and_r hc)
  subst e0 e1
  exact⟨(.cons (.of (.dat (.lst Tryd.underlying23)) rfl rfl) (.cons (.of (.fn .nil) rfl rfl) .nil)),.nil⟩
 ·cases h
noncomputable def ct17 {R:Type} (m:Nat) (args:List AV) (objs:List Ob) (K:Res→Option R):Option R:=match sel0 args objs with
 |some l=>(path_Valid m l).bind fun r=>K ((.dat 4 (.bool r)),[])
 |none=>none
noncomputable def ct20 {R:Type} (m:Nat) (args:List AV) (objs:List Ob) (K:Res→Option R):Option R:=match sel1 args objs with
 |some l=>(path_Number m l).bind fun r=>K ((.tup [(.dat 3 (.int r.1)),(.dat 4 (.bool r.2))]),[])
 |none=>none
noncomputable def ct51 {R:Type} (m:Nat) (args:List AV) (objs:List Ob) (K:Res→Option R):Option R:=match sel2 args objs with
 |some l=>(path_field m l.1 l.2).bind fun r=>K ((.dat 3 (.int r)),[])
 |none=>none
noncomputable def ct46 {R:Type} (m:Nat) (args:List AV) (objs:List Ob) (K:Res→Option R):Option R:=match sel3 args objs with
 |some l=>(i3 m l).bind fun r=>K ((.dat 4 (.bool r)),[])
 |none=>none
noncomputable def ct69 {R:Type} (m:Nat) (args:List AV) (objs:List Ob) (K:Res→Option R):Option R:=match sel3 args objs with
 |some l=>(i4 m l).bind fun r=>K ((.dat 3 (.int r)),[])
 |none=>none
noncomputable def ct47 {R:Type} (m:Nat) (args:List AV) (objs:List Ob) (K:Res→Option R):Option R:=match sel1 args objs with
 |some l=>(path_notName m l).bind fun r=>K ((.dat 4 (.bool r)),[])
 |none=>none
noncomputable def d1 (q:Res):Option (Int×Bool):=match q with
 |(.tup [.dat T0 x0,.dat T1 x1],[])=>bif (Nat.beq T0 3&&Nat.beq T1 4) then some (x0.toInt,x1.toBool) else none
 |_=>none
theorem d1_sim {b:Res} {r:Int×Bool} (h:d1 b=some r):Sim Tryd.prog b ((.tup [(.dat 3 (.int r.1)),(.dat 4 (.bool r.2))]),[]):=by
 unfold d1 at h
 split at h
 ·obtain⟨hc,h2⟩:=bif_some h
  cases h2
  have e0:=beq_eq (and_l hc)
  have e1:=beq_eq (and_r hc)
  subst e0 e1
  exact Sim.of (.tup (.cons (.dat (.int Tryd.underlying3)) (.cons (.dat (.bool Tryd.underlying4)) .nil))) .nil
 ·cases h
noncomputable def d2 (q:Res):Option Int:=match q with
 |(.dat T0 x0,[])=>bif Nat.beq T0 3 then some x0.toInt else none
 |_=>none
theorem d2_sim {b:Res} {r:Int} (h:d2 b=some r):Sim Tryd.prog b ((.dat 3 (.int r)),[]):=by
 unfold d2 at h
 split at h
 ·obtain⟨hc,h2⟩:=bif_some h
  cases h2
  have e0:=beq_eq hc
  subst e0
  exact Sim.of (.of (.dat (.int Tryd.underlying3)) rfl rfl) .nil
 ·cases h
noncomputable def d5 (q:Res):Option Bool:=match q with
 |(.dat T0 x0,[])=>bif Nat.beq T0 4 then some x0.toBool else none
 |_=>none
theorem d5_sim {b:Res} {r:Bool} (h:d5 b=some r):Sim Tryd.prog b ((.dat 4 (.bool r)),[]):=by
 unfold d5 at h
 split at h
 ·obtain⟨hc,h2⟩:=bif_some h
  cases h2
  have e0:=beq_eq hc
  subst e0
  exact Sim.of (.of (.dat (.bool Tryd.underlying4)) rfl rfl) .nil
 ·cases h
noncomputable def ct {R:Type} (m:Nat) (f:FuncId) (args:List AV) (objs:List Ob) (K:Res→Option R):Option R:=
 bif Nat.beq f 17 then ct17 m args objs K else
 bif Nat.beq f 20 then ct20 m args objs K else
 bif Nat.beq f 51 then ct51 m args objs K else
 bif Nat.beq f 46 then ct46 m args objs K else
 bif Nat.beq f 69 then ct69 m args objs K else
 bif Nat.beq f 47 then ct47 m args objs K else
 none
end Go.Proofs.YtmjnmiahblaanaaDoor.P1
