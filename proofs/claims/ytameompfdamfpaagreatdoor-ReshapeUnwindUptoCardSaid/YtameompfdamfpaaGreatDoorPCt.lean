/- Generated: the functions as contracts for their callers. -/
import Derived.Test.YtameompfdamfpaaGreatDoorPSh
import Derived.Test.YtameompfdamfpaaGreatDoorProg
set_option linter.unusedVariables false
set_option linter.unusedSimpArgs false
namespace Go.Proofs.YtameompfdamfpaaGreatDoor.P1
open Go.Am
def sel0 (args:List AV) (objs:List Ob):Option (List Dt):=match args,objs with
 | [.dat T0 x0],[]=>bif Nat.beq T0 22 then some x0.toLst else none
 |_,_=>none
theorem sel0_ok {args:List AV} {objs:List Ob} {l:List Dt} (h:sel0 args objs=some l):CnA Tryz.prog args [(.dat 22 (.lst l))]∧CnOL Tryz.prog objs []:=by
 unfold sel0 at h
 split at h
 ·obtain⟨hc,h2⟩:=bif_some h
  cases h2
  have e0:=beq_eq hc
  subst e0
  exact⟨(.cons (.of (.dat (.lst Tryz.underlying22)) rfl rfl) .nil),.nil⟩
 ·cases h
def sel1 (args:List AV) (objs:List Ob):Option ByteArray:=match args,objs with
 | [.dat T0 x0],[]=>bif Nat.beq T0 9 then some x0.toStr else none
 |_,_=>none
theorem sel1_ok {args:List AV} {objs:List Ob} {l:ByteArray} (h:sel1 args objs=some l):CnA Tryz.prog args [(.dat 9 (.str l))]∧CnOL Tryz.prog objs []:=by
 unfold sel1 at h
 split at h
 ·obtain⟨hc,h2⟩:=bif_some h
  cases h2
  have e0:=beq_eq hc
  subst e0
  exact⟨(.cons (.of (.dat (.str Tryz.underlying9)) rfl rfl) .nil),.nil⟩
 ·cases h
def sel2 (args:List AV) (objs:List Ob):Option (List Dt×ByteArray):=match args,objs with
 | [.dat T0 x0,.dat T1 x1],[]=>bif (Nat.beq T0 31&&Nat.beq T1 9) then some (x0.toLst,x1.toStr) else none
 |_,_=>none
theorem sel2_ok {args:List AV} {objs:List Ob} {l:List Dt×ByteArray} (h:sel2 args objs=some l):CnA Tryz.prog args [(.dat 31 (.lst l.1)),(.dat 9 (.str l.2))]∧CnOL Tryz.prog objs []:=by
 unfold sel2 at h
 split at h
 ·obtain⟨hc,h2⟩:=bif_some h
  cases h2
  have e0:=beq_eq (and_l hc)
  have e1:=beq_eq (and_r hc)
  subst e0 e1
  exact⟨(.cons (.of (.dat (.lst Tryz.underlying31)) rfl rfl) (.cons (.of (.dat (.str Tryz.underlying9)) rfl rfl) .nil)),.nil⟩
 ·cases h
def sel3 (args:List AV) (objs:List Ob):Option (List Dt):=match args,objs with
 | [.dat T0 x0,.fn T1 []],[]=>bif (Nat.beq T0 22&&Nat.beq T1 182) then some x0.toLst else none
 |_,_=>none
theorem sel3_ok {args:List AV} {objs:List Ob} {l:List Dt} (h:sel3 args objs=some l):CnA Tryz.prog args [(.dat 22 (.lst l)),(.fn 182 [])]∧CnOL Tryz.prog objs []:=by
 unfold sel3 at h
 split at h
 ·obtain⟨hc,h2⟩:=bif_some h
  cases h2
  have e0:=beq_eq (and_l hc)
  have e1:=beq_eq (and_r hc)
  subst e0 e1
  exact⟨(.cons (.of (.dat (.lst Tryz.underlying22)) rfl rfl) (.cons (.of (.fn .nil) rfl rfl) .nil)),.nil⟩
 ·cases h
noncomputable def ct141 {R:Type} (m:Nat) (args:List AV) (objs:List Ob) (K:Res→Option R):Option R:=match sel0 args objs with
 |some l=>(path_Valid m l).bind fun r=>K ((.dat 4 (.bool r)),[])
 |none=>none
noncomputable def ct139 {R:Type} (m:Nat) (args:List AV) (objs:List Ob) (K:Res→Option R):Option R:=match sel1 args objs with
 |some l=>(path_Number m l).bind fun r=>K ((.tup [(.dat 3 (.int r.1)),(.dat 4 (.bool r.2))]),[])
 |none=>none
noncomputable def ct138 {R:Type} (m:Nat) (args:List AV) (objs:List Ob) (K:Res→Option R):Option R:=match sel2 args objs with
 |some l=>(path_field m l.1 l.2).bind fun r=>K ((.dat 3 (.int r)),[])
 |none=>none
noncomputable def ct181 {R:Type} (m:Nat) (args:List AV) (objs:List Ob) (K:Res→Option R):Option R:=match sel3 args objs with
 |some l=>(i3 m l).bind fun r=>K ((.dat 4 (.bool r)),[])
 |none=>none
noncomputable def ct228 {R:Type} (m:Nat) (args:List AV) (objs:List Ob) (K:Res→Option R):Option R:=match sel3 args objs with
 |some l=>(i4 m l).bind fun r=>K ((.dat 3 (.int r)),[])
 |none=>none
noncomputable def ct182 {R:Type} (m:Nat) (args:List AV) (objs:List Ob) (K:Res→Option R):Option R:=match sel1 args objs with
 |some l=>(path_notName m l).bind fun r=>K ((.dat 4 (.bool r)),[])
 |none=>none
noncomputable def d1 (q:Res):Option (Int×Bool):=match q with
 |(.tup [.dat T0 x0,.dat T1 x1],[])=>bif (Nat.beq T0 3&&Nat.beq T1 4) then some (x0.toInt,x1.toBool) else none
 |_=>none
theorem d1_sim {b:Res} {r:Int×Bool} (h:d1 b=some r):Sim Tryz.prog b ((.tup [(.dat 3 (.int r.1)),(.dat 4 (.bool r.2))]),[]):=by
 unfold d1 at h
 split at h
 ·obtain⟨hc,h2⟩:=bif_some h
  cases h2
  have e0:=beq_eq (and_l hc)
  have e1:=beq_eq (and_r hc)
  subst e0 e1
  exact Sim.of (.tup (.cons (.dat (.int Tryz.underlying3)) (.cons (.dat (.bool Tryz.underlying4)) .nil))) .nil
 ·cases h
noncomputable def d2 (q:Res):Option Int:=match q with
 |(.dat T0 x0,[])=>bif Nat.beq T0 3 then some x0.toInt else none
 |_=>none
theorem d2_sim {b:Res} {r:Int} (h:d2 b=some r):Sim Tryz.prog b ((.dat 3 (.int r)),[]):=by
 unfold d2 at h
 split at h
 ·obtain⟨hc,h2⟩:=bif_some h
  cases h2
  have e0:=beq_eq hc
  subst e0
  exact Sim.of (.of (.dat (.int Tryz.underlying3)) rfl rfl) .nil
 ·cases h
noncomputable def d5 (q:Res):Option Bool:=match q with
 |(.dat T0 x0,[])=>bif Nat.beq T0 4 then some x0.toBool else none
 |_=>none
theorem d5_sim {b:Res} {r:Bool} (h:d5 b=some r):Sim Tryz.prog b ((.dat 4 (.bool r)),[]):=by
 unfold d5 at h
 split at h
 ·obtain⟨hc,h2⟩:=bif_some h
  cases h2
  have e0:=beq_eq hc
  subst e0
  exact Sim.of (.of (.dat (.bool Tryz.underlying4)) rfl rfl) .nil
 ·cases h
noncomputable def ct {R:Type} (m:Nat) (f:FuncId) (args:List AV) (objs:List Ob) (K:Res→Option R):Option R:=
 bif Nat.beq f 141 then ct141 m args objs K else
 bif Nat.beq f 139 then ct139 m args objs K else
 bif Nat.beq f 138 then ct138 m args objs K else
 bif Nat.beq f 181 then ct181 m args objs K else
 bif Nat.beq f 228 then ct228 m args objs K else
 bif Nat.beq f 182 then ct182 m args objs K else
 none
end Go.Proofs.YtameompfdamfpaaGreatDoor.P1
