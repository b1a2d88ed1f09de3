/- Generated: the functions as contracts for their callers. -/
import Derived.Test.YtameompfdamfpaaGreatDoorSh
import Derived.Test.YtameompfdamfpaaGreatDoorProg
set_option linter.unusedVariables false
set_option linter.unusedSimpArgs false
namespace Go.Proofs.YtameompfdamfpaaGreatDoor
open Go.Am
def sel0 (args:List AV) (objs:List Ob):Option (List Dt×ByteArray×Bool×List Dt):=match args,objs with
 | [.dat T0 x0,.dat T1 x1,.dat T2 x2,.dat T3 x3],[]=>bif (Nat.beq T0 22&&(Nat.beq T1 9&&(Nat.beq T2 4&&Nat.beq T3 23))) then some (x0.toLst,x1.toStr,x2.toBool,x3.toLst) else none
 |_,_=>none
theorem sel0_ok {args:List AV} {objs:List Ob} {l:List Dt×ByteArray×Bool×List Dt} (h:sel0 args objs=some l):CnA Tryz.prog args [(.dat 22 (.lst l.1)),(.dat 9 (.str l.2.1)),(.dat 4 (.bool l.2.2.1)),(.dat 23 (.lst l.2.2.2))]∧CnOL Tryz.prog objs []:=by
 unfold sel0 at h
 split at h
 ·obtain⟨hc,h2⟩:=bif_some h
  cases h2
  have e0:=beq_eq (and_l hc)
  have e1:=beq_eq (and_l (and_r hc))
  have e2:=beq_eq (and_l (and_r (and_r hc)))
  have e3:=beq_eq (and_r (and_r (and_r hc)))
  subst e0 e1 e2 e3
  exact⟨(.cons (.of (.dat (.lst Tryz.underlying22)) rfl rfl) (.cons (.of (.dat (.str Tryz.underlying9)) rfl rfl) (.cons (.of (.dat (.bool Tryz.underlying4)) rfl rfl) (.cons (.of (.dat (.lst Tryz.underlying23)) rfl rfl) .nil)))),.nil⟩
 ·cases h
def sel1 (args:List AV) (objs:List Ob):Option (List Dt):=match args,objs with
 | [.dat T0 x0],[]=>bif Nat.beq T0 23 then some x0.toLst else none
 |_,_=>none
theorem sel1_ok {args:List AV} {objs:List Ob} {l:List Dt} (h:sel1 args objs=some l):CnA Tryz.prog args [(.dat 23 (.lst l))]∧CnOL Tryz.prog objs []:=by
 unfold sel1 at h
 split at h
 ·obtain⟨hc,h2⟩:=bif_some h
  cases h2
  have e0:=beq_eq hc
  subst e0
  exact⟨(.cons (.of (.dat (.lst Tryz.underlying23)) rfl rfl) .nil),.nil⟩
 ·cases h
def sel2 (args:List AV) (objs:List Ob):Option Unit:=match args,objs with
 | [],[]=>bif true then some () else none
 |_,_=>none
theorem sel2_ok {args:List AV} {objs:List Ob} {l:Unit} (h:sel2 args objs=some l):CnA Tryz.prog args []∧CnOL Tryz.prog objs []:=by
 unfold sel2 at h
 split at h
 ·obtain⟨hc,h2⟩:=bif_some h
  cases h2
  exact⟨.nil,.nil⟩
 ·cases h
def sel5 (args:List AV) (objs:List Ob):Option (List Dt×List Dt):=match args,objs with
 | [.dat T0 x0,.dat T1 x1],[]=>bif (Nat.beq T0 23&&Nat.beq T1 23) then some (x0.toLst,x1.toLst) else none
 |_,_=>none
theorem sel5_ok {args:List AV} {objs:List Ob} {l:List Dt×List Dt} (h:sel5 args objs=some l):CnA Tryz.prog args [(.dat 23 (.lst l.1)),(.dat 23 (.lst l.2))]∧CnOL Tryz.prog objs []:=by
 unfold sel5 at h
 split at h
 ·obtain⟨hc,h2⟩:=bif_some h
  cases h2
  have e0:=beq_eq (and_l hc)
  have e1:=beq_eq (and_r hc)
  subst e0 e1
  exact⟨(.cons (.of (.dat (.lst Tryz.underlying23)) rfl rfl) (.cons (.of (.dat (.lst Tryz.underlying23)) rfl rfl) .nil)),.nil⟩
 ·cases h
def sel6 (args:List AV) (objs:List Ob):Option (List Dt):=match args,objs with
 | [.dat T0 x0],[]=>bif Nat.beq T0 22 then some x0.toLst else none
 |_,_=>none
theorem sel6_ok {args:List AV} {objs:List Ob} {l:List Dt} (h:sel6 args objs=some l):CnA Tryz.prog args [(.dat 22 (.lst l))]∧CnOL Tryz.prog objs []:=by
 unfold sel6 at h
 split at h
 ·obtain⟨hc,h2⟩:=bif_some h
  cases h2
  have e0:=beq_eq hc
  subst e0
  exact⟨(.cons (.of (.dat (.lst Tryz.underlying22)) rfl rfl) .nil),.nil⟩
 ·cases h
def sel7 (args:List AV) (objs:List Ob):Option ByteArray:=match args,objs with
 | [.dat T0 x0],[]=>bif Nat.beq T0 9 then some x0.toStr else none
 |_,_=>none
theorem sel7_ok {args:List AV} {objs:List Ob} {l:ByteArray} (h:sel7 args objs=some l):CnA Tryz.prog args [(.dat 9 (.str l))]∧CnOL Tryz.prog objs []:=by
 unfold sel7 at h
 split at h
 ·obtain⟨hc,h2⟩:=bif_some h
  cases h2
  have e0:=beq_eq hc
  subst e0
  exact⟨(.cons (.of (.dat (.str Tryz.underlying9)) rfl rfl) .nil),.nil⟩
 ·cases h
def sel8 (args:List AV) (objs:List Ob):Option (List Dt):=match args,objs with
 | [.dat T0 x0,.fn T1 []],[]=>bif (Nat.beq T0 23&&Nat.beq T1 41) then some x0.toLst else none
 |_,_=>none
theorem sel8_ok {args:List AV} {objs:List Ob} {l:List Dt} (h:sel8 args objs=some l):CnA Tryz.prog args [(.dat 23 (.lst l)),(.fn 41 [])]∧CnOL Tryz.prog objs []:=by
 unfold sel8 at h
 split at h
 ·obtain⟨hc,h2⟩:=bif_some h
  cases h2
  have e0:=beq_eq (and_l hc)
  have e1:=beq_eq (and_r hc)
  subst e0 e1
  exact⟨(.cons (.of (.dat (.lst Tryz.underlying23)) rfl rfl) (.cons (.of (.fn .nil) rfl rfl) .nil)),.nil⟩
 ·cases h
def sel10 (args:List AV) (objs:List Ob):Option Dt:=match args,objs with
 | [.dat T0 x0],[]=>bif Nat.beq T0 33 then some x0 else none
 |_,_=>none
theorem sel10_ok {args:List AV} {objs:List Ob} {l:Dt} (h:sel10 args objs=some l):CnA Tryz.prog args [(.dat 33 l)]∧CnOL Tryz.prog objs []:=by
 unfold sel10 at h
 split at h
 ·obtain⟨hc,h2⟩:=bif_some h
  cases h2
  have e0:=beq_eq hc
  subst e0
  exact⟨(.cons (.of .same rfl rfl) .nil),.nil⟩
 ·cases h
def sel11 (args:List AV) (objs:List Ob):Option (List Dt×ByteArray×Bool×Dt):=match args,objs with
 | [.dat T0 x0,.dat T1 x1,.dat T2 x2,.dat T3 x3],[]=>bif (Nat.beq T0 22&&(Nat.beq T1 9&&(Nat.beq T2 4&&Nat.beq T3 33))) then some (x0.toLst,x1.toStr,x2.toBool,x3) else none
 |_,_=>none
theorem sel11_ok {args:List AV} {objs:List Ob} {l:List Dt×ByteArray×Bool×Dt} (h:sel11 args objs=some l):CnA Tryz.prog args [(.dat 22 (.lst l.1)),(.dat 9 (.str l.2.1)),(.dat 4 (.bool l.2.2.1)),(.dat 33 l.2.2.2)]∧CnOL Tryz.prog objs []:=by
 unfold sel11 at h
 split at h
 ·obtain⟨hc,h2⟩:=bif_some h
  cases h2
  have e0:=beq_eq (and_l hc)
  have e1:=beq_eq (and_l (and_r hc))
  have e2:=beq_eq (and_l (and_r (and_r hc)))
  have e3:=beq_eq (and_r (and_r (and_r hc)))
  subst e0 e1 e2 e3
  exact⟨(.cons (.of (.dat (.lst Tryz.underlying22)) rfl rfl) (.cons (.of (.dat (.str Tryz.underlying9)) rfl rfl) (.cons (.of (.dat (.bool Tryz.underlying4)) rfl rfl) (.cons (.of .same rfl rfl) .nil)))),.nil⟩
 ·cases h
def sel12 (args:List AV) (objs:List Ob):Option (Dt×List Dt):=match args,objs with
 | [.dat T0 x0,.dat T1 x1],[]=>bif (Nat.beq T0 33&&Nat.beq T1 22) then some (x0,x1.toLst) else none
 |_,_=>none
theorem sel12_ok {args:List AV} {objs:List Ob} {l:Dt×List Dt} (h:sel12 args objs=some l):CnA Tryz.prog args [(.dat 33 l.1),(.dat 22 (.lst l.2))]∧CnOL Tryz.prog objs []:=by
 unfold sel12 at h
 split at h
 ·obtain⟨hc,h2⟩:=bif_some h
  cases h2
  have e0:=beq_eq (and_l hc)
  have e1:=beq_eq (and_r hc)
  subst e0 e1
  exact⟨(.cons (.of .same rfl rfl) (.cons (.of (.dat (.lst Tryz.underlying22)) rfl rfl) .nil)),.nil⟩
 ·cases h
def sel13 (args:List AV) (objs:List Ob):Option (Dt×List Dt×Dt):=match args,objs with
 | [.dat T0 x0,.dat T1 x1,.dat T2 x2],[]=>bif (Nat.beq T0 33&&(Nat.beq T1 22&&Nat.beq T2 33)) then some (x0,x1.toLst,x2) else none
 |_,_=>none
theorem sel13_ok {args:List AV} {objs:List Ob} {l:Dt×List Dt×Dt} (h:sel13 args objs=some l):CnA Tryz.prog args [(.dat 33 l.1),(.dat 22 (.lst l.2.1)),(.dat 33 l.2.2)]∧CnOL Tryz.prog objs []:=by
 unfold sel13 at h
 split at h
 ·obtain⟨hc,h2⟩:=bif_some h
  cases h2
  have e0:=beq_eq (and_l hc)
  have e1:=beq_eq (and_l (and_r hc))
  have e2:=beq_eq (and_r (and_r hc))
  subst e0 e1 e2
  exact⟨(.cons (.of .same rfl rfl) (.cons (.of (.dat (.lst Tryz.underlying22)) rfl rfl) (.cons (.of .same rfl rfl) .nil))),.nil⟩
 ·cases h
def sel14 (args:List AV) (objs:List Ob):Option Int:=match args,objs with
 | [.dat T0 x0],[]=>bif Nat.beq T0 3 then some x0.toInt else none
 |_,_=>none
theorem sel14_ok {args:List AV} {objs:List Ob} {l:Int} (h:sel14 args objs=some l):CnA Tryz.prog args [(.dat 3 (.int l))]∧CnOL Tryz.prog objs []:=by
 unfold sel14 at h
 split at h
 ·obtain⟨hc,h2⟩:=bif_some h
  cases h2
  have e0:=beq_eq hc
  subst e0
  exact⟨(.cons (.of (.dat (.int Tryz.underlying3)) rfl rfl) .nil),.nil⟩
 ·cases h
def sel15 (args:List AV) (objs:List Ob):Option (Dt×ByteArray×Dt):=match args,objs with
 | [.dat T0 x0,.dat T1 x1,.dat T2 x2],[]=>bif (Nat.beq T0 33&&(Nat.beq T1 9&&Nat.beq T2 33)) then some (x0,x1.toStr,x2) else none
 |_,_=>none
theorem sel15_ok {args:List AV} {objs:List Ob} {l:Dt×ByteArray×Dt} (h:sel15 args objs=some l):CnA Tryz.prog args [(.dat 33 l.1),(.dat 9 (.str l.2.1)),(.dat 33 l.2.2)]∧CnOL Tryz.prog objs []:=by
 unfold sel15 at h
 split at h
 ·obtain⟨hc,h2⟩:=bif_some h
  cases h2
  have e0:=beq_eq (and_l hc)
  have e1:=beq_eq (and_l (and_r hc))
  have e2:=beq_eq (and_r (and_r hc))
  subst e0 e1 e2
  exact⟨(.cons (.of .same rfl rfl) (.cons (.of (.dat (.str Tryz.underlying9)) rfl rfl) (.cons (.of .same rfl rfl) .nil))),.nil⟩
 ·cases h
def sel18 (args:List AV) (objs:List Ob):Option (Dt×Dt):=match args,objs with
 | [.dat T0 x0,.dat T1 x1],[]=>bif (Nat.beq T0 33&&Nat.beq T1 33) then some (x0,x1) else none
 |_,_=>none
theorem sel18_ok {args:List AV} {objs:List Ob} {l:Dt×Dt} (h:sel18 args objs=some l):CnA Tryz.prog args [(.dat 33 l.1),(.dat 33 l.2)]∧CnOL Tryz.prog objs []:=by
 unfold sel18 at h
 split at h
 ·obtain⟨hc,h2⟩:=bif_some h
  cases h2
  have e0:=beq_eq (and_l hc)
  have e1:=beq_eq (and_r hc)
  subst e0 e1
  exact⟨(.cons (.of .same rfl rfl) (.cons (.of .same rfl rfl) .nil)),.nil⟩
 ·cases h
def sel27 (args:List AV) (objs:List Ob):Option (Dt×ByteArray):=match args,objs with
 | [.dat T0 x0,.dat T1 x1],[]=>bif (Nat.beq T0 33&&Nat.beq T1 9) then some (x0,x1.toStr) else none
 |_,_=>none
theorem sel27_ok {args:List AV} {objs:List Ob} {l:Dt×ByteArray} (h:sel27 args objs=some l):CnA Tryz.prog args [(.dat 33 l.1),(.dat 9 (.str l.2))]∧CnOL Tryz.prog objs []:=by
 unfold sel27 at h
 split at h
 ·obtain⟨hc,h2⟩:=bif_some h
  cases h2
  have e0:=beq_eq (and_l hc)
  have e1:=beq_eq (and_r hc)
  subst e0 e1
  exact⟨(.cons (.of .same rfl rfl) (.cons (.of (.dat (.str Tryz.underlying9)) rfl rfl) .nil)),.nil⟩
 ·cases h
def sel35 (args:List AV) (objs:List Ob):Option (Dt×Bool):=match args,objs with
 | [.dat T0 x0,.dat T1 x1],[]=>bif (Nat.beq T0 33&&Nat.beq T1 4) then some (x0,x1.toBool) else none
 |_,_=>none
theorem sel35_ok {args:List AV} {objs:List Ob} {l:Dt×Bool} (h:sel35 args objs=some l):CnA Tryz.prog args [(.dat 33 l.1),(.dat 4 (.bool l.2))]∧CnOL Tryz.prog objs []:=by
 unfold sel35 at h
 split at h
 ·obtain⟨hc,h2⟩:=bif_some h
  cases h2
  have e0:=beq_eq (and_l hc)
  have e1:=beq_eq (and_r hc)
  subst e0 e1
  exact⟨(.cons (.of .same rfl rfl) (.cons (.of (.dat (.bool Tryz.underlying4)) rfl rfl) .nil)),.nil⟩
 ·cases h
def sel36 (args:List AV) (objs:List Ob):Option (List Dt×ByteArray):=match args,objs with
 | [.dat T0 x0,.dat T1 x1],[]=>bif (Nat.beq T0 31&&Nat.beq T1 9) then some (x0.toLst,x1.toStr) else none
 |_,_=>none
theorem sel36_ok {args:List AV} {objs:List Ob} {l:List Dt×ByteArray} (h:sel36 args objs=some l):CnA Tryz.prog args [(.dat 31 (.lst l.1)),(.dat 9 (.str l.2))]∧CnOL Tryz.prog objs []:=by
 unfold sel36 at h
 split at h
 ·obtain⟨hc,h2⟩:=bif_some h
  cases h2
  have e0:=beq_eq (and_l hc)
  have e1:=beq_eq (and_r hc)
  subst e0 e1
  exact⟨(.cons (.of (.dat (.lst Tryz.underlying31)) rfl rfl) (.cons (.of (.dat (.str Tryz.underlying9)) rfl rfl) .nil)),.nil⟩
 ·cases h
def sel41 (args:List AV) (objs:List Ob):Option (List Dt×Dt):=match args,objs with
 | [.dat T0 x0,.dat T1 x1],[]=>bif (Nat.beq T0 22&&Nat.beq T1 33) then some (x0.toLst,x1) else none
 |_,_=>none
theorem sel41_ok {args:List AV} {objs:List Ob} {l:List Dt×Dt} (h:sel41 args objs=some l):CnA Tryz.prog args [(.dat 22 (.lst l.1)),(.dat 33 l.2)]∧CnOL Tryz.prog objs []:=by
 unfold sel41 at h
 split at h
 ·obtain⟨hc,h2⟩:=bif_some h
  cases h2
  have e0:=beq_eq (and_l hc)
  have e1:=beq_eq (and_r hc)
  subst e0 e1
  exact⟨(.cons (.of (.dat (.lst Tryz.underlying22)) rfl rfl) (.cons (.of .same rfl rfl) .nil)),.nil⟩
 ·cases h
def sel42 (args:List AV) (objs:List Ob):Option (Dt×Int):=match args,objs with
 | [.dat T0 x0,.dat T1 x1],[]=>bif (Nat.beq T0 33&&Nat.beq T1 3) then some (x0,x1.toInt) else none
 |_,_=>none
theorem sel42_ok {args:List AV} {objs:List Ob} {l:Dt×Int} (h:sel42 args objs=some l):CnA Tryz.prog args [(.dat 33 l.1),(.dat 3 (.int l.2))]∧CnOL Tryz.prog objs []:=by
 unfold sel42 at h
 split at h
 ·obtain⟨hc,h2⟩:=bif_some h
  cases h2
  have e0:=beq_eq (and_l hc)
  have e1:=beq_eq (and_r hc)
  subst e0 e1
  exact⟨(.cons (.of .same rfl rfl) (.cons (.of (.dat (.int Tryz.underlying3)) rfl rfl) .nil)),.nil⟩
 ·cases h
def sel49 (args:List AV) (objs:List Ob):Option (ByteArray×Int×Int):=match args,objs with
 | [.dat T0 x0,.dat T1 x1,.dat T2 x2],[]=>bif (Nat.beq T0 9&&(Nat.beq T1 3&&Nat.beq T2 3)) then some (x0.toStr,x1.toInt,x2.toInt) else none
 |_,_=>none
theorem sel49_ok {args:List AV} {objs:List Ob} {l:ByteArray×Int×Int} (h:sel49 args objs=some l):CnA Tryz.prog args [(.dat 9 (.str l.1)),(.dat 3 (.int l.2.1)),(.dat 3 (.int l.2.2))]∧CnOL Tryz.prog objs []:=by
 unfold sel49 at h
 split at h
 ·obtain⟨hc,h2⟩:=bif_some h
  cases h2
  have e0:=beq_eq (and_l hc)
  have e1:=beq_eq (and_l (and_r hc))
  have e2:=beq_eq (and_r (and_r hc))
  subst e0 e1 e2
  exact⟨(.cons (.of (.dat (.str Tryz.underlying9)) rfl rfl) (.cons (.of (.dat (.int Tryz.underlying3)) rfl rfl) (.cons (.of (.dat (.int Tryz.underlying3)) rfl rfl) .nil))),.nil⟩
 ·cases h
noncomputable def ct3 {R:Type} (m:Nat) (args:List AV) (objs:List Ob) (K:Res→Option R):Option R:=match sel0 args objs with
 |some l=>(law36_ReshapeUnwind m l.1 l.2.1 l.2.2.1 l.2.2.2).bind fun r=>K ((.dat 4 (.bool r)),[])
 |none=>none
noncomputable def ct10 {R:Type} (m:Nat) (args:List AV) (objs:List Ob) (K:Res→Option R):Option R:=match sel1 args objs with
 |some l=>(law36_valid m l).bind fun r=>K ((.dat 4 (.bool r)),[])
 |none=>none
noncomputable def ct13 {R:Type} (m:Nat) (args:List AV) (objs:List Ob) (K:Res→Option R):Option R:=match sel2 args objs with
 |some l=>(awakeC).bind fun r=>K ((.dat 4 (.bool r)),[])
 |none=>none
noncomputable def ct15 {R:Type} (m:Nat) (args:List AV) (objs:List Ob) (K:Res→Option R):Option R:=match sel0 args objs with
 |some l=>(reshape_Unwind m l.1 l.2.1 l.2.2.1 l.2.2.2).bind fun r=>K ((.dat 23 (.lst r)),[])
 |none=>none
noncomputable def ct16 {R:Type} (m:Nat) (args:List AV) (objs:List Ob) (K:Res→Option R):Option R:=match sel0 args objs with
 |some l=>(ref36_Unwind m l.1 l.2.1 l.2.2.1 l.2.2.2).bind fun r=>K ((.dat 23 (.lst r)),[])
 |none=>none
noncomputable def ct14 {R:Type} (m:Nat) (args:List AV) (objs:List Ob) (K:Res→Option R):Option R:=match sel5 args objs with
 |some l=>(law03_SameList m l.1 l.2).bind fun r=>K ((.dat 4 (.bool r)),[])
 |none=>none
noncomputable def ct11 {R:Type} (m:Nat) (args:List AV) (objs:List Ob) (K:Res→Option R):Option R:=match sel6 args objs with
 |some l=>(ref04_Valid m l).bind fun r=>K ((.dat 4 (.bool r)),[])
 |none=>none
noncomputable def ct12 {R:Type} (m:Nat) (args:List AV) (objs:List Ob) (K:Res→Option R):Option R:=match sel7 args objs with
 |some l=>(law36_named m l).bind fun r=>K ((.dat 4 (.bool r)),[])
 |none=>none
noncomputable def ct22 {R:Type} (m:Nat) (args:List AV) (objs:List Ob) (K:Res→Option R):Option R:=match sel8 args objs with
 |some l=>(i8 m l).bind fun r=>K ((.dat 4 (.bool r)),[])
 |none=>none
noncomputable def ct67 {R:Type} (m:Nat) (args:List AV) (objs:List Ob) (K:Res→Option R):Option R:=match sel8 args objs with
 |some l=>(i9 m l).bind fun r=>K ((.dat 3 (.int r)),[])
 |none=>none
noncomputable def ct41 {R:Type} (m:Nat) (args:List AV) (objs:List Ob) (K:Res→Option R):Option R:=match sel10 args objs with
 |some l=>(law36_valid_1 m l).bind fun r=>K ((.dat 4 (.bool r)),[])
 |none=>none
noncomputable def ct47 {R:Type} (m:Nat) (args:List AV) (objs:List Ob) (K:Res→Option R):Option R:=match sel11 args objs with
 |some l=>(reshape_unwind m l.1 l.2.1 l.2.2.1 l.2.2.2).bind fun r=>K ((.dat 23 (.lst r)),[])
 |none=>none
noncomputable def ct48 {R:Type} (m:Nat) (args:List AV) (objs:List Ob) (K:Res→Option R):Option R:=match sel12 args objs with
 |some l=>(ref04_Get m l.1 l.2).bind fun r=>K ((.dat 33 r),[])
 |none=>none
noncomputable def ct49 {R:Type} (m:Nat) (args:List AV) (objs:List Ob) (K:Res→Option R):Option R:=match sel13 args objs with
 |some l=>(ref04_Put m l.1 l.2.1 l.2.2).bind fun r=>K ((.tup [(.dat 33 r.1),(.dat 37 (.int r.2))]),[])
 |none=>none
noncomputable def ct51 {R:Type} (m:Nat) (args:List AV) (objs:List Ob) (K:Res→Option R):Option R:=match sel14 args objs with
 |some l=>(ref36_integer m l).bind fun r=>K ((.dat 33 r),[])
 |none=>none
noncomputable def ct50 {R:Type} (m:Nat) (args:List AV) (objs:List Ob) (K:Res→Option R):Option R:=match sel15 args objs with
 |some l=>(ref36_with m l.1 l.2.1 l.2.2).bind fun r=>K ((.dat 33 r),[])
 |none=>none
noncomputable def ct52 {R:Type} (m:Nat) (args:List AV) (objs:List Ob) (K:Res→Option R):Option R:=match sel12 args objs with
 |some l=>(ref04_Drop m l.1 l.2).bind fun r=>K ((.dat 33 r),[])
 |none=>none
noncomputable def ct53 {R:Type} (m:Nat) (args:List AV) (objs:List Ob) (K:Res→Option R):Option R:=match sel2 args objs with
 |some l=>(ref36_null m).bind fun r=>K ((.dat 33 r),[])
 |none=>none
noncomputable def ct46 {R:Type} (m:Nat) (args:List AV) (objs:List Ob) (K:Res→Option R):Option R:=match sel18 args objs with
 |some l=>(law03_Same m l.1 l.2).bind fun r=>K ((.dat 4 (.bool r)),[])
 |none=>none
noncomputable def ct42 {R:Type} (m:Nat) (args:List AV) (objs:List Ob) (K:Res→Option R):Option R:=match sel7 args objs with
 |some l=>(ref01_Name m l).bind fun r=>K ((.dat 4 (.bool r)),[])
 |none=>none
noncomputable def ct24 {R:Type} (m:Nat) (args:List AV) (objs:List Ob) (K:Res→Option R):Option R:=match sel10 args objs with
 |some l=>(ref01_Valid m l).bind fun r=>K ((.dat 4 (.bool r)),[])
 |none=>none
noncomputable def ct94 {R:Type} (m:Nat) (args:List AV) (objs:List Ob) (K:Res→Option R):Option R:=match sel12 args objs with
 |some l=>(path_Get m l.1 l.2).bind fun r=>K ((.dat 33 r),[])
 |none=>none
noncomputable def ct95 {R:Type} (m:Nat) (args:List AV) (objs:List Ob) (K:Res→Option R):Option R:=match sel13 args objs with
 |some l=>(path_PutC l.1 l.2.1 l.2.2).bind fun r=>K ((.tup [(.dat 33 r.1),(.dat 37 (.int r.2))]),[])
 |none=>none
noncomputable def ct62 {R:Type} (m:Nat) (args:List AV) (objs:List Ob) (K:Res→Option R):Option R:=match sel14 args objs with
 |some l=>(reshape_integer m l).bind fun r=>K ((.dat 33 r),[])
 |none=>none
noncomputable def ct77 {R:Type} (m:Nat) (args:List AV) (objs:List Ob) (K:Res→Option R):Option R:=match sel15 args objs with
 |some l=>(reshape_named m l.1 l.2.1 l.2.2).bind fun r=>K ((.dat 33 r),[])
 |none=>none
noncomputable def ct72 {R:Type} (m:Nat) (args:List AV) (objs:List Ob) (K:Res→Option R):Option R:=match sel10 args objs with
 |some l=>(reshape_copyValue m l).bind fun r=>K ((.dat 33 r),[])
 |none=>none
noncomputable def ct96 {R:Type} (m:Nat) (args:List AV) (objs:List Ob) (K:Res→Option R):Option R:=match sel12 args objs with
 |some l=>(path_DropC l.1 l.2).bind fun r=>K ((.dat 33 r),[])
 |none=>none
noncomputable def ct31 {R:Type} (m:Nat) (args:List AV) (objs:List Ob) (K:Res→Option R):Option R:=match sel27 args objs with
 |some l=>(ref01_Get m l.1 l.2).bind fun r=>K ((.tup [(.dat 33 r.1),(.dat 4 (.bool r.2))]),[])
 |none=>none
noncomputable def ct97 {R:Type} (m:Nat) (args:List AV) (objs:List Ob) (K:Res→Option R):Option R:=match sel7 args objs with
 |some l=>(ref04_Number m l).bind fun r=>K ((.tup [(.dat 3 (.int r.1)),(.dat 4 (.bool r.2))]),[])
 |none=>none
noncomputable def ct98 {R:Type} (m:Nat) (args:List AV) (objs:List Ob) (K:Res→Option R):Option R:=match sel13 args objs with
 |some l=>(ref04_put m l.1 l.2.1 l.2.2).bind fun r=>K ((.tup [(.dat 33 r.1),(.dat 4 (.bool r.2))]),[])
 |none=>none
noncomputable def ct99 {R:Type} (m:Nat) (args:List AV) (objs:List Ob) (K:Res→Option R):Option R:=match sel15 args objs with
 |some l=>(ref01_Set m l.1 l.2.1 l.2.2).bind fun r=>K ((.dat 33 r),[])
 |none=>none
noncomputable def ct100 {R:Type} (m:Nat) (args:List AV) (objs:List Ob) (K:Res→Option R):Option R:=match sel27 args objs with
 |some l=>(ref01_Remove m l.1 l.2).bind fun r=>K ((.dat 33 r),[])
 |none=>none
noncomputable def ct101 {R:Type} (m:Nat) (args:List AV) (objs:List Ob) (K:Res→Option R):Option R:=match sel2 args objs with
 |some l=>(ref01_Null m).bind fun r=>K ((.dat 33 r),[])
 |none=>none
noncomputable def ct68 {R:Type} (m:Nat) (args:List AV) (objs:List Ob) (K:Res→Option R):Option R:=match sel10 args objs with
 |some l=>(ref01_Depth m l).bind fun r=>K ((.dat 3 (.int r)),[])
 |none=>none
noncomputable def ct69 {R:Type} (m:Nat) (args:List AV) (objs:List Ob) (K:Res→Option R):Option R:=match sel10 args objs with
 |some l=>(ref01_Nodes m l).bind fun r=>K ((.dat 3 (.int r)),[])
 |none=>none
noncomputable def ct70 {R:Type} (m:Nat) (args:List AV) (objs:List Ob) (K:Res→Option R):Option R:=match sel35 args objs with
 |some l=>(ref01_formed m l.1 l.2).bind fun r=>K ((.dat 4 (.bool r)),[])
 |none=>none
noncomputable def ct138 {R:Type} (m:Nat) (args:List AV) (objs:List Ob) (K:Res→Option R):Option R:=match sel36 args objs with
 |some l=>(path_field m l.1 l.2).bind fun r=>K ((.dat 3 (.int r)),[])
 |none=>none
noncomputable def ct139 {R:Type} (m:Nat) (args:List AV) (objs:List Ob) (K:Res→Option R):Option R:=match sel7 args objs with
 |some l=>(path_Number m l).bind fun r=>K ((.tup [(.dat 3 (.int r.1)),(.dat 4 (.bool r.2))]),[])
 |none=>none
noncomputable def ct140 {R:Type} (m:Nat) (args:List AV) (objs:List Ob) (K:Res→Option R):Option R:=match sel10 args objs with
 |some l=>(path_clone m l).bind fun r=>K ((.agg 33 [(.dat 3 (.int r.1)),(.dat 3 (.int r.2.1)),(.dat 9 (.str r.2.2.1)),(.row 0),(.row 1)]),[(.row 23 r.2.2.2.1),(.row 31 r.2.2.2.2)])
 |none=>none
noncomputable def ct123 {R:Type} (m:Nat) (args:List AV) (objs:List Ob) (K:Res→Option R):Option R:=match sel15 args objs with
 |some l=>(value_Set m l.1 l.2.1 l.2.2).bind fun r=>K ((.dat 33 r),[])
 |none=>none
noncomputable def ct82 {R:Type} (m:Nat) (args:List AV) (objs:List Ob) (K:Res→Option R):Option R:=match sel27 args objs with
 |some l=>(ref01_at m l.1 l.2).bind fun r=>K ((.dat 3 (.int r)),[])
 |none=>none
noncomputable def ct144 {R:Type} (m:Nat) (args:List AV) (objs:List Ob) (K:Res→Option R):Option R:=match sel41 args objs with
 |some l=>(ref04_fresh m l.1 l.2).bind fun r=>K ((.dat 33 r),[])
 |none=>none
noncomputable def ct112 {R:Type} (m:Nat) (args:List AV) (objs:List Ob) (K:Res→Option R):Option R:=match sel42 args objs with
 |some l=>(ref01_levels m l.1 l.2).bind fun r=>K ((.dat 3 (.int r)),[])
 |none=>none
noncomputable def ct113 {R:Type} (m:Nat) (args:List AV) (objs:List Ob) (K:Res→Option R):Option R:=match sel42 args objs with
 |some l=>(ref01_count m l.1 l.2).bind fun r=>K ((.dat 3 (.int r)),[])
 |none=>none
noncomputable def ct114 {R:Type} (m:Nat) (args:List AV) (objs:List Ob) (K:Res→Option R):Option R:=match sel7 args objs with
 |some l=>(ref01_UTF8 m l).bind fun r=>K ((.dat 4 (.bool r)),[])
 |none=>none
noncomputable def ct115 {R:Type} (m:Nat) (args:List AV) (objs:List Ob) (K:Res→Option R):Option R:=match sel35 args objs with
 |some l=>(ref01_fields m l.1 l.2).bind fun r=>K ((.dat 4 (.bool r)),[])
 |none=>none
noncomputable def ct170 {R:Type} (m:Nat) (args:List AV) (objs:List Ob) (K:Res→Option R):Option R:=match sel10 args objs with
 |some l=>(value_clone m l).bind fun r=>K ((.agg 33 [(.dat 3 (.int r.1)),(.dat 3 (.int r.2.1)),(.dat 9 (.str r.2.2.1)),(.row 0),(.row 1)]),[(.row 23 r.2.2.2.1),(.row 31 r.2.2.2.2)])
 |none=>none
noncomputable def ct171 {R:Type} (m:Nat) (args:List AV) (objs:List Ob) (K:Res→Option R):Option R:=match sel27 args objs with
 |some l=>(value_find m l.1 l.2).bind fun r=>K ((.dat 3 (.int r)),[])
 |none=>none
noncomputable def ct160 {R:Type} (m:Nat) (args:List AV) (objs:List Ob) (K:Res→Option R):Option R:=match sel10 args objs with
 |some l=>(ref01_Parts m l).bind fun r=>K ((.dat 23 (.lst r)),[])
 |none=>none
noncomputable def ct161 {R:Type} (m:Nat) (args:List AV) (objs:List Ob) (K:Res→Option R):Option R:=match sel49 args objs with
 |some l=>(ref01_tail m l.1 l.2.1 l.2.2).bind fun r=>K ((.dat 4 (.bool r)),[])
 |none=>none
noncomputable def ct162 {R:Type} (m:Nat) (args:List AV) (objs:List Ob) (K:Res→Option R):Option R:=match sel7 args objs with
 |some l=>(ref01_wide m l).bind fun r=>K ((.dat 4 (.bool r)),[])
 |none=>none
noncomputable def d5 (q:Res):Option Bool:=match q with
 |(.dat T0 x0,[])=>bif Nat.beq T0 4 then some x0.toBool else none
 |_=>none
theorem d5_sim {b:Res} {r:Bool} (h:d5 b=some r):Sim Tryz.prog b ((.dat 4 (.bool r)),[]):=by
 unfold d5 at h
 split at h
 ·obtain⟨hc,h2⟩:=bif_some h
  cases h2
  have e0:=beq_eq hc
  subst e0
  exact Sim.of (.of (.dat (.bool Tryz.underlying4)) rfl rfl) .nil
 ·cases h
noncomputable def d14 (q:Res):Option Dt:=match q with
 |(.dat T0 x0,[])=>bif Nat.beq T0 33 then some x0 else none
 |_=>none
theorem d14_sim {b:Res} {r:Dt} (h:d14 b=some r):Sim Tryz.prog b ((.dat 33 r),[]):=by
 unfold d14 at h
 split at h
 ·obtain⟨hc,h2⟩:=bif_some h
  cases h2
  have e0:=beq_eq hc
  subst e0
  exact Sim.of (.of .same rfl rfl) .nil
 ·cases h
noncomputable def d28 (q:Res):Option (Int×Bool):=match q with
 |(.tup [.dat T0 x0,.dat T1 x1],[])=>bif (Nat.beq T0 3&&Nat.beq T1 4) then some (x0.toInt,x1.toBool) else none
 |_=>none
theorem d28_sim {b:Res} {r:Int×Bool} (h:d28 b=some r):Sim Tryz.prog b ((.tup [(.dat 3 (.int r.1)),(.dat 4 (.bool r.2))]),[]):=by
 unfold d28 at h
 split at h
 ·obtain⟨hc,h2⟩:=bif_some h
  cases h2
  have e0:=beq_eq (and_l hc)
  have e1:=beq_eq (and_r hc)
  subst e0 e1
  exact Sim.of (.tup (.cons (.dat (.int Tryz.underlying3)) (.cons (.dat (.bool Tryz.underlying4)) .nil))) .nil
 ·cases h
noncomputable def d36 (q:Res):Option Int:=match q with
 |(.dat T0 x0,[])=>bif Nat.beq T0 3 then some x0.toInt else none
 |_=>none
theorem d36_sim {b:Res} {r:Int} (h:d36 b=some r):Sim Tryz.prog b ((.dat 3 (.int r)),[]):=by
 unfold d36 at h
 split at h
 ·obtain⟨hc,h2⟩:=bif_some h
  cases h2
  have e0:=beq_eq hc
  subst e0
  exact Sim.of (.of (.dat (.int Tryz.underlying3)) rfl rfl) .nil
 ·cases h
noncomputable def d38 (q:Res):Option (Int×Int×ByteArray×List Dt×List Dt):=match q with
 |(.agg T0 [.dat T1 x1,.dat T2 x2,.dat T3 x3,.row n4,.row n5],[.row T6 x6,.row T7 x7])=>bif (Nat.beq T0 33&&(Nat.beq T1 3&&(Nat.beq T2 3&&(Nat.beq T3 9&&(Nat.beq n4 0&&(Nat.beq n5 1&&(Nat.beq T6 23&&Nat.beq T7 31))))))) then some (x1.toInt,x2.toInt,x3.toStr,x6,x7) else none
 |_=>none
theorem d38_sim {b:Res} {r:Int×Int×ByteArray×List Dt×List Dt} (h:d38 b=some r):Sim Tryz.prog b ((.agg 33 [(.dat 3 (.int r.1)),(.dat 3 (.int r.2.1)),(.dat 9 (.str r.2.2.1)),(.row 0),(.row 1)]),[(.row 23 r.2.2.2.1),(.row 31 r.2.2.2.2)]):=by
 unfold d38 at h
 split at h
 ·obtain⟨hc,h2⟩:=bif_some h
  cases h2
  have e0:=beq_eq (and_l hc)
  have e1:=beq_eq (and_l (and_r hc))
  have e2:=beq_eq (and_l (and_r (and_r hc)))
  have e3:=beq_eq (and_l (and_r (and_r (and_r hc))))
  have e4:=beq_eq (and_l (and_r (and_r (and_r (and_r hc)))))
  have e5:=beq_eq (and_l (and_r (and_r (and_r (and_r (and_r hc))))))
  have e6:=beq_eq (and_l (and_r (and_r (and_r (and_r (and_r (and_r hc)))))))
  have e7:=beq_eq (and_r (and_r (and_r (and_r (and_r (and_r (and_r hc)))))))
  subst e0 e1 e2 e3 e4 e5 e6 e7
  exact Sim.of (.of (.agg (.cons (.dat (.int Tryz.underlying3)) (.cons (.dat (.int Tryz.underlying3)) (.cons (.dat (.str Tryz.underlying9)) (.cons .same (.cons .same .nil)))))) rfl rfl) (.cons .same (.cons .same .nil))
 ·cases h
noncomputable def d27 (q:Res):Option (Dt×Bool):=match q with
 |(.tup [.dat T0 x0,.dat T1 x1],[])=>bif (Nat.beq T0 33&&Nat.beq T1 4) then some (x0,x1.toBool) else none
 |_=>none
theorem d27_sim {b:Res} {r:Dt×Bool} (h:d27 b=some r):Sim Tryz.prog b ((.tup [(.dat 33 r.1),(.dat 4 (.bool r.2))]),[]):=by
 unfold d27 at h
 split at h
 ·obtain⟨hc,h2⟩:=bif_some h
  cases h2
  have e0:=beq_eq (and_l hc)
  have e1:=beq_eq (and_r hc)
  subst e0 e1
  exact Sim.of (.tup (.cons .same (.cons (.dat (.bool Tryz.underlying4)) .nil))) .nil
 ·cases h
noncomputable def d13 (q:Res):Option (Dt×Int):=match q with
 |(.tup [.dat T0 x0,.dat T1 x1],[])=>bif (Nat.beq T0 33&&Nat.beq T1 37) then some (x0,x1.toInt) else none
 |_=>none
theorem d13_sim {b:Res} {r:Dt×Int} (h:d13 b=some r):Sim Tryz.prog b ((.tup [(.dat 33 r.1),(.dat 37 (.int r.2))]),[]):=by
 unfold d13 at h
 split at h
 ·obtain⟨hc,h2⟩:=bif_some h
  cases h2
  have e0:=beq_eq (and_l hc)
  have e1:=beq_eq (and_r hc)
  subst e0 e1
  exact Sim.of (.tup (.cons .same (.cons (.dat (.int Tryz.underlying37)) .nil))) .nil
 ·cases h
noncomputable def d4 (q:Res):Option (List Dt):=match q with
 |(.dat T0 x0,[])=>bif Nat.beq T0 23 then some x0.toLst else none
 |_=>none
theorem d4_sim {b:Res} {r:List Dt} (h:d4 b=some r):Sim Tryz.prog b ((.dat 23 (.lst r)),[]):=by
 unfold d4 at h
 split at h
 ·obtain⟨hc,h2⟩:=bif_some h
  cases h2
  have e0:=beq_eq hc
  subst e0
  exact Sim.of (.of (.dat (.lst Tryz.underlying23)) rfl rfl) .nil
 ·cases h
noncomputable def ct {R:Type} (m:Nat) (f:FuncId) (args:List AV) (objs:List Ob) (K:Res→Option R):Option R:=
 bif Nat.beq f 3 then ct3 m args objs K else
 bif Nat.beq f 10 then ct10 m args objs K else
 bif Nat.beq f 13 then ct13 m args objs K else
 bif Nat.beq f 15 then ct15 m args objs K else
 bif Nat.beq f 16 then ct16 m args objs K else
 bif Nat.beq f 14 then ct14 m args objs K else
 bif Nat.beq f 11 then ct11 m args objs K else
 bif Nat.beq f 12 then ct12 m args objs K else
 bif Nat.beq f 22 then ct22 m args objs K else
 bif Nat.beq f 67 then ct67 m args objs K else
 bif Nat.beq f 41 then ct41 m args objs K else
 bif Nat.beq f 47 then ct47 m args objs K else
 bif Nat.beq f 48 then ct48 m args objs K else
 bif Nat.beq f 49 then ct49 m args objs K else
 bif Nat.beq f 51 then ct51 m args objs K else
 bif Nat.beq f 50 then ct50 m args objs K else
 bif Nat.beq f 52 then ct52 m args objs K else
 bif Nat.beq f 53 then ct53 m args objs K else
 bif Nat.beq f 46 then ct46 m args objs K else
 bif Nat.beq f 42 then ct42 m args objs K else
 bif Nat.beq f 24 then ct24 m args objs K else
 bif Nat.beq f 94 then ct94 m args objs K else
 bif Nat.beq f 95 then ct95 m args objs K else
 bif Nat.beq f 62 then ct62 m args objs K else
 bif Nat.beq f 77 then ct77 m args objs K else
 bif Nat.beq f 72 then ct72 m args objs K else
 bif Nat.beq f 96 then ct96 m args objs K else
 bif Nat.beq f 31 then ct31 m args objs K else
 bif Nat.beq f 97 then ct97 m args objs K else
 bif Nat.beq f 98 then ct98 m args objs K else
 bif Nat.beq f 99 then ct99 m args objs K else
 bif Nat.beq f 100 then ct100 m args objs K else
 bif Nat.beq f 101 then ct101 m args objs K else
 bif Nat.beq f 68 then ct68 m args objs K else
 bif Nat.beq f 69 then ct69 m args objs K else
 bif Nat.beq f 70 then ct70 m args objs K else
 bif Nat.beq f 138 then ct138 m args objs K else
 bif Nat.beq f 139 then ct139 m args objs K else
 bif Nat.beq f 140 then ct140 m args objs K else
 bif Nat.beq f 123 then ct123 m args objs K else
 bif Nat.beq f 82 then ct82 m args objs K else
 bif Nat.beq f 144 then ct144 m args objs K else
 bif Nat.beq f 112 then ct112 m args objs K else
 bif Nat.beq f 113 then ct113 m args objs K else
 bif Nat.beq f 114 then ct114 m args objs K else
 bif Nat.beq f 115 then ct115 m args objs K else
 bif Nat.beq f 170 then ct170 m args objs K else
 bif Nat.beq f 171 then ct171 m args objs K else
 bif Nat.beq f 160 then ct160 m args objs K else
 bif Nat.beq f 161 then ct161 m args objs K else
 bif Nat.beq f 162 then ct162 m args objs K else
 none
end Go.Proofs.YtameompfdamfpaaGreatDoor
