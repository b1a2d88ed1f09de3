/- Generated: the functions as contracts for their callers. -/
import Derived.Test.YtbailjcjlapenaaGreatDoorSh
import Derived.Test.YtbailjcjlapenaaGreatDoorProg
set_option linter.unusedVariables false
set_option linter.unusedSimpArgs false
namespace Go.Proofs.YtbailjcjlapenaaGreatDoor
open Go.Am
def sel0 (args:List AV) (objs:List Ob):Option Dt:=match args,objs with
 | [.dat T0 x0],[]=>bif Nat.beq T0 33 then some x0 else none
 |_,_=>none
theorem sel0_ok {args:List AV} {objs:List Ob} {l:Dt} (h:sel0 args objs=some l):CnA Tryz.prog args [(.dat 33 l)]∧CnOL Tryz.prog objs []:=by
 unfold sel0 at h
 split at h
 ·obtain⟨hc,h2⟩:=bif_some h
  cases h2
  have e0:=beq_eq hc
  subst e0
  exact⟨(.cons (.of .same rfl rfl) .nil),.nil⟩
 ·cases h
def sel3 (args:List AV) (objs:List Ob):Option Unit:=match args,objs with
 | [],[]=>bif true then some () else none
 |_,_=>none
theorem sel3_ok {args:List AV} {objs:List Ob} {l:Unit} (h:sel3 args objs=some l):CnA Tryz.prog args []∧CnOL Tryz.prog objs []:=by
 unfold sel3 at h
 split at h
 ·obtain⟨hc,h2⟩:=bif_some h
  cases h2
  exact⟨.nil,.nil⟩
 ·cases h
def sel4 (args:List AV) (objs:List Ob):Option (List Dt):=match args,objs with
 | [.dat T0 x0],[]=>bif Nat.beq T0 53 then some x0.toLst else none
 |_,_=>none
theorem sel4_ok {args:List AV} {objs:List Ob} {l:List Dt} (h:sel4 args objs=some l):CnA Tryz.prog args [(.dat 53 (.lst l))]∧CnOL Tryz.prog objs []:=by
 unfold sel4 at h
 split at h
 ·obtain⟨hc,h2⟩:=bif_some h
  cases h2
  have e0:=beq_eq hc
  subst e0
  exact⟨(.cons (.of (.dat (.lst Tryz.underlying53)) rfl rfl) .nil),.nil⟩
 ·cases h
def sel6 (args:List AV) (objs:List Ob):Option (List Dt×Int×Int):=match args,objs with
 | [.dat T0 x0,.dat T1 x1,.ptr n2 p2 o2],[.box T3 (.dat T4 x4)]=>bif (Nat.beq T0 53&&(Nat.beq T1 3&&(Nat.beq n2 0&&(natsB p2 []&&(Nat.beq o2 0&&(Nat.beq T3 3&&Nat.beq T4 3)))))) then some (x0.toLst,x1.toInt,x4.toInt) else none
 |_,_=>none
theorem sel6_ok {args:List AV} {objs:List Ob} {l:List Dt×Int×Int} (h:sel6 args objs=some l):CnA Tryz.prog args [(.dat 53 (.lst l.1)),(.dat 3 (.int l.2.1)),(.ptr 0 [] 0)]∧CnOL Tryz.prog objs [(.box 3 (.dat 3 (.int l.2.2)))]:=by
 unfold sel6 at h
 split at h
 ·obtain⟨hc,h2⟩:=bif_some h
  cases h2
  have e0:=beq_eq (and_l hc)
  have e1:=beq_eq (and_l (and_r hc))
  have e2:=beq_eq (and_l (and_r (and_r hc)))
  have e3:=natsB_eq (and_l (and_r (and_r (and_r hc))))
  have e4:=beq_eq (and_l (and_r (and_r (and_r (and_r hc)))))
  have e5:=beq_eq (and_l (and_r (and_r (and_r (and_r (and_r hc))))))
  have e6:=beq_eq (and_r (and_r (and_r (and_r (and_r (and_r hc))))))
  subst e0 e1 e2 e3 e4 e5 e6
  exact⟨(.cons (.of (.dat (.lst Tryz.underlying53)) rfl rfl) (.cons (.of (.dat (.int Tryz.underlying3)) rfl rfl) (.cons (.of .same rfl rfl) .nil))),(.cons (.box (.dat (.int Tryz.underlying3))) .nil)⟩
 ·cases h
def sel7 (args:List AV) (objs:List Ob):Option Dt:=match args,objs with
 | [.rptr T0 x0],[]=>bif Nat.beq T0 60 then some x0 else none
 |_,_=>none
theorem sel7_ok {args:List AV} {objs:List Ob} {l:Dt} (h:sel7 args objs=some l):CnA Tryz.prog args [(.rptr 60 l)]∧CnOL Tryz.prog objs []:=by
 unfold sel7 at h
 split at h
 ·obtain⟨hc,h2⟩:=bif_some h
  cases h2
  have e0:=beq_eq hc
  subst e0
  exact⟨(.cons (.of .same rfl rfl) .nil),.nil⟩
 ·cases h
def sel8 (args:List AV) (objs:List Ob):Option (List Dt×Bool):=match args,objs with
 | [.dat T0 x0,.dat T1 x1],[]=>bif (Nat.beq T0 53&&Nat.beq T1 4) then some (x0.toLst,x1.toBool) else none
 |_,_=>none
theorem sel8_ok {args:List AV} {objs:List Ob} {l:List Dt×Bool} (h:sel8 args objs=some l):CnA Tryz.prog args [(.dat 53 (.lst l.1)),(.dat 4 (.bool l.2))]∧CnOL Tryz.prog objs []:=by
 unfold sel8 at h
 split at h
 ·obtain⟨hc,h2⟩:=bif_some h
  cases h2
  have e0:=beq_eq (and_l hc)
  have e1:=beq_eq (and_r hc)
  subst e0 e1
  exact⟨(.cons (.of (.dat (.lst Tryz.underlying53)) rfl rfl) (.cons (.of (.dat (.bool Tryz.underlying4)) rfl rfl) .nil)),.nil⟩
 ·cases h
def sel9 (args:List AV) (objs:List Ob):Option Dt:=match args,objs with
 | [.dat T0 x0],[]=>bif Nat.beq T0 29 then some x0 else none
 |_,_=>none
theorem sel9_ok {args:List AV} {objs:List Ob} {l:Dt} (h:sel9 args objs=some l):CnA Tryz.prog args [(.dat 29 l)]∧CnOL Tryz.prog objs []:=by
 unfold sel9 at h
 split at h
 ·obtain⟨hc,h2⟩:=bif_some h
  cases h2
  have e0:=beq_eq hc
  subst e0
  exact⟨(.cons (.of .same rfl rfl) .nil),.nil⟩
 ·cases h
def sel10 (args:List AV) (objs:List Ob):Option (List Dt):=match args,objs with
 | [.dat T0 x0],[]=>bif Nat.beq T0 30 then some x0.toLst else none
 |_,_=>none
theorem sel10_ok {args:List AV} {objs:List Ob} {l:List Dt} (h:sel10 args objs=some l):CnA Tryz.prog args [(.dat 30 (.lst l))]∧CnOL Tryz.prog objs []:=by
 unfold sel10 at h
 split at h
 ·obtain⟨hc,h2⟩:=bif_some h
  cases h2
  have e0:=beq_eq hc
  subst e0
  exact⟨(.cons (.of (.dat (.lst Tryz.underlying30)) rfl rfl) .nil),.nil⟩
 ·cases h
def sel11 (args:List AV) (objs:List Ob):Option ByteArray:=match args,objs with
 | [.dat T0 x0],[]=>bif Nat.beq T0 9 then some x0.toStr else none
 |_,_=>none
theorem sel11_ok {args:List AV} {objs:List Ob} {l:ByteArray} (h:sel11 args objs=some l):CnA Tryz.prog args [(.dat 9 (.str l))]∧CnOL Tryz.prog objs []:=by
 unfold sel11 at h
 split at h
 ·obtain⟨hc,h2⟩:=bif_some h
  cases h2
  have e0:=beq_eq hc
  subst e0
  exact⟨(.cons (.of (.dat (.str Tryz.underlying9)) rfl rfl) .nil),.nil⟩
 ·cases h
def sel12 (args:List AV) (objs:List Ob):Option Dt:=match args,objs with
 | [.dat T0 x0],[]=>bif Nat.beq T0 63 then some x0 else none
 |_,_=>none
theorem sel12_ok {args:List AV} {objs:List Ob} {l:Dt} (h:sel12 args objs=some l):CnA Tryz.prog args [(.dat 63 l)]∧CnOL Tryz.prog objs []:=by
 unfold sel12 at h
 split at h
 ·obtain⟨hc,h2⟩:=bif_some h
  cases h2
  have e0:=beq_eq hc
  subst e0
  exact⟨(.cons (.of .same rfl rfl) .nil),.nil⟩
 ·cases h
def sel13 (args:List AV) (objs:List Ob):Option Dt:=match args,objs with
 | [.dat T0 x0],[]=>bif Nat.beq T0 60 then some x0 else none
 |_,_=>none
theorem sel13_ok {args:List AV} {objs:List Ob} {l:Dt} (h:sel13 args objs=some l):CnA Tryz.prog args [(.dat 60 l)]∧CnOL Tryz.prog objs []:=by
 unfold sel13 at h
 split at h
 ·obtain⟨hc,h2⟩:=bif_some h
  cases h2
  have e0:=beq_eq hc
  subst e0
  exact⟨(.cons (.of .same rfl rfl) .nil),.nil⟩
 ·cases h
def sel15 (args:List AV) (objs:List Ob):Option (Dt×Int×Int):=match args,objs with
 | [.dat T0 x0,.dat T1 x1,.dat T2 x2],[]=>bif (Nat.beq T0 29&&(Nat.beq T1 3&&Nat.beq T2 3)) then some (x0,x1.toInt,x2.toInt) else none
 |_,_=>none
theorem sel15_ok {args:List AV} {objs:List Ob} {l:Dt×Int×Int} (h:sel15 args objs=some l):CnA Tryz.prog args [(.dat 29 l.1),(.dat 3 (.int l.2.1)),(.dat 3 (.int l.2.2))]∧CnOL Tryz.prog objs []:=by
 unfold sel15 at h
 split at h
 ·obtain⟨hc,h2⟩:=bif_some h
  cases h2
  have e0:=beq_eq (and_l hc)
  have e1:=beq_eq (and_l (and_r hc))
  have e2:=beq_eq (and_r (and_r hc))
  subst e0 e1 e2
  exact⟨(.cons (.of .same rfl rfl) (.cons (.of (.dat (.int Tryz.underlying3)) rfl rfl) (.cons (.of (.dat (.int Tryz.underlying3)) rfl rfl) .nil))),.nil⟩
 ·cases h
def sel16 (args:List AV) (objs:List Ob):Option (List Dt):=match args,objs with
 | [.dat T0 x0],[]=>bif Nat.beq T0 22 then some x0.toLst else none
 |_,_=>none
theorem sel16_ok {args:List AV} {objs:List Ob} {l:List Dt} (h:sel16 args objs=some l):CnA Tryz.prog args [(.dat 22 (.lst l))]∧CnOL Tryz.prog objs []:=by
 unfold sel16 at h
 split at h
 ·obtain⟨hc,h2⟩:=bif_some h
  cases h2
  have e0:=beq_eq hc
  subst e0
  exact⟨(.cons (.of (.dat (.lst Tryz.underlying22)) rfl rfl) .nil),.nil⟩
 ·cases h
def sel17 (args:List AV) (objs:List Ob):Option (List Dt×List Dt):=match args,objs with
 | [.dat T0 x0,.dat T1 x1],[]=>bif (Nat.beq T0 22&&Nat.beq T1 22) then some (x0.toLst,x1.toLst) else none
 |_,_=>none
theorem sel17_ok {args:List AV} {objs:List Ob} {l:List Dt×List Dt} (h:sel17 args objs=some l):CnA Tryz.prog args [(.dat 22 (.lst l.1)),(.dat 22 (.lst l.2))]∧CnOL Tryz.prog objs []:=by
 unfold sel17 at h
 split at h
 ·obtain⟨hc,h2⟩:=bif_some h
  cases h2
  have e0:=beq_eq (and_l hc)
  have e1:=beq_eq (and_r hc)
  subst e0 e1
  exact⟨(.cons (.of (.dat (.lst Tryz.underlying22)) rfl rfl) (.cons (.of (.dat (.lst Tryz.underlying22)) rfl rfl) .nil)),.nil⟩
 ·cases h
def sel20 (args:List AV) (objs:List Ob):Option Dt:=match args,objs with
 | [.dat T0 x0],[]=>bif Nat.beq T0 44 then some x0 else none
 |_,_=>none
theorem sel20_ok {args:List AV} {objs:List Ob} {l:Dt} (h:sel20 args objs=some l):CnA Tryz.prog args [(.dat 44 l)]∧CnOL Tryz.prog objs []:=by
 unfold sel20 at h
 split at h
 ·obtain⟨hc,h2⟩:=bif_some h
  cases h2
  have e0:=beq_eq hc
  subst e0
  exact⟨(.cons (.of .same rfl rfl) .nil),.nil⟩
 ·cases h
def sel21 (args:List AV) (objs:List Ob):Option Dt:=match args,objs with
 | [.dat T0 x0],[]=>bif Nat.beq T0 49 then some x0 else none
 |_,_=>none
theorem sel21_ok {args:List AV} {objs:List Ob} {l:Dt} (h:sel21 args objs=some l):CnA Tryz.prog args [(.dat 49 l)]∧CnOL Tryz.prog objs []:=by
 unfold sel21 at h
 split at h
 ·obtain⟨hc,h2⟩:=bif_some h
  cases h2
  have e0:=beq_eq hc
  subst e0
  exact⟨(.cons (.of .same rfl rfl) .nil),.nil⟩
 ·cases h
def sel22 (args:List AV) (objs:List Ob):Option (List Dt):=match args,objs with
 | [.dat T0 x0],[]=>bif Nat.beq T0 47 then some x0.toLst else none
 |_,_=>none
theorem sel22_ok {args:List AV} {objs:List Ob} {l:List Dt} (h:sel22 args objs=some l):CnA Tryz.prog args [(.dat 47 (.lst l))]∧CnOL Tryz.prog objs []:=by
 unfold sel22 at h
 split at h
 ·obtain⟨hc,h2⟩:=bif_some h
  cases h2
  have e0:=beq_eq hc
  subst e0
  exact⟨(.cons (.of (.dat (.lst Tryz.underlying47)) rfl rfl) .nil),.nil⟩
 ·cases h
def sel24 (args:List AV) (objs:List Ob):Option (Bool×Int):=match args,objs with
 | [.dat T0 x0,.dat T1 x1],[]=>bif (Nat.beq T0 4&&Nat.beq T1 34) then some (x0.toBool,x1.toInt) else none
 |_,_=>none
theorem sel24_ok {args:List AV} {objs:List Ob} {l:Bool×Int} (h:sel24 args objs=some l):CnA Tryz.prog args [(.dat 4 (.bool l.1)),(.dat 34 (.int l.2))]∧CnOL Tryz.prog objs []:=by
 unfold sel24 at h
 split at h
 ·obtain⟨hc,h2⟩:=bif_some h
  cases h2
  have e0:=beq_eq (and_l hc)
  have e1:=beq_eq (and_r hc)
  subst e0 e1
  exact⟨(.cons (.of (.dat (.bool Tryz.underlying4)) rfl rfl) (.cons (.of (.dat (.int Tryz.underlying34)) rfl rfl) .nil)),.nil⟩
 ·cases h
def sel27 (args:List AV) (objs:List Ob):Option Dt:=match args,objs with
 | [.dat T0 x0],[]=>bif Nat.beq T0 52 then some x0 else none
 |_,_=>none
theorem sel27_ok {args:List AV} {objs:List Ob} {l:Dt} (h:sel27 args objs=some l):CnA Tryz.prog args [(.dat 52 l)]∧CnOL Tryz.prog objs []:=by
 unfold sel27 at h
 split at h
 ·obtain⟨hc,h2⟩:=bif_some h
  cases h2
  have e0:=beq_eq hc
  subst e0
  exact⟨(.cons (.of .same rfl rfl) .nil),.nil⟩
 ·cases h
def sel29 (args:List AV) (objs:List Ob):Option (Int×Dt):=match args,objs with
 | [.dat T0 x0,.dat T1 x1],[]=>bif (Nat.beq T0 3&&Nat.beq T1 55) then some (x0.toInt,x1) else none
 |_,_=>none
theorem sel29_ok {args:List AV} {objs:List Ob} {l:Int×Dt} (h:sel29 args objs=some l):CnA Tryz.prog args [(.dat 3 (.int l.1)),(.dat 55 l.2)]∧CnOL Tryz.prog objs []:=by
 unfold sel29 at h
 split at h
 ·obtain⟨hc,h2⟩:=bif_some h
  cases h2
  have e0:=beq_eq (and_l hc)
  have e1:=beq_eq (and_r hc)
  subst e0 e1
  exact⟨(.cons (.of (.dat (.int Tryz.underlying3)) rfl rfl) (.cons (.of .same rfl rfl) .nil)),.nil⟩
 ·cases h
def sel30 (args:List AV) (objs:List Ob):Option (List Dt):=match args,objs with
 | [.dat T0 x0],[]=>bif Nat.beq T0 56 then some x0.toLst else none
 |_,_=>none
theorem sel30_ok {args:List AV} {objs:List Ob} {l:List Dt} (h:sel30 args objs=some l):CnA Tryz.prog args [(.dat 56 (.lst l))]∧CnOL Tryz.prog objs []:=by
 unfold sel30 at h
 split at h
 ·obtain⟨hc,h2⟩:=bif_some h
  cases h2
  have e0:=beq_eq hc
  subst e0
  exact⟨(.cons (.of (.dat (.lst Tryz.underlying56)) rfl rfl) .nil),.nil⟩
 ·cases h
def sel34 (args:List AV) (objs:List Ob):Option Dt:=match args,objs with
 | [.dat T0 x0],[]=>bif Nat.beq T0 58 then some x0 else none
 |_,_=>none
theorem sel34_ok {args:List AV} {objs:List Ob} {l:Dt} (h:sel34 args objs=some l):CnA Tryz.prog args [(.dat 58 l)]∧CnOL Tryz.prog objs []:=by
 unfold sel34 at h
 split at h
 ·obtain⟨hc,h2⟩:=bif_some h
  cases h2
  have e0:=beq_eq hc
  subst e0
  exact⟨(.cons (.of .same rfl rfl) .nil),.nil⟩
 ·cases h
def sel36 (args:List AV) (objs:List Ob):Option (Dt×Dt):=match args,objs with
 | [.dat T0 x0,.dat T1 x1],[]=>bif (Nat.beq T0 29&&Nat.beq T1 29) then some (x0,x1) else none
 |_,_=>none
theorem sel36_ok {args:List AV} {objs:List Ob} {l:Dt×Dt} (h:sel36 args objs=some l):CnA Tryz.prog args [(.dat 29 l.1),(.dat 29 l.2)]∧CnOL Tryz.prog objs []:=by
 unfold sel36 at h
 split at h
 ·obtain⟨hc,h2⟩:=bif_some h
  cases h2
  have e0:=beq_eq (and_l hc)
  have e1:=beq_eq (and_r hc)
  subst e0 e1
  exact⟨(.cons (.of .same rfl rfl) (.cons (.of .same rfl rfl) .nil)),.nil⟩
 ·cases h
def sel38 (args:List AV) (objs:List Ob):Option (List Dt):=match args,objs with
 | [.dat T0 x0,.fn T1 []],[]=>bif (Nat.beq T0 22&&Nat.beq T1 91) then some x0.toLst else none
 |_,_=>none
theorem sel38_ok {args:List AV} {objs:List Ob} {l:List Dt} (h:sel38 args objs=some l):CnA Tryz.prog args [(.dat 22 (.lst l)),(.fn 91 [])]∧CnOL Tryz.prog objs []:=by
 unfold sel38 at h
 split at h
 ·obtain⟨hc,h2⟩:=bif_some h
  cases h2
  have e0:=beq_eq (and_l hc)
  have e1:=beq_eq (and_r hc)
  subst e0 e1
  exact⟨(.cons (.of (.dat (.lst Tryz.underlying22)) rfl rfl) (.cons (.of (.fn .nil) rfl rfl) .nil)),.nil⟩
 ·cases h
def sel43 (args:List AV) (objs:List Ob):Option (Dt×Int×Int):=match args,objs with
 | [.dat T0 x0,.dat T1 x1,.ptr n2 p2 o2],[.box T3 (.dat T4 x4)]=>bif (Nat.beq T0 29&&(Nat.beq T1 3&&(Nat.beq n2 0&&(natsB p2 []&&(Nat.beq o2 0&&(Nat.beq T3 3&&Nat.beq T4 3)))))) then some (x0,x1.toInt,x4.toInt) else none
 |_,_=>none
theorem sel43_ok {args:List AV} {objs:List Ob} {l:Dt×Int×Int} (h:sel43 args objs=some l):CnA Tryz.prog args [(.dat 29 l.1),(.dat 3 (.int l.2.1)),(.ptr 0 [] 0)]∧CnOL Tryz.prog objs [(.box 3 (.dat 3 (.int l.2.2)))]:=by
 unfold sel43 at h
 split at h
 ·obtain⟨hc,h2⟩:=bif_some h
  cases h2
  have e0:=beq_eq (and_l hc)
  have e1:=beq_eq (and_l (and_r hc))
  have e2:=beq_eq (and_l (and_r (and_r hc)))
  have e3:=natsB_eq (and_l (and_r (and_r (and_r hc))))
  have e4:=beq_eq (and_l (and_r (and_r (and_r (and_r hc)))))
  have e5:=beq_eq (and_l (and_r (and_r (and_r (and_r (and_r hc))))))
  have e6:=beq_eq (and_r (and_r (and_r (and_r (and_r (and_r hc))))))
  subst e0 e1 e2 e3 e4 e5 e6
  exact⟨(.cons (.of .same rfl rfl) (.cons (.of (.dat (.int Tryz.underlying3)) rfl rfl) (.cons (.of .same rfl rfl) .nil))),(.cons (.box (.dat (.int Tryz.underlying3))) .nil)⟩
 ·cases h
def sel45 (args:List AV) (objs:List Ob):Option Dt:=match args,objs with
 | [.dat T0 x0],[]=>bif Nat.beq T0 26 then some x0 else none
 |_,_=>none
theorem sel45_ok {args:List AV} {objs:List Ob} {l:Dt} (h:sel45 args objs=some l):CnA Tryz.prog args [(.dat 26 l)]∧CnOL Tryz.prog objs []:=by
 unfold sel45 at h
 split at h
 ·obtain⟨hc,h2⟩:=bif_some h
  cases h2
  have e0:=beq_eq hc
  subst e0
  exact⟨(.cons (.of .same rfl rfl) .nil),.nil⟩
 ·cases h
def sel46 (args:List AV) (objs:List Ob):Option (Dt×Dt):=match args,objs with
 | [.dat T0 x0,.dat T1 x1],[]=>bif (Nat.beq T0 26&&Nat.beq T1 26) then some (x0,x1) else none
 |_,_=>none
theorem sel46_ok {args:List AV} {objs:List Ob} {l:Dt×Dt} (h:sel46 args objs=some l):CnA Tryz.prog args [(.dat 26 l.1),(.dat 26 l.2)]∧CnOL Tryz.prog objs []:=by
 unfold sel46 at h
 split at h
 ·obtain⟨hc,h2⟩:=bif_some h
  cases h2
  have e0:=beq_eq (and_l hc)
  have e1:=beq_eq (and_r hc)
  subst e0 e1
  exact⟨(.cons (.of .same rfl rfl) (.cons (.of .same rfl rfl) .nil)),.nil⟩
 ·cases h
def sel48 (args:List AV) (objs:List Ob):Option Int:=match args,objs with
 | [.dat T0 x0],[]=>bif Nat.beq T0 3 then some x0.toInt else none
 |_,_=>none
theorem sel48_ok {args:List AV} {objs:List Ob} {l:Int} (h:sel48 args objs=some l):CnA Tryz.prog args [(.dat 3 (.int l))]∧CnOL Tryz.prog objs []:=by
 unfold sel48 at h
 split at h
 ·obtain⟨hc,h2⟩:=bif_some h
  cases h2
  have e0:=beq_eq hc
  subst e0
  exact⟨(.cons (.of (.dat (.int Tryz.underlying3)) rfl rfl) .nil),.nil⟩
 ·cases h
def sel56 (args:List AV) (objs:List Ob):Option (Int×Int):=match args,objs with
 | [.dat T0 x0,.dat T1 x1],[]=>bif (Nat.beq T0 3&&Nat.beq T1 3) then some (x0.toInt,x1.toInt) else none
 |_,_=>none
theorem sel56_ok {args:List AV} {objs:List Ob} {l:Int×Int} (h:sel56 args objs=some l):CnA Tryz.prog args [(.dat 3 (.int l.1)),(.dat 3 (.int l.2))]∧CnOL Tryz.prog objs []:=by
 unfold sel56 at h
 split at h
 ·obtain⟨hc,h2⟩:=bif_some h
  cases h2
  have e0:=beq_eq (and_l hc)
  have e1:=beq_eq (and_r hc)
  subst e0 e1
  exact⟨(.cons (.of (.dat (.int Tryz.underlying3)) rfl rfl) (.cons (.of (.dat (.int Tryz.underlying3)) rfl rfl) .nil)),.nil⟩
 ·cases h
def sel59 (args:List AV) (objs:List Ob):Option (Dt×Bool):=match args,objs with
 | [.dat T0 x0,.dat T1 x1],[]=>bif (Nat.beq T0 26&&Nat.beq T1 4) then some (x0,x1.toBool) else none
 |_,_=>none
theorem sel59_ok {args:List AV} {objs:List Ob} {l:Dt×Bool} (h:sel59 args objs=some l):CnA Tryz.prog args [(.dat 26 l.1),(.dat 4 (.bool l.2))]∧CnOL Tryz.prog objs []:=by
 unfold sel59 at h
 split at h
 ·obtain⟨hc,h2⟩:=bif_some h
  cases h2
  have e0:=beq_eq (and_l hc)
  have e1:=beq_eq (and_r hc)
  subst e0 e1
  exact⟨(.cons (.of .same rfl rfl) (.cons (.of (.dat (.bool Tryz.underlying4)) rfl rfl) .nil)),.nil⟩
 ·cases h
def sel65 (args:List AV) (objs:List Ob):Option (Dt×Int):=match args,objs with
 | [.dat T0 x0,.dat T1 x1],[]=>bif (Nat.beq T0 26&&Nat.beq T1 3) then some (x0,x1.toInt) else none
 |_,_=>none
theorem sel65_ok {args:List AV} {objs:List Ob} {l:Dt×Int} (h:sel65 args objs=some l):CnA Tryz.prog args [(.dat 26 l.1),(.dat 3 (.int l.2))]∧CnOL Tryz.prog objs []:=by
 unfold sel65 at h
 split at h
 ·obtain⟨hc,h2⟩:=bif_some h
  cases h2
  have e0:=beq_eq (and_l hc)
  have e1:=beq_eq (and_r hc)
  subst e0 e1
  exact⟨(.cons (.of .same rfl rfl) (.cons (.of (.dat (.int Tryz.underlying3)) rfl rfl) .nil)),.nil⟩
 ·cases h
def sel72 (args:List AV) (objs:List Ob):Option (List Dt):=match args,objs with
 | [.dat T0 x0],[]=>bif Nat.beq T0 24 then some x0.toLst else none
 |_,_=>none
theorem sel72_ok {args:List AV} {objs:List Ob} {l:List Dt} (h:sel72 args objs=some l):CnA Tryz.prog args [(.dat 24 (.lst l))]∧CnOL Tryz.prog objs []:=by
 unfold sel72 at h
 split at h
 ·obtain⟨hc,h2⟩:=bif_some h
  cases h2
  have e0:=beq_eq hc
  subst e0
  exact⟨(.cons (.of (.dat (.lst Tryz.underlying24)) rfl rfl) .nil),.nil⟩
 ·cases h
def sel74 (args:List AV) (objs:List Ob):Option (ByteArray×Int×Int):=match args,objs with
 | [.dat T0 x0,.dat T1 x1,.dat T2 x2],[]=>bif (Nat.beq T0 9&&(Nat.beq T1 3&&Nat.beq T2 3)) then some (x0.toStr,x1.toInt,x2.toInt) else none
 |_,_=>none
theorem sel74_ok {args:List AV} {objs:List Ob} {l:ByteArray×Int×Int} (h:sel74 args objs=some l):CnA Tryz.prog args [(.dat 9 (.str l.1)),(.dat 3 (.int l.2.1)),(.dat 3 (.int l.2.2))]∧CnOL Tryz.prog objs []:=by
 unfold sel74 at h
 split at h
 ·obtain⟨hc,h2⟩:=bif_some h
  cases h2
  have e0:=beq_eq (and_l hc)
  have e1:=beq_eq (and_l (and_r hc))
  have e2:=beq_eq (and_r (and_r hc))
  subst e0 e1 e2
  exact⟨(.cons (.of (.dat (.str Tryz.underlying9)) rfl rfl) (.cons (.of (.dat (.int Tryz.underlying3)) rfl rfl) (.cons (.of (.dat (.int Tryz.underlying3)) rfl rfl) .nil))),.nil⟩
 ·cases h
def sel76 (args:List AV) (objs:List Ob):Option (Dt×Int×Int):=match args,objs with
 | [.dat T0 x0,.fn T1 [.ptr n2 p2 o2,.ptr n3 p3 o3]],[.box T4 (.dat T5 x5),.box T6 (.dat T7 x7)]=>bif (Nat.beq T0 26&&(Nat.beq T1 181&&(Nat.beq n2 0&&(natsB p2 []&&(Nat.beq o2 0&&(Nat.beq n3 1&&(natsB p3 []&&(Nat.beq o3 0&&(Nat.beq T4 3&&(Nat.beq T5 3&&(Nat.beq T6 3&&Nat.beq T7 3))))))))))) then some (x0,x5.toInt,x7.toInt) else none
 |_,_=>none
theorem sel76_ok {args:List AV} {objs:List Ob} {l:Dt×Int×Int} (h:sel76 args objs=some l):CnA Tryz.prog args [(.dat 26 l.1),(.fn 181 [(.ptr 0 [] 0),(.ptr 1 [] 0)])]∧CnOL Tryz.prog objs [(.box 3 (.dat 3 (.int l.2.1))),(.box 3 (.dat 3 (.int l.2.2)))]:=by
 unfold sel76 at h
 split at h
 ·obtain⟨hc,h2⟩:=bif_some h
  cases h2
  have e0:=beq_eq (and_l hc)
  have e1:=beq_eq (and_l (and_r hc))
  have e2:=beq_eq (and_l (and_r (and_r hc)))
  have e3:=natsB_eq (and_l (and_r (and_r (and_r hc))))
  have e4:=beq_eq (and_l (and_r (and_r (and_r (and_r hc)))))
  have e5:=beq_eq (and_l (and_r (and_r (and_r (and_r (and_r hc))))))
  have e6:=natsB_eq (and_l (and_r (and_r (and_r (and_r (and_r (and_r hc)))))))
  have e7:=beq_eq (and_l (and_r (and_r (and_r (and_r (and_r (and_r (and_r hc))))))))
  have e8:=beq_eq (and_l (and_r (and_r (and_r (and_r (and_r (and_r (and_r (and_r hc)))))))))
  have e9:=beq_eq (and_l (and_r (and_r (and_r (and_r (and_r (and_r (and_r (and_r (and_r hc))))))))))
  have e10:=beq_eq (and_l (and_r (and_r (and_r (and_r (and_r (and_r (and_r (and_r (and_r (and_r hc)))))))))))
  have e11:=beq_eq (and_r (and_r (and_r (and_r (and_r (and_r (and_r (and_r (and_r (and_r (and_r hc)))))))))))
  subst e0 e1 e2 e3 e4 e5 e6 e7 e8 e9 e10 e11
  exact⟨(.cons (.of .same rfl rfl) (.cons (.of (.fn (.cons .same (.cons .same .nil))) rfl rfl) .nil)),(.cons (.box (.dat (.int Tryz.underlying3))) (.cons (.box (.dat (.int Tryz.underlying3))) .nil))⟩
 ·cases h
def sel77 (args:List AV) (objs:List Ob):Option (Dt×Int×Int):=match args,objs with
 | [.dat T0 x0,.ptr n1 p1 o1,.ptr n2 p2 o2],[.box T3 (.dat T4 x4),.box T5 (.dat T6 x6)]=>bif (Nat.beq T0 26&&(Nat.beq n1 0&&(natsB p1 []&&(Nat.beq o1 0&&(Nat.beq n2 1&&(natsB p2 []&&(Nat.beq o2 0&&(Nat.beq T3 3&&(Nat.beq T4 3&&(Nat.beq T5 3&&Nat.beq T6 3)))))))))) then some (x0,x4.toInt,x6.toInt) else none
 |_,_=>none
theorem sel77_ok {args:List AV} {objs:List Ob} {l:Dt×Int×Int} (h:sel77 args objs=some l):CnA Tryz.prog args [(.dat 26 l.1),(.ptr 0 [] 0),(.ptr 1 [] 0)]∧CnOL Tryz.prog objs [(.box 3 (.dat 3 (.int l.2.1))),(.box 3 (.dat 3 (.int l.2.2)))]:=by
 unfold sel77 at h
 split at h
 ·obtain⟨hc,h2⟩:=bif_some h
  cases h2
  have e0:=beq_eq (and_l hc)
  have e1:=beq_eq (and_l (and_r hc))
  have e2:=natsB_eq (and_l (and_r (and_r hc)))
  have e3:=beq_eq (and_l (and_r (and_r (and_r hc))))
  have e4:=beq_eq (and_l (and_r (and_r (and_r (and_r hc)))))
  have e5:=natsB_eq (and_l (and_r (and_r (and_r (and_r (and_r hc))))))
  have e6:=beq_eq (and_l (and_r (and_r (and_r (and_r (and_r (and_r hc)))))))
  have e7:=beq_eq (and_l (and_r (and_r (and_r (and_r (and_r (and_r (and_r hc))))))))
  have e8:=beq_eq (and_l (and_r (and_r (and_r (and_r (and_r (and_r (and_r (and_r hc)))))))))
  have e9:=beq_eq (and_l (and_r (and_r (and_r (and_r (and_r (and_r (and_r (and_r (and_r hc))))))))))
  have e10:=beq_eq (and_r (and_r (and_r (and_r (and_r (and_r (and_r (and_r (and_r (and_r hc))))))))))
  subst e0 e1 e2 e3 e4 e5 e6 e7 e8 e9 e10
  exact⟨(.cons (.of .same rfl rfl) (.cons (.of .same rfl rfl) (.cons (.of .same rfl rfl) .nil))),(.cons (.box (.dat (.int Tryz.underlying3))) (.cons (.box (.dat (.int Tryz.underlying3))) .nil))⟩
 ·cases h
def sel78 (args:List AV) (objs:List Ob):Option (Dt×Int×Int):=match args,objs with
 | [.dat T0 x0,.fn T1 [.ptr n2 p2 o2,.ptr n3 p3 o3]],[.box T4 (.dat T5 x5),.box T6 (.dat T7 x7)]=>bif (Nat.beq T0 26&&(Nat.beq T1 182&&(Nat.beq n2 0&&(natsB p2 []&&(Nat.beq o2 0&&(Nat.beq n3 1&&(natsB p3 []&&(Nat.beq o3 0&&(Nat.beq T4 3&&(Nat.beq T5 3&&(Nat.beq T6 3&&Nat.beq T7 3))))))))))) then some (x0,x5.toInt,x7.toInt) else none
 |_,_=>none
theorem sel78_ok {args:List AV} {objs:List Ob} {l:Dt×Int×Int} (h:sel78 args objs=some l):CnA Tryz.prog args [(.dat 26 l.1),(.fn 182 [(.ptr 0 [] 0),(.ptr 1 [] 0)])]∧CnOL Tryz.prog objs [(.box 3 (.dat 3 (.int l.2.1))),(.box 3 (.dat 3 (.int l.2.2)))]:=by
 unfold sel78 at h
 split at h
 ·obtain⟨hc,h2⟩:=bif_some h
  cases h2
  have e0:=beq_eq (and_l hc)
  have e1:=beq_eq (and_l (and_r hc))
  have e2:=beq_eq (and_l (and_r (and_r hc)))
  have e3:=natsB_eq (and_l (and_r (and_r (and_r hc))))
  have e4:=beq_eq (and_l (and_r (and_r (and_r (and_r hc)))))
  have e5:=beq_eq (and_l (and_r (and_r (and_r (and_r (and_r hc))))))
  have e6:=natsB_eq (and_l (and_r (and_r (and_r (and_r (and_r (and_r hc)))))))
  have e7:=beq_eq (and_l (and_r (and_r (and_r (and_r (and_r (and_r (and_r hc))))))))
  have e8:=beq_eq (and_l (and_r (and_r (and_r (and_r (and_r (and_r (and_r (and_r hc)))))))))
  have e9:=beq_eq (and_l (and_r (and_r (and_r (and_r (and_r (and_r (and_r (and_r (and_r hc))))))))))
  have e10:=beq_eq (and_l (and_r (and_r (and_r (and_r (and_r (and_r (and_r (and_r (and_r (and_r hc)))))))))))
  have e11:=beq_eq (and_r (and_r (and_r (and_r (and_r (and_r (and_r (and_r (and_r (and_r (and_r hc)))))))))))
  subst e0 e1 e2 e3 e4 e5 e6 e7 e8 e9 e10 e11
  exact⟨(.cons (.of .same rfl rfl) (.cons (.of (.fn (.cons .same (.cons .same .nil))) rfl rfl) .nil)),(.cons (.box (.dat (.int Tryz.underlying3))) (.cons (.box (.dat (.int Tryz.underlying3))) .nil))⟩
 ·cases h
noncomputable def ct3 {R:Type} (m:Nat) (args:List AV) (objs:List Ob) (K:Res→Option R):Option R:=match sel0 args objs with
 |some l=>(law34_WindowValids m l).bind fun r=>K ((.dat 4 (.bool r)),[])
 |none=>none
noncomputable def ct4 {R:Type} (m:Nat) (args:List AV) (objs:List Ob) (K:Res→Option R):Option R:=match sel0 args objs with
 |some l=>(window_Valid m l).bind fun r=>K ((.dat 34 (.int r)),[])
 |none=>none
noncomputable def ct5 {R:Type} (m:Nat) (args:List AV) (objs:List Ob) (K:Res→Option R):Option R:=match sel0 args objs with
 |some l=>(ref34_Valid m l).bind fun r=>K ((.dat 34 (.int r)),[])
 |none=>none
noncomputable def ct6 {R:Type} (m:Nat) (args:List AV) (objs:List Ob) (K:Res→Option R):Option R:=match sel3 args objs with
 |some l=>(awakeC).bind fun r=>K ((.dat 4 (.bool r)),[])
 |none=>none
noncomputable def ct7 {R:Type} (m:Nat) (args:List AV) (objs:List Ob) (K:Res→Option R):Option R:=match sel4 args objs with
 |some l=>(pipeline_Valid m l).bind fun r=>K ((.dat 34 (.int r)),[])
 |none=>none
noncomputable def ct8 {R:Type} (m:Nat) (args:List AV) (objs:List Ob) (K:Res→Option R):Option R:=match sel0 args objs with
 |some l=>(ref31_Window m l).bind fun r=>K ((.dat 34 (.int r)),[])
 |none=>none
noncomputable def ct11 {R:Type} (m:Nat) (args:List AV) (objs:List Ob) (K:Res→Option R):Option R:=match sel6 args objs with
 |some l=>(i6 m l.1 l.2.1 l.2.2).bind fun r=>K ((.dat 4 (.bool r.1)),[(.box 3 (.dat 3 (.int r.2)))])
 |none=>none
noncomputable def ct22 {R:Type} (m:Nat) (args:List AV) (objs:List Ob) (K:Res→Option R):Option R:=match sel7 args objs with
 |some l=>(i7 m l).bind fun r=>K ((.dat 80 (.lst r)),[])
 |none=>none
noncomputable def ct12 {R:Type} (m:Nat) (args:List AV) (objs:List Ob) (K:Res→Option R):Option R:=match sel8 args objs with
 |some l=>(pipeline_check m l.1 l.2).bind fun r=>K ((.dat 34 (.int r)),[])
 |none=>none
noncomputable def ct13 {R:Type} (m:Nat) (args:List AV) (objs:List Ob) (K:Res→Option R):Option R:=match sel9 args objs with
 |some l=>(ref08_Valid m l).bind fun r=>K ((.dat 34 (.int r)),[])
 |none=>none
noncomputable def ct14 {R:Type} (m:Nat) (args:List AV) (objs:List Ob) (K:Res→Option R):Option R:=match sel10 args objs with
 |some l=>(ref12_Valid m l).bind fun r=>K ((.dat 34 (.int r)),[])
 |none=>none
noncomputable def ct15 {R:Type} (m:Nat) (args:List AV) (objs:List Ob) (K:Res→Option R):Option R:=match sel11 args objs with
 |some l=>(ref31_output m l).bind fun r=>K ((.dat 4 (.bool r)),[])
 |none=>none
noncomputable def ct16 {R:Type} (m:Nat) (args:List AV) (objs:List Ob) (K:Res→Option R):Option R:=match sel12 args objs with
 |some l=>(ref31_out m l).bind fun r=>K ((.dat 34 (.int r)),[])
 |none=>none
noncomputable def ct23 {R:Type} (m:Nat) (args:List AV) (objs:List Ob) (K:Res→Option R):Option R:=match sel13 args objs with
 |some l=>(usedC l).bind fun r=>K ((.dat 4 (.bool r)),[])
 |none=>none
noncomputable def ct24 {R:Type} (m:Nat) (args:List AV) (objs:List Ob) (K:Res→Option R):Option R:=match sel13 args objs with
 |some l=>(pipeline_conditions m l).bind fun r=>K ((.dat 34 (.int r)),[])
 |none=>none
noncomputable def ct25 {R:Type} (m:Nat) (args:List AV) (objs:List Ob) (K:Res→Option R):Option R:=match sel15 args objs with
 |some l=>(ref08_check m l.1 l.2.1 l.2.2).bind fun r=>K ((.tup [(.dat 3 (.int r.1)),(.dat 34 (.int r.2))]),[])
 |none=>none
noncomputable def ct26 {R:Type} (m:Nat) (args:List AV) (objs:List Ob) (K:Res→Option R):Option R:=match sel16 args objs with
 |some l=>(ref04_Valid m l).bind fun r=>K ((.dat 4 (.bool r)),[])
 |none=>none
noncomputable def ct27 {R:Type} (m:Nat) (args:List AV) (objs:List Ob) (K:Res→Option R):Option R:=match sel17 args objs with
 |some l=>(ref12_same m l.1 l.2).bind fun r=>K ((.dat 4 (.bool r)),[])
 |none=>none
noncomputable def ct28 {R:Type} (m:Nat) (args:List AV) (objs:List Ob) (K:Res→Option R):Option R:=match sel11 args objs with
 |some l=>(ref01_Name m l).bind fun r=>K ((.dat 4 (.bool r)),[])
 |none=>none
noncomputable def ct29 {R:Type} (m:Nat) (args:List AV) (objs:List Ob) (K:Res→Option R):Option R:=match sel9 args objs with
 |some l=>(ref31_zeroExpr m l).bind fun r=>K ((.dat 4 (.bool r)),[])
 |none=>none
noncomputable def ct43 {R:Type} (m:Nat) (args:List AV) (objs:List Ob) (K:Res→Option R):Option R:=match sel20 args objs with
 |some l=>(predN l).bind fun r=>K ((.dat 34 (.int r)),[])
 |none=>none
noncomputable def ct44 {R:Type} (m:Nat) (args:List AV) (objs:List Ob) (K:Res→Option R):Option R:=match sel21 args objs with
 |some l=>(projN l).bind fun r=>K ((.dat 34 (.int r)),[])
 |none=>none
noncomputable def ct45 {R:Type} (m:Nat) (args:List AV) (objs:List Ob) (K:Res→Option R):Option R:=match sel22 args objs with
 |some l=>(setsN l).bind fun r=>K ((.dat 34 (.int r)),[])
 |none=>none
noncomputable def ct46 {R:Type} (m:Nat) (args:List AV) (objs:List Ob) (K:Res→Option R):Option R:=match sel10 args objs with
 |some l=>(order_Valid m l).bind fun r=>K ((.dat 34 (.int r)),[])
 |none=>none
noncomputable def ct47 {R:Type} (m:Nat) (args:List AV) (objs:List Ob) (K:Res→Option R):Option R:=match sel24 args objs with
 |some l=>(pipeline_unless m l.1 l.2).bind fun r=>K ((.dat 34 (.int r)),[])
 |none=>none
noncomputable def ct48 {R:Type} (m:Nat) (args:List AV) (objs:List Ob) (K:Res→Option R):Option R:=match sel16 args objs with
 |some l=>(path_Valid m l).bind fun r=>K ((.dat 4 (.bool r)),[])
 |none=>none
noncomputable def ct49 {R:Type} (m:Nat) (args:List AV) (objs:List Ob) (K:Res→Option R):Option R:=match sel11 args objs with
 |some l=>(pipeline_isOutput m l).bind fun r=>K ((.dat 4 (.bool r)),[])
 |none=>none
noncomputable def ct50 {R:Type} (m:Nat) (args:List AV) (objs:List Ob) (K:Res→Option R):Option R:=match sel27 args objs with
 |some l=>(groupN l).bind fun r=>K ((.dat 34 (.int r)),[])
 |none=>none
noncomputable def ct51 {R:Type} (m:Nat) (args:List AV) (objs:List Ob) (K:Res→Option R):Option R:=match sel0 args objs with
 |some l=>(pipeline_validWindow m l).bind fun r=>K ((.dat 34 (.int r)),[])
 |none=>none
noncomputable def ct52 {R:Type} (m:Nat) (args:List AV) (objs:List Ob) (K:Res→Option R):Option R:=match sel29 args objs with
 |some l=>(lookN l.1 l.2).bind fun r=>K ((.dat 34 (.int r)),[])
 |none=>none
noncomputable def ct53 {R:Type} (m:Nat) (args:List AV) (objs:List Ob) (K:Res→Option R):Option R:=match sel30 args objs with
 |some l=>(facetN l).bind fun r=>K ((.dat 34 (.int r)),[])
 |none=>none
noncomputable def ct54 {R:Type} (m:Nat) (args:List AV) (objs:List Ob) (K:Res→Option R):Option R:=match sel13 args objs with
 |some l=>(buckN l).bind fun r=>K ((.dat 34 (.int r)),[])
 |none=>none
noncomputable def ct55 {R:Type} (m:Nat) (args:List AV) (objs:List Ob) (K:Res→Option R):Option R:=match sel9 args objs with
 |some l=>(expr_Valid m l).bind fun r=>K ((.dat 34 (.int r)),[])
 |none=>none
noncomputable def ct56 {R:Type} (m:Nat) (args:List AV) (objs:List Ob) (K:Res→Option R):Option R:=match sel13 args objs with
 |some l=>(nearN l).bind fun r=>K ((.dat 34 (.int r)),[])
 |none=>none
noncomputable def ct57 {R:Type} (m:Nat) (args:List AV) (objs:List Ob) (K:Res→Option R):Option R:=match sel34 args objs with
 |some l=>(mergeN l).bind fun r=>K ((.dat 34 (.int r)),[])
 |none=>none
noncomputable def ct58 {R:Type} (m:Nat) (args:List AV) (objs:List Ob) (K:Res→Option R):Option R:=match sel9 args objs with
 |some l=>(ref08_node m l).bind fun r=>K ((.dat 34 (.int r)),[])
 |none=>none
noncomputable def ct59 {R:Type} (m:Nat) (args:List AV) (objs:List Ob) (K:Res→Option R):Option R:=match sel36 args objs with
 |some l=>(ref23_SameExpr m l.1 l.2).bind fun r=>K ((.dat 4 (.bool r)),[])
 |none=>none
noncomputable def ct89 {R:Type} (m:Nat) (args:List AV) (objs:List Ob) (K:Res→Option R):Option R:=match sel17 args objs with
 |some l=>(slices_Equal m l.1 l.2).bind fun r=>K ((.dat 4 (.bool r)),[])
 |none=>none
noncomputable def ct90 {R:Type} (m:Nat) (args:List AV) (objs:List Ob) (K:Res→Option R):Option R:=match sel38 args objs with
 |some l=>(i38 m l).bind fun r=>K ((.dat 4 (.bool r)),[])
 |none=>none
noncomputable def ct117 {R:Type} (m:Nat) (args:List AV) (objs:List Ob) (K:Res→Option R):Option R:=match sel38 args objs with
 |some l=>(i39 m l).bind fun r=>K ((.dat 3 (.int r)),[])
 |none=>none
noncomputable def ct91 {R:Type} (m:Nat) (args:List AV) (objs:List Ob) (K:Res→Option R):Option R:=match sel11 args objs with
 |some l=>(path_notName m l).bind fun r=>K ((.dat 4 (.bool r)),[])
 |none=>none
noncomputable def ct92 {R:Type} (m:Nat) (args:List AV) (objs:List Ob) (K:Res→Option R):Option R:=match sel11 args objs with
 |some l=>(pipeline_isName m l).bind fun r=>K ((.dat 4 (.bool r)),[])
 |none=>none
noncomputable def ct94 {R:Type} (m:Nat) (args:List AV) (objs:List Ob) (K:Res→Option R):Option R:=match sel12 args objs with
 |some l=>(pipeline_validOut m l).bind fun r=>K ((.dat 34 (.int r)),[])
 |none=>none
noncomputable def ct96 {R:Type} (m:Nat) (args:List AV) (objs:List Ob) (K:Res→Option R):Option R:=match sel43 args objs with
 |some l=>(i43 m l.1 l.2.1 l.2.2).bind fun r=>K ((.dat 34 (.int r.1)),[(.box 3 (.dat 3 (.int r.2)))])
 |none=>none
noncomputable def ct121 {R:Type} (m:Nat) (args:List AV) (objs:List Ob) (K:Res→Option R):Option R:=match sel9 args objs with
 |some l=>(expr_checkNode m l).bind fun r=>K ((.dat 34 (.int r)),[])
 |none=>none
noncomputable def ct100 {R:Type} (m:Nat) (args:List AV) (objs:List Ob) (K:Res→Option R):Option R:=match sel45 args objs with
 |some l=>(ref01_Valid m l).bind fun r=>K ((.dat 4 (.bool r)),[])
 |none=>none
noncomputable def ct101 {R:Type} (m:Nat) (args:List AV) (objs:List Ob) (K:Res→Option R):Option R:=match sel46 args objs with
 |some l=>(ref01_Same m l.1 l.2).bind fun r=>K ((.dat 4 (.bool r)),[])
 |none=>none
noncomputable def ct99 {R:Type} (m:Nat) (args:List AV) (objs:List Ob) (K:Res→Option R):Option R:=match sel16 args objs with
 |some l=>(ref08_named m l).bind fun r=>K ((.dat 4 (.bool r)),[])
 |none=>none
noncomputable def ct98 {R:Type} (m:Nat) (args:List AV) (objs:List Ob) (K:Res→Option R):Option R:=match sel48 args objs with
 |some l=>(ref08_Kids m l).bind fun r=>K ((.dat 3 (.int r)),[])
 |none=>none
noncomputable def ct102 {R:Type} (m:Nat) (args:List AV) (objs:List Ob) (K:Res→Option R):Option R:=match sel17 args objs with
 |some l=>(ref04_Same m l.1 l.2).bind fun r=>K ((.dat 4 (.bool r)),[])
 |none=>none
noncomputable def ct79 {R:Type} (m:Nat) (args:List AV) (objs:List Ob) (K:Res→Option R):Option R:=match sel9 args objs with
 |some l=>(pipeline_zeroExpr m l).bind fun r=>K ((.dat 4 (.bool r)),[])
 |none=>none
noncomputable def ct157 {R:Type} (m:Nat) (args:List AV) (objs:List Ob) (K:Res→Option R):Option R:=match sel11 args objs with
 |some l=>(expr_isName m l).bind fun r=>K ((.dat 4 (.bool r)),[])
 |none=>none
noncomputable def ct95 {R:Type} (m:Nat) (args:List AV) (objs:List Ob) (K:Res→Option R):Option R:=match sel45 args objs with
 |some l=>(value_Valid m l).bind fun r=>K ((.dat 4 (.bool r)),[])
 |none=>none
noncomputable def ct159 {R:Type} (m:Nat) (args:List AV) (objs:List Ob) (K:Res→Option R):Option R:=match sel45 args objs with
 |some l=>(expr_isZero m l).bind fun r=>K ((.dat 4 (.bool r)),[])
 |none=>none
noncomputable def ct158 {R:Type} (m:Nat) (args:List AV) (objs:List Ob) (K:Res→Option R):Option R:=match sel16 args objs with
 |some l=>(expr_distinctNames m l).bind fun r=>K ((.dat 4 (.bool r)),[])
 |none=>none
noncomputable def ct156 {R:Type} (m:Nat) (args:List AV) (objs:List Ob) (K:Res→Option R):Option R:=match sel48 args objs with
 |some l=>(expr_shape m l).bind fun r=>K ((.dat 3 (.int r)),[])
 |none=>none
noncomputable def ct155 {R:Type} (m:Nat) (args:List AV) (objs:List Ob) (K:Res→Option R):Option R:=match sel56 args objs with
 |some l=>(expr_hasKids m l.1 l.2).bind fun r=>K ((.dat 4 (.bool r)),[])
 |none=>none
noncomputable def ct124 {R:Type} (m:Nat) (args:List AV) (objs:List Ob) (K:Res→Option R):Option R:=match sel45 args objs with
 |some l=>(ref01_Depth m l).bind fun r=>K ((.dat 3 (.int r)),[])
 |none=>none
noncomputable def ct125 {R:Type} (m:Nat) (args:List AV) (objs:List Ob) (K:Res→Option R):Option R:=match sel45 args objs with
 |some l=>(ref01_Nodes m l).bind fun r=>K ((.dat 3 (.int r)),[])
 |none=>none
noncomputable def ct126 {R:Type} (m:Nat) (args:List AV) (objs:List Ob) (K:Res→Option R):Option R:=match sel59 args objs with
 |some l=>(ref01_formed m l.1 l.2).bind fun r=>K ((.dat 4 (.bool r)),[])
 |none=>none
noncomputable def ct127 {R:Type} (m:Nat) (args:List AV) (objs:List Ob) (K:Res→Option R):Option R:=match sel17 args objs with
 |some l=>(ref04_prefix m l.1 l.2).bind fun r=>K ((.dat 4 (.bool r)),[])
 |none=>none
noncomputable def ct115 {R:Type} (m:Nat) (args:List AV) (objs:List Ob) (K:Res→Option R):Option R:=match sel45 args objs with
 |some l=>(pipeline_zeroValue m l).bind fun r=>K ((.dat 4 (.bool r)),[])
 |none=>none
noncomputable def ct118 {R:Type} (m:Nat) (args:List AV) (objs:List Ob) (K:Res→Option R):Option R:=match sel45 args objs with
 |some l=>(value_Nodes m l).bind fun r=>K ((.dat 3 (.int r)),[])
 |none=>none
noncomputable def ct119 {R:Type} (m:Nat) (args:List AV) (objs:List Ob) (K:Res→Option R):Option R:=match sel45 args objs with
 |some l=>(value_Depth m l).bind fun r=>K ((.dat 3 (.int r)),[])
 |none=>none
noncomputable def ct120 {R:Type} (m:Nat) (args:List AV) (objs:List Ob) (K:Res→Option R):Option R:=match sel45 args objs with
 |some l=>(value_sound m l).bind fun r=>K ((.dat 4 (.bool r)),[])
 |none=>none
noncomputable def ct160 {R:Type} (m:Nat) (args:List AV) (objs:List Ob) (K:Res→Option R):Option R:=match sel65 args objs with
 |some l=>(ref01_levels m l.1 l.2).bind fun r=>K ((.dat 3 (.int r)),[])
 |none=>none
noncomputable def ct161 {R:Type} (m:Nat) (args:List AV) (objs:List Ob) (K:Res→Option R):Option R:=match sel65 args objs with
 |some l=>(ref01_count m l.1 l.2).bind fun r=>K ((.dat 3 (.int r)),[])
 |none=>none
noncomputable def ct162 {R:Type} (m:Nat) (args:List AV) (objs:List Ob) (K:Res→Option R):Option R:=match sel11 args objs with
 |some l=>(ref01_UTF8 m l).bind fun r=>K ((.dat 4 (.bool r)),[])
 |none=>none
noncomputable def ct163 {R:Type} (m:Nat) (args:List AV) (objs:List Ob) (K:Res→Option R):Option R:=match sel59 args objs with
 |some l=>(ref01_fields m l.1 l.2).bind fun r=>K ((.dat 4 (.bool r)),[])
 |none=>none
noncomputable def ct151 {R:Type} (m:Nat) (args:List AV) (objs:List Ob) (K:Res→Option R):Option R:=match sel65 args objs with
 |some l=>(value_nodes m l.1 l.2).bind fun r=>K ((.dat 3 (.int r)),[])
 |none=>none
noncomputable def ct152 {R:Type} (m:Nat) (args:List AV) (objs:List Ob) (K:Res→Option R):Option R:=match sel65 args objs with
 |some l=>(value_depth m l.1 l.2).bind fun r=>K ((.dat 3 (.int r)),[])
 |none=>none
noncomputable def ct153 {R:Type} (m:Nat) (args:List AV) (objs:List Ob) (K:Res→Option R):Option R:=match sel11 args objs with
 |some l=>(utf8_ValidString l).bind fun r=>K ((.dat 4 (.bool r)),[])
 |none=>none
noncomputable def ct154 {R:Type} (m:Nat) (args:List AV) (objs:List Ob) (K:Res→Option R):Option R:=match sel72 args objs with
 |some l=>(value_soundFields m l).bind fun r=>K ((.dat 4 (.bool r)),[])
 |none=>none
noncomputable def ct185 {R:Type} (m:Nat) (args:List AV) (objs:List Ob) (K:Res→Option R):Option R:=match sel45 args objs with
 |some l=>(ref01_Parts m l).bind fun r=>K ((.dat 23 (.lst r)),[])
 |none=>none
noncomputable def ct186 {R:Type} (m:Nat) (args:List AV) (objs:List Ob) (K:Res→Option R):Option R:=match sel74 args objs with
 |some l=>(ref01_tail m l.1 l.2.1 l.2.2).bind fun r=>K ((.dat 4 (.bool r)),[])
 |none=>none
noncomputable def ct187 {R:Type} (m:Nat) (args:List AV) (objs:List Ob) (K:Res→Option R):Option R:=match sel11 args objs with
 |some l=>(ref01_wide m l).bind fun r=>K ((.dat 4 (.bool r)),[])
 |none=>none
noncomputable def ct180 {R:Type} (m:Nat) (args:List AV) (objs:List Ob) (K:Res→Option R):Option R:=match sel76 args objs with
 |some l=>(i76 m l.1 l.2.1 l.2.2).bind fun r=>K ((.tup []),[(.box 3 (.dat 3 (.int r.1))),(.box 3 (.dat 3 (.int r.2)))])
 |none=>match sel78 args objs with
 |some l=>(i78 m l.1 l.2.1 l.2.2).bind fun r=>K ((.tup []),[(.box 3 (.dat 3 (.int r.1))),(.box 3 (.dat 3 (.int r.2)))])
 |none=>none
noncomputable def ct181 {R:Type} (m:Nat) (args:List AV) (objs:List Ob) (K:Res→Option R):Option R:=match sel77 args objs with
 |some l=>(i77 m l.1 l.2.1 l.2.2).bind fun r=>K ((.dat 4 (.bool r.1)),[(.box 3 (.dat 3 (.int r.2.1))),(.box 3 (.dat 3 (.int r.2.2)))])
 |none=>none
noncomputable def ct182 {R:Type} (m:Nat) (args:List AV) (objs:List Ob) (K:Res→Option R):Option R:=match sel77 args objs with
 |some l=>(i79 m l.1 l.2.1 l.2.2).bind fun r=>K ((.dat 4 (.bool r.1)),[(.box 3 (.dat 3 (.int r.2.1))),(.box 3 (.dat 3 (.int r.2.2)))])
 |none=>none
noncomputable def ct184 {R:Type} (m:Nat) (args:List AV) (objs:List Ob) (K:Res→Option R):Option R:=match sel11 args objs with
 |some l=>(value_isName m l).bind fun r=>K ((.dat 4 (.bool r)),[])
 |none=>none
noncomputable def d7 (q:Res):Option (List Dt):=match q with
 |(.dat T0 x0,[])=>bif Nat.beq T0 80 then some x0.toLst else none
 |_=>none
theorem d7_sim {b:Res} {r:List Dt} (h:d7 b=some r):Sim Tryz.prog b ((.dat 80 (.lst r)),[]):=by
 unfold d7 at h
 split at h
 ·obtain⟨hc,h2⟩:=bif_some h
  cases h2
  have e0:=beq_eq hc
  subst e0
  exact Sim.of (.of (.dat (.lst Tryz.underlying80)) rfl rfl) .nil
 ·cases h
noncomputable def d6 (q:Res):Option (Bool×Int):=match q with
 |(.dat T0 x0,[.box T1 (.dat T2 x2)])=>bif (Nat.beq T0 4&&(Nat.beq T1 3&&Nat.beq T2 3)) then some (x0.toBool,x2.toInt) else none
 |_=>none
theorem d6_sim {b:Res} {r:Bool×Int} (h:d6 b=some r):Sim Tryz.prog b ((.dat 4 (.bool r.1)),[(.box 3 (.dat 3 (.int r.2)))]):=by
 unfold d6 at h
 split at h
 ·obtain⟨hc,h2⟩:=bif_some h
  cases h2
  have e0:=beq_eq (and_l hc)
  have e1:=beq_eq (and_l (and_r hc))
  have e2:=beq_eq (and_r (and_r hc))
  subst e0 e1 e2
  exact Sim.of (.of (.dat (.bool Tryz.underlying4)) rfl rfl) (.cons (.box (.dat (.int Tryz.underlying3))) .nil)
 ·cases h
noncomputable def d17 (q:Res):Option Bool:=match q with
 |(.dat T0 x0,[])=>bif Nat.beq T0 4 then some x0.toBool else none
 |_=>none
theorem d17_sim {b:Res} {r:Bool} (h:d17 b=some r):Sim Tryz.prog b ((.dat 4 (.bool r)),[]):=by
 unfold d17 at h
 split at h
 ·obtain⟨hc,h2⟩:=bif_some h
  cases h2
  have e0:=beq_eq hc
  subst e0
  exact Sim.of (.of (.dat (.bool Tryz.underlying4)) rfl rfl) .nil
 ·cases h
noncomputable def d10 (q:Res):Option Int:=match q with
 |(.dat T0 x0,[])=>bif Nat.beq T0 34 then some x0.toInt else none
 |_=>none
theorem d10_sim {b:Res} {r:Int} (h:d10 b=some r):Sim Tryz.prog b ((.dat 34 (.int r)),[]):=by
 unfold d10 at h
 split at h
 ·obtain⟨hc,h2⟩:=bif_some h
  cases h2
  have e0:=beq_eq hc
  subst e0
  exact Sim.of (.of (.dat (.int Tryz.underlying34)) rfl rfl) .nil
 ·cases h
noncomputable def d39 (q:Res):Option Int:=match q with
 |(.dat T0 x0,[])=>bif Nat.beq T0 3 then some x0.toInt else none
 |_=>none
theorem d39_sim {b:Res} {r:Int} (h:d39 b=some r):Sim Tryz.prog b ((.dat 3 (.int r)),[]):=by
 unfold d39 at h
 split at h
 ·obtain⟨hc,h2⟩:=bif_some h
  cases h2
  have e0:=beq_eq hc
  subst e0
  exact Sim.of (.of (.dat (.int Tryz.underlying3)) rfl rfl) .nil
 ·cases h
noncomputable def d76 (q:Res):Option (Int×Int):=match q with
 |(.tup [],[.box T0 (.dat T1 x1),.box T2 (.dat T3 x3)])=>bif (Nat.beq T0 3&&(Nat.beq T1 3&&(Nat.beq T2 3&&Nat.beq T3 3))) then some (x1.toInt,x3.toInt) else none
 |_=>none
theorem d76_sim {b:Res} {r:Int×Int} (h:d76 b=some r):Sim Tryz.prog b ((.tup []),[(.box 3 (.dat 3 (.int r.1))),(.box 3 (.dat 3 (.int r.2)))]):=by
 unfold d76 at h
 split at h
 ·obtain⟨hc,h2⟩:=bif_some h
  cases h2
  have e0:=beq_eq (and_l hc)
  have e1:=beq_eq (and_l (and_r hc))
  have e2:=beq_eq (and_l (and_r (and_r hc)))
  have e3:=beq_eq (and_r (and_r (and_r hc)))
  subst e0 e1 e2 e3
  exact Sim.of (.tup .nil) (.cons (.box (.dat (.int Tryz.underlying3))) (.cons (.box (.dat (.int Tryz.underlying3))) .nil))
 ·cases h
noncomputable def d77 (q:Res):Option (Bool×Int×Int):=match q with
 |(.dat T0 x0,[.box T1 (.dat T2 x2),.box T3 (.dat T4 x4)])=>bif (Nat.beq T0 4&&(Nat.beq T1 3&&(Nat.beq T2 3&&(Nat.beq T3 3&&Nat.beq T4 3)))) then some (x0.toBool,x2.toInt,x4.toInt) else none
 |_=>none
theorem d77_sim {b:Res} {r:Bool×Int×Int} (h:d77 b=some r):Sim Tryz.prog b ((.dat 4 (.bool r.1)),[(.box 3 (.dat 3 (.int r.2.1))),(.box 3 (.dat 3 (.int r.2.2)))]):=by
 unfold d77 at h
 split at h
 ·obtain⟨hc,h2⟩:=bif_some h
  cases h2
  have e0:=beq_eq (and_l hc)
  have e1:=beq_eq (and_l (and_r hc))
  have e2:=beq_eq (and_l (and_r (and_r hc)))
  have e3:=beq_eq (and_l (and_r (and_r (and_r hc))))
  have e4:=beq_eq (and_r (and_r (and_r (and_r hc))))
  subst e0 e1 e2 e3 e4
  exact Sim.of (.of (.dat (.bool Tryz.underlying4)) rfl rfl) (.cons (.box (.dat (.int Tryz.underlying3))) (.cons (.box (.dat (.int Tryz.underlying3))) .nil))
 ·cases h
noncomputable def d73 (q:Res):Option (List Dt):=match q with
 |(.dat T0 x0,[])=>bif Nat.beq T0 23 then some x0.toLst else none
 |_=>none
theorem d73_sim {b:Res} {r:List Dt} (h:d73 b=some r):Sim Tryz.prog b ((.dat 23 (.lst r)),[]):=by
 unfold d73 at h
 split at h
 ·obtain⟨hc,h2⟩:=bif_some h
  cases h2
  have e0:=beq_eq hc
  subst e0
  exact Sim.of (.of (.dat (.lst Tryz.underlying23)) rfl rfl) .nil
 ·cases h
noncomputable def d15 (q:Res):Option (Int×Int):=match q with
 |(.tup [.dat T0 x0,.dat T1 x1],[])=>bif (Nat.beq T0 3&&Nat.beq T1 34) then some (x0.toInt,x1.toInt) else none
 |_=>none
theorem d15_sim {b:Res} {r:Int×Int} (h:d15 b=some r):Sim Tryz.prog b ((.tup [(.dat 3 (.int r.1)),(.dat 34 (.int r.2))]),[]):=by
 unfold d15 at h
 split at h
 ·obtain⟨hc,h2⟩:=bif_some h
  cases h2
  have e0:=beq_eq (and_l hc)
  have e1:=beq_eq (and_r hc)
  subst e0 e1
  exact Sim.of (.tup (.cons (.dat (.int Tryz.underlying3)) (.cons (.dat (.int Tryz.underlying34)) .nil))) .nil
 ·cases h
noncomputable def d43 (q:Res):Option (Int×Int):=match q with
 |(.dat T0 x0,[.box T1 (.dat T2 x2)])=>bif (Nat.beq T0 34&&(Nat.beq T1 3&&Nat.beq T2 3)) then some (x0.toInt,x2.toInt) else none
 |_=>none
theorem d43_sim {b:Res} {r:Int×Int} (h:d43 b=some r):Sim Tryz.prog b ((.dat 34 (.int r.1)),[(.box 3 (.dat 3 (.int r.2)))]):=by
 unfold d43 at h
 split at h
 ·obtain⟨hc,h2⟩:=bif_some h
  cases h2
  have e0:=beq_eq (and_l hc)
  have e1:=beq_eq (and_l (and_r hc))
  have e2:=beq_eq (and_r (and_r hc))
  subst e0 e1 e2
  exact Sim.of (.of (.dat (.int Tryz.underlying34)) rfl rfl) (.cons (.box (.dat (.int Tryz.underlying3))) .nil)
 ·cases h
noncomputable def ct {R:Type} (m:Nat) (f:FuncId) (args:List AV) (objs:List Ob) (K:Res→Option R):Option R:=
 bif Nat.beq f 3 then ct3 m args objs K else
 bif Nat.beq f 4 then ct4 m args objs K else
 bif Nat.beq f 5 then ct5 m args objs K else
 bif Nat.beq f 6 then ct6 m args objs K else
 bif Nat.beq f 7 then ct7 m args objs K else
 bif Nat.beq f 8 then ct8 m args objs K else
 bif Nat.beq f 11 then ct11 m args objs K else
 bif Nat.beq f 22 then ct22 m args objs K else
 bif Nat.beq f 12 then ct12 m args objs K else
 bif Nat.beq f 13 then ct13 m args objs K else
 bif Nat.beq f 14 then ct14 m args objs K else
 bif Nat.beq f 15 then ct15 m args objs K else
 bif Nat.beq f 16 then ct16 m args objs K else
 bif Nat.beq f 23 then ct23 m args objs K else
 bif Nat.beq f 24 then ct24 m args objs K else
 bif Nat.beq f 25 then ct25 m args objs K else
 bif Nat.beq f 26 then ct26 m args objs K else
 bif Nat.beq f 27 then ct27 m args objs K else
 bif Nat.beq f 28 then ct28 m args objs K else
 bif Nat.beq f 29 then ct29 m args objs K else
 bif Nat.beq f 43 then ct43 m args objs K else
 bif Nat.beq f 44 then ct44 m args objs K else
 bif Nat.beq f 45 then ct45 m args objs K else
 bif Nat.beq f 46 then ct46 m args objs K else
 bif Nat.beq f 47 then ct47 m args objs K else
 bif Nat.beq f 48 then ct48 m args objs K else
 bif Nat.beq f 49 then ct49 m args objs K else
 bif Nat.beq f 50 then ct50 m args objs K else
 bif Nat.beq f 51 then ct51 m args objs K else
 bif Nat.beq f 52 then ct52 m args objs K else
 bif Nat.beq f 53 then ct53 m args objs K else
 bif Nat.beq f 54 then ct54 m args objs K else
 bif Nat.beq f 55 then ct55 m args objs K else
 bif Nat.beq f 56 then ct56 m args objs K else
 bif Nat.beq f 57 then ct57 m args objs K else
 bif Nat.beq f 58 then ct58 m args objs K else
 bif Nat.beq f 59 then ct59 m args objs K else
 bif Nat.beq f 89 then ct89 m args objs K else
 bif Nat.beq f 90 then ct90 m args objs K else
 bif Nat.beq f 117 then ct117 m args objs K else
 bif Nat.beq f 91 then ct91 m args objs K else
 bif Nat.beq f 92 then ct92 m args objs K else
 bif Nat.beq f 94 then ct94 m args objs K else
 bif Nat.beq f 96 then ct96 m args objs K else
 bif Nat.beq f 121 then ct121 m args objs K else
 bif Nat.beq f 100 then ct100 m args objs K else
 bif Nat.beq f 101 then ct101 m args objs K else
 bif Nat.beq f 99 then ct99 m args objs K else
 bif Nat.beq f 98 then ct98 m args objs K else
 bif Nat.beq f 102 then ct102 m args objs K else
 bif Nat.beq f 79 then ct79 m args objs K else
 bif Nat.beq f 157 then ct157 m args objs K else
 bif Nat.beq f 95 then ct95 m args objs K else
 bif Nat.beq f 159 then ct159 m args objs K else
 bif Nat.beq f 158 then ct158 m args objs K else
 bif Nat.beq f 156 then ct156 m args objs K else
 bif Nat.beq f 155 then ct155 m args objs K else
 bif Nat.beq f 124 then ct124 m args objs K else
 bif Nat.beq f 125 then ct125 m args objs K else
 bif Nat.beq f 126 then ct126 m args objs K else
 bif Nat.beq f 127 then ct127 m args objs K else
 bif Nat.beq f 115 then ct115 m args objs K else
 bif Nat.beq f 118 then ct118 m args objs K else
 bif Nat.beq f 119 then ct119 m args objs K else
 bif Nat.beq f 120 then ct120 m args objs K else
 bif Nat.beq f 160 then ct160 m args objs K else
 bif Nat.beq f 161 then ct161 m args objs K else
 bif Nat.beq f 162 then ct162 m args objs K else
 bif Nat.beq f 163 then ct163 m args objs K else
 bif Nat.beq f 151 then ct151 m args objs K else
 bif Nat.beq f 152 then ct152 m args objs K else
 bif Nat.beq f 153 then ct153 m args objs K else
 bif Nat.beq f 154 then ct154 m args objs K else
 bif Nat.beq f 185 then ct185 m args objs K else
 bif Nat.beq f 186 then ct186 m args objs K else
 bif Nat.beq f 187 then ct187 m args objs K else
 bif Nat.beq f 180 then ct180 m args objs K else
 bif Nat.beq f 181 then ct181 m args objs K else
 bif Nat.beq f 182 then ct182 m args objs K else
 bif Nat.beq f 184 then ct184 m args objs K else
 none
end Go.Proofs.YtbailjcjlapenaaGreatDoor
