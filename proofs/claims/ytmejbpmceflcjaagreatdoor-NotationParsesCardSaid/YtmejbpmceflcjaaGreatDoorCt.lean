/- Generated: the functions as contracts for their callers. -/
import Derived.Test.YtmejbpmceflcjaaGreatDoorSh
import Derived.Test.YtmejbpmceflcjaaGreatDoorProg
set_option linter.unusedVariables false
set_option linter.unusedSimpArgs false
namespace Go.Proofs.YtmejbpmceflcjaaGreatDoor
open Go.Am
def sel0 (args:List AV) (objs:List Ob):Option ByteArray:=match args,objs with
 | [.dat T0 x0],[]=>bif Nat.beq T0 9 then some x0.toStr else none
 |_,_=>none
theorem sel0_ok {args:List AV} {objs:List Ob} {l:ByteArray} (h:sel0 args objs=some l):CnA Tryz.prog args [(.dat 9 (.str l))]∧CnOL Tryz.prog objs []:=by
 unfold sel0 at h
 split at h
 ·obtain⟨hc,h2⟩:=bif_some h
  cases h2
  have e0:=beq_eq hc
  subst e0
  exact⟨(.cons (.of (.dat (.str Tryz.underlying9)) rfl rfl) .nil),.nil⟩
 ·cases h
def sel1 (args:List AV) (objs:List Ob):Option Unit:=match args,objs with
 | [],[]=>bif true then some () else none
 |_,_=>none
theorem sel1_ok {args:List AV} {objs:List Ob} {l:Unit} (h:sel1 args objs=some l):CnA Tryz.prog args []∧CnOL Tryz.prog objs []:=by
 unfold sel1 at h
 split at h
 ·obtain⟨hc,h2⟩:=bif_some h
  cases h2
  exact⟨.nil,.nil⟩
 ·cases h
def sel4 (args:List AV) (objs:List Ob):Option (Dt×Dt):=match args,objs with
 | [.dat T0 x0,.dat T1 x1],[]=>bif (Nat.beq T0 25&&Nat.beq T1 25) then some (x0,x1) else none
 |_,_=>none
theorem sel4_ok {args:List AV} {objs:List Ob} {l:Dt×Dt} (h:sel4 args objs=some l):CnA Tryz.prog args [(.dat 25 l.1),(.dat 25 l.2)]∧CnOL Tryz.prog objs []:=by
 unfold sel4 at h
 split at h
 ·obtain⟨hc,h2⟩:=bif_some h
  cases h2
  have e0:=beq_eq (and_l hc)
  have e1:=beq_eq (and_r hc)
  subst e0 e1
  exact⟨(.cons (.of .same rfl rfl) (.cons (.of .same rfl rfl) .nil)),.nil⟩
 ·cases h
def sel5 (args:List AV) (objs:List Ob):Option Dt:=match args,objs with
 | [.ptr n0 p0 o0],[.box T1 (.dat T2 x2)]=>bif (Nat.beq n0 0&&(natsB p0 []&&(Nat.beq o0 0&&(Nat.beq T1 46&&Nat.beq T2 46)))) then some x2 else none
 |_,_=>none
theorem sel5_ok {args:List AV} {objs:List Ob} {l:Dt} (h:sel5 args objs=some l):CnA Tryz.prog args [(.ptr 0 [] 0)]∧CnOL Tryz.prog objs [(.box 46 (.dat 46 l))]:=by
 unfold sel5 at h
 split at h
 ·obtain⟨hc,h2⟩:=bif_some h
  cases h2
  have e0:=beq_eq (and_l hc)
  have e1:=natsB_eq (and_l (and_r hc))
  have e2:=beq_eq (and_l (and_r (and_r hc)))
  have e3:=beq_eq (and_l (and_r (and_r (and_r hc))))
  have e4:=beq_eq (and_r (and_r (and_r (and_r hc))))
  subst e0 e1 e2 e3 e4
  exact⟨(.cons (.of .same rfl rfl) .nil),(.cons (.box .same) .nil)⟩
 ·cases h
def sel7 (args:List AV) (objs:List Ob):Option (Int×Bool×Dt):=match args,objs with
 | [.ptr n0 p0 o0,.dat T1 x1,.dat T2 x2],[.box T3 (.dat T4 x4)]=>bif (Nat.beq n0 0&&(natsB p0 []&&(Nat.beq o0 0&&(Nat.beq T1 3&&(Nat.beq T2 4&&(Nat.beq T3 46&&Nat.beq T4 46)))))) then some (x1.toInt,x2.toBool,x4) else none
 |_,_=>none
theorem sel7_ok {args:List AV} {objs:List Ob} {l:Int×Bool×Dt} (h:sel7 args objs=some l):CnA Tryz.prog args [(.ptr 0 [] 0),(.dat 3 (.int l.1)),(.dat 4 (.bool l.2.1))]∧CnOL Tryz.prog objs [(.box 46 (.dat 46 l.2.2))]:=by
 unfold sel7 at h
 split at h
 ·obtain⟨hc,h2⟩:=bif_some h
  cases h2
  have e0:=beq_eq (and_l hc)
  have e1:=natsB_eq (and_l (and_r hc))
  have e2:=beq_eq (and_l (and_r (and_r hc)))
  have e3:=beq_eq (and_l (and_r (and_r (and_r hc))))
  have e4:=beq_eq (and_l (and_r (and_r (and_r (and_r hc)))))
  have e5:=beq_eq (and_l (and_r (and_r (and_r (and_r (and_r hc))))))
  have e6:=beq_eq (and_r (and_r (and_r (and_r (and_r (and_r hc))))))
  subst e0 e1 e2 e3 e4 e5 e6
  exact⟨(.cons (.of .same rfl rfl) (.cons (.of (.dat (.int Tryz.underlying3)) rfl rfl) (.cons (.of (.dat (.bool Tryz.underlying4)) rfl rfl) .nil))),(.cons (.box .same) .nil)⟩
 ·cases h
def sel8 (args:List AV) (objs:List Ob):Option (Int×Int×Dt):=match args,objs with
 | [.ptr n0 p0 o0,.dat T1 x1,.dat T2 x2],[.box T3 (.dat T4 x4)]=>bif (Nat.beq n0 0&&(natsB p0 []&&(Nat.beq o0 0&&(Nat.beq T1 3&&(Nat.beq T2 3&&(Nat.beq T3 46&&Nat.beq T4 46)))))) then some (x1.toInt,x2.toInt,x4) else none
 |_,_=>none
theorem sel8_ok {args:List AV} {objs:List Ob} {l:Int×Int×Dt} (h:sel8 args objs=some l):CnA Tryz.prog args [(.ptr 0 [] 0),(.dat 3 (.int l.1)),(.dat 3 (.int l.2.1))]∧CnOL Tryz.prog objs [(.box 46 (.dat 46 l.2.2))]:=by
 unfold sel8 at h
 split at h
 ·obtain⟨hc,h2⟩:=bif_some h
  cases h2
  have e0:=beq_eq (and_l hc)
  have e1:=natsB_eq (and_l (and_r hc))
  have e2:=beq_eq (and_l (and_r (and_r hc)))
  have e3:=beq_eq (and_l (and_r (and_r (and_r hc))))
  have e4:=beq_eq (and_l (and_r (and_r (and_r (and_r hc)))))
  have e5:=beq_eq (and_l (and_r (and_r (and_r (and_r (and_r hc))))))
  have e6:=beq_eq (and_r (and_r (and_r (and_r (and_r (and_r hc))))))
  subst e0 e1 e2 e3 e4 e5 e6
  exact⟨(.cons (.of .same rfl rfl) (.cons (.of (.dat (.int Tryz.underlying3)) rfl rfl) (.cons (.of (.dat (.int Tryz.underlying3)) rfl rfl) .nil))),(.cons (.box .same) .nil)⟩
 ·cases h
def sel9 (args:List AV) (objs:List Ob):Option (Int×Int×Dt):=match args,objs with
 | [.ptr n0 p0 o0,.dat T1 x1,.dat T2 x2],[.box T3 (.dat T4 x4)]=>bif (Nat.beq n0 0&&(natsB p0 []&&(Nat.beq o0 0&&(Nat.beq T1 28&&(Nat.beq T2 3&&(Nat.beq T3 46&&Nat.beq T4 46)))))) then some (x1.toInt,x2.toInt,x4) else none
 |_,_=>none
theorem sel9_ok {args:List AV} {objs:List Ob} {l:Int×Int×Dt} (h:sel9 args objs=some l):CnA Tryz.prog args [(.ptr 0 [] 0),(.dat 28 (.int l.1)),(.dat 3 (.int l.2.1))]∧CnOL Tryz.prog objs [(.box 46 (.dat 46 l.2.2))]:=by
 unfold sel9 at h
 split at h
 ·obtain⟨hc,h2⟩:=bif_some h
  cases h2
  have e0:=beq_eq (and_l hc)
  have e1:=natsB_eq (and_l (and_r hc))
  have e2:=beq_eq (and_l (and_r (and_r hc)))
  have e3:=beq_eq (and_l (and_r (and_r (and_r hc))))
  have e4:=beq_eq (and_l (and_r (and_r (and_r (and_r hc)))))
  have e5:=beq_eq (and_l (and_r (and_r (and_r (and_r (and_r hc))))))
  have e6:=beq_eq (and_r (and_r (and_r (and_r (and_r (and_r hc))))))
  subst e0 e1 e2 e3 e4 e5 e6
  exact⟨(.cons (.of .same rfl rfl) (.cons (.of (.dat (.int Tryz.underlying28)) rfl rfl) (.cons (.of (.dat (.int Tryz.underlying3)) rfl rfl) .nil))),(.cons (.box .same) .nil)⟩
 ·cases h
def sel14 (args:List AV) (objs:List Ob):Option (Int×List Dt):=match args,objs with
 | [.row n0,.dat T1 x1],[.row T2 x2]=>bif (Nat.beq n0 0&&(Nat.beq T1 21&&Nat.beq T2 40)) then some (x1.toInt,x2) else none
 |_,_=>none
theorem sel14_ok {args:List AV} {objs:List Ob} {l:Int×List Dt} (h:sel14 args objs=some l):CnA Tryz.prog args [(.row 0),(.dat 21 (.int l.1))]∧CnOL Tryz.prog objs [(.row 40 l.2)]:=by
 unfold sel14 at h
 split at h
 ·obtain⟨hc,h2⟩:=bif_some h
  cases h2
  have e0:=beq_eq (and_l hc)
  have e1:=beq_eq (and_l (and_r hc))
  have e2:=beq_eq (and_r (and_r hc))
  subst e0 e1 e2
  exact⟨(.cons (.of .same rfl rfl) (.cons (.of (.dat (.int Tryz.underlying21)) rfl rfl) .nil)),(.cons .same .nil)⟩
 ·cases h
def sel17 (args:List AV) (objs:List Ob):Option (Int×Dt):=match args,objs with
 | [.ptr n0 p0 o0,.dat T1 x1],[.box T2 (.dat T3 x3)]=>bif (Nat.beq n0 0&&(natsB p0 []&&(Nat.beq o0 0&&(Nat.beq T1 3&&(Nat.beq T2 46&&Nat.beq T3 46))))) then some (x1.toInt,x3) else none
 |_,_=>none
theorem sel17_ok {args:List AV} {objs:List Ob} {l:Int×Dt} (h:sel17 args objs=some l):CnA Tryz.prog args [(.ptr 0 [] 0),(.dat 3 (.int l.1))]∧CnOL Tryz.prog objs [(.box 46 (.dat 46 l.2))]:=by
 unfold sel17 at h
 split at h
 ·obtain⟨hc,h2⟩:=bif_some h
  cases h2
  have e0:=beq_eq (and_l hc)
  have e1:=natsB_eq (and_l (and_r hc))
  have e2:=beq_eq (and_l (and_r (and_r hc)))
  have e3:=beq_eq (and_l (and_r (and_r (and_r hc))))
  have e4:=beq_eq (and_l (and_r (and_r (and_r (and_r hc)))))
  have e5:=beq_eq (and_r (and_r (and_r (and_r (and_r hc)))))
  subst e0 e1 e2 e3 e4 e5
  exact⟨(.cons (.of .same rfl rfl) (.cons (.of (.dat (.int Tryz.underlying3)) rfl rfl) .nil)),(.cons (.box .same) .nil)⟩
 ·cases h
def sel19 (args:List AV) (objs:List Ob):Option (Dt×List Dt):=match args,objs with
 | [.ptr n0 p0 o0,.row n1],[.box T2 (.dat T3 x3),.map T4 x4]=>bif (Nat.beq n0 0&&(natsB p0 []&&(Nat.beq o0 0&&(Nat.beq n1 1&&(Nat.beq T2 46&&(Nat.beq T3 46&&Nat.beq T4 76)))))) then some (x3,x4) else none
 |_,_=>none
theorem sel19_ok {args:List AV} {objs:List Ob} {l:Dt×List Dt} (h:sel19 args objs=some l):CnA Tryz.prog args [(.ptr 0 [] 0),(.row 1)]∧CnOL Tryz.prog objs [(.box 46 (.dat 46 l.1)),(.map 76 l.2)]:=by
 unfold sel19 at h
 split at h
 ·obtain⟨hc,h2⟩:=bif_some h
  cases h2
  have e0:=beq_eq (and_l hc)
  have e1:=natsB_eq (and_l (and_r hc))
  have e2:=beq_eq (and_l (and_r (and_r hc)))
  have e3:=beq_eq (and_l (and_r (and_r (and_r hc))))
  have e4:=beq_eq (and_l (and_r (and_r (and_r (and_r hc)))))
  have e5:=beq_eq (and_l (and_r (and_r (and_r (and_r (and_r hc))))))
  have e6:=beq_eq (and_r (and_r (and_r (and_r (and_r (and_r hc))))))
  subst e0 e1 e2 e3 e4 e5 e6
  exact⟨(.cons (.of .same rfl rfl) (.cons (.of .same rfl rfl) .nil)),(.cons (.box .same) (.cons .same .nil))⟩
 ·cases h
def sel22 (args:List AV) (objs:List Ob):Option (List Dt):=match args,objs with
 | [.row n0],[.row T1 x1]=>bif (Nat.beq n0 0&&Nat.beq T1 23) then some x1 else none
 |_,_=>none
theorem sel22_ok {args:List AV} {objs:List Ob} {l:List Dt} (h:sel22 args objs=some l):CnA Tryz.prog args [(.row 0)]∧CnOL Tryz.prog objs [(.row 23 l)]:=by
 unfold sel22 at h
 split at h
 ·obtain⟨hc,h2⟩:=bif_some h
  cases h2
  have e0:=beq_eq (and_l hc)
  have e1:=beq_eq (and_r hc)
  subst e0 e1
  exact⟨(.cons (.of .same rfl rfl) .nil),(.cons .same .nil)⟩
 ·cases h
def sel23 (args:List AV) (objs:List Ob):Option Dt:=match args,objs with
 | [.dat T0 x0],[]=>bif Nat.beq T0 25 then some x0 else none
 |_,_=>none
theorem sel23_ok {args:List AV} {objs:List Ob} {l:Dt} (h:sel23 args objs=some l):CnA Tryz.prog args [(.dat 25 l)]∧CnOL Tryz.prog objs []:=by
 unfold sel23 at h
 split at h
 ·obtain⟨hc,h2⟩:=bif_some h
  cases h2
  have e0:=beq_eq hc
  subst e0
  exact⟨(.cons (.of .same rfl rfl) .nil),.nil⟩
 ·cases h
def sel24 (args:List AV) (objs:List Ob):Option (ByteArray×Dt):=match args,objs with
 | [.ptr n0 p0 o0,.dat T1 x1],[.box T2 (.dat T3 x3)]=>bif (Nat.beq n0 0&&(natsB p0 []&&(Nat.beq o0 0&&(Nat.beq T1 9&&(Nat.beq T2 46&&Nat.beq T3 46))))) then some (x1.toStr,x3) else none
 |_,_=>none
theorem sel24_ok {args:List AV} {objs:List Ob} {l:ByteArray×Dt} (h:sel24 args objs=some l):CnA Tryz.prog args [(.ptr 0 [] 0),(.dat 9 (.str l.1))]∧CnOL Tryz.prog objs [(.box 46 (.dat 46 l.2))]:=by
 unfold sel24 at h
 split at h
 ·obtain⟨hc,h2⟩:=bif_some h
  cases h2
  have e0:=beq_eq (and_l hc)
  have e1:=natsB_eq (and_l (and_r hc))
  have e2:=beq_eq (and_l (and_r (and_r hc)))
  have e3:=beq_eq (and_l (and_r (and_r (and_r hc))))
  have e4:=beq_eq (and_l (and_r (and_r (and_r (and_r hc)))))
  have e5:=beq_eq (and_r (and_r (and_r (and_r (and_r hc)))))
  subst e0 e1 e2 e3 e4 e5
  exact⟨(.cons (.of .same rfl rfl) (.cons (.of (.dat (.str Tryz.underlying9)) rfl rfl) .nil)),(.cons (.box .same) .nil)⟩
 ·cases h
def sel26 (args:List AV) (objs:List Ob):Option (ByteArray×Int×Int):=match args,objs with
 | [.dat T0 x0,.dat T1 x1,.dat T2 x2],[]=>bif (Nat.beq T0 9&&(Nat.beq T1 3&&Nat.beq T2 3)) then some (x0.toStr,x1.toInt,x2.toInt) else none
 |_,_=>none
theorem sel26_ok {args:List AV} {objs:List Ob} {l:ByteArray×Int×Int} (h:sel26 args objs=some l):CnA Tryz.prog args [(.dat 9 (.str l.1)),(.dat 3 (.int l.2.1)),(.dat 3 (.int l.2.2))]∧CnOL Tryz.prog objs []:=by
 unfold sel26 at h
 split at h
 ·obtain⟨hc,h2⟩:=bif_some h
  cases h2
  have e0:=beq_eq (and_l hc)
  have e1:=beq_eq (and_l (and_r hc))
  have e2:=beq_eq (and_r (and_r hc))
  subst e0 e1 e2
  exact⟨(.cons (.of (.dat (.str Tryz.underlying9)) rfl rfl) (.cons (.of (.dat (.int Tryz.underlying3)) rfl rfl) (.cons (.of (.dat (.int Tryz.underlying3)) rfl rfl) .nil))),.nil⟩
 ·cases h
def sel27 (args:List AV) (objs:List Ob):Option Dt:=match args,objs with
 | [.ptr n0 p0 o0],[.box T1 (.dat T2 x2)]=>bif (Nat.beq n0 0&&(natsB p0 []&&(Nat.beq o0 0&&(Nat.beq T1 51&&Nat.beq T2 51)))) then some x2 else none
 |_,_=>none
theorem sel27_ok {args:List AV} {objs:List Ob} {l:Dt} (h:sel27 args objs=some l):CnA Tryz.prog args [(.ptr 0 [] 0)]∧CnOL Tryz.prog objs [(.box 51 (.dat 51 l))]:=by
 unfold sel27 at h
 split at h
 ·obtain⟨hc,h2⟩:=bif_some h
  cases h2
  have e0:=beq_eq (and_l hc)
  have e1:=natsB_eq (and_l (and_r hc))
  have e2:=beq_eq (and_l (and_r (and_r hc)))
  have e3:=beq_eq (and_l (and_r (and_r (and_r hc))))
  have e4:=beq_eq (and_r (and_r (and_r (and_r hc))))
  subst e0 e1 e2 e3 e4
  exact⟨(.cons (.of .same rfl rfl) .nil),(.cons (.box .same) .nil)⟩
 ·cases h
def sel28 (args:List AV) (objs:List Ob):Option (Int×Bool×Dt):=match args,objs with
 | [.ptr n0 p0 o0,.dat T1 x1,.dat T2 x2],[.box T3 (.dat T4 x4)]=>bif (Nat.beq n0 0&&(natsB p0 []&&(Nat.beq o0 0&&(Nat.beq T1 3&&(Nat.beq T2 4&&(Nat.beq T3 51&&Nat.beq T4 51)))))) then some (x1.toInt,x2.toBool,x4) else none
 |_,_=>none
theorem sel28_ok {args:List AV} {objs:List Ob} {l:Int×Bool×Dt} (h:sel28 args objs=some l):CnA Tryz.prog args [(.ptr 0 [] 0),(.dat 3 (.int l.1)),(.dat 4 (.bool l.2.1))]∧CnOL Tryz.prog objs [(.box 51 (.dat 51 l.2.2))]:=by
 unfold sel28 at h
 split at h
 ·obtain⟨hc,h2⟩:=bif_some h
  cases h2
  have e0:=beq_eq (and_l hc)
  have e1:=natsB_eq (and_l (and_r hc))
  have e2:=beq_eq (and_l (and_r (and_r hc)))
  have e3:=beq_eq (and_l (and_r (and_r (and_r hc))))
  have e4:=beq_eq (and_l (and_r (and_r (and_r (and_r hc)))))
  have e5:=beq_eq (and_l (and_r (and_r (and_r (and_r (and_r hc))))))
  have e6:=beq_eq (and_r (and_r (and_r (and_r (and_r (and_r hc))))))
  subst e0 e1 e2 e3 e4 e5 e6
  exact⟨(.cons (.of .same rfl rfl) (.cons (.of (.dat (.int Tryz.underlying3)) rfl rfl) (.cons (.of (.dat (.bool Tryz.underlying4)) rfl rfl) .nil))),(.cons (.box .same) .nil)⟩
 ·cases h
def sel30 (args:List AV) (objs:List Ob):Option Int:=match args,objs with
 | [.dat T0 x0],[]=>bif Nat.beq T0 5 then some x0.toInt else none
 |_,_=>none
theorem sel30_ok {args:List AV} {objs:List Ob} {l:Int} (h:sel30 args objs=some l):CnA Tryz.prog args [(.dat 5 (.int l))]∧CnOL Tryz.prog objs []:=by
 unfold sel30 at h
 split at h
 ·obtain⟨hc,h2⟩:=bif_some h
  cases h2
  have e0:=beq_eq hc
  subst e0
  exact⟨(.cons (.of (.dat (.int Tryz.underlying5)) rfl rfl) .nil),.nil⟩
 ·cases h
def sel31 (args:List AV) (objs:List Ob):Option (Int×Int×Dt):=match args,objs with
 | [.ptr n0 p0 o0,.dat T1 x1,.dat T2 x2],[.box T3 (.dat T4 x4)]=>bif (Nat.beq n0 0&&(natsB p0 []&&(Nat.beq o0 0&&(Nat.beq T1 28&&(Nat.beq T2 3&&(Nat.beq T3 51&&Nat.beq T4 51)))))) then some (x1.toInt,x2.toInt,x4) else none
 |_,_=>none
theorem sel31_ok {args:List AV} {objs:List Ob} {l:Int×Int×Dt} (h:sel31 args objs=some l):CnA Tryz.prog args [(.ptr 0 [] 0),(.dat 28 (.int l.1)),(.dat 3 (.int l.2.1))]∧CnOL Tryz.prog objs [(.box 51 (.dat 51 l.2.2))]:=by
 unfold sel31 at h
 split at h
 ·obtain⟨hc,h2⟩:=bif_some h
  cases h2
  have e0:=beq_eq (and_l hc)
  have e1:=natsB_eq (and_l (and_r hc))
  have e2:=beq_eq (and_l (and_r (and_r hc)))
  have e3:=beq_eq (and_l (and_r (and_r (and_r hc))))
  have e4:=beq_eq (and_l (and_r (and_r (and_r (and_r hc)))))
  have e5:=beq_eq (and_l (and_r (and_r (and_r (and_r (and_r hc))))))
  have e6:=beq_eq (and_r (and_r (and_r (and_r (and_r (and_r hc))))))
  subst e0 e1 e2 e3 e4 e5 e6
  exact⟨(.cons (.of .same rfl rfl) (.cons (.of (.dat (.int Tryz.underlying28)) rfl rfl) (.cons (.of (.dat (.int Tryz.underlying3)) rfl rfl) .nil))),(.cons (.box .same) .nil)⟩
 ·cases h
def sel32 (args:List AV) (objs:List Ob):Option (Int×Int×Dt):=match args,objs with
 | [.ptr n0 p0 o0,.dat T1 x1,.dat T2 x2],[.box T3 (.dat T4 x4)]=>bif (Nat.beq n0 0&&(natsB p0 []&&(Nat.beq o0 0&&(Nat.beq T1 3&&(Nat.beq T2 3&&(Nat.beq T3 51&&Nat.beq T4 51)))))) then some (x1.toInt,x2.toInt,x4) else none
 |_,_=>none
theorem sel32_ok {args:List AV} {objs:List Ob} {l:Int×Int×Dt} (h:sel32 args objs=some l):CnA Tryz.prog args [(.ptr 0 [] 0),(.dat 3 (.int l.1)),(.dat 3 (.int l.2.1))]∧CnOL Tryz.prog objs [(.box 51 (.dat 51 l.2.2))]:=by
 unfold sel32 at h
 split at h
 ·obtain⟨hc,h2⟩:=bif_some h
  cases h2
  have e0:=beq_eq (and_l hc)
  have e1:=natsB_eq (and_l (and_r hc))
  have e2:=beq_eq (and_l (and_r (and_r hc)))
  have e3:=beq_eq (and_l (and_r (and_r (and_r hc))))
  have e4:=beq_eq (and_l (and_r (and_r (and_r (and_r hc)))))
  have e5:=beq_eq (and_l (and_r (and_r (and_r (and_r (and_r hc))))))
  have e6:=beq_eq (and_r (and_r (and_r (and_r (and_r (and_r hc))))))
  subst e0 e1 e2 e3 e4 e5 e6
  exact⟨(.cons (.of .same rfl rfl) (.cons (.of (.dat (.int Tryz.underlying3)) rfl rfl) (.cons (.of (.dat (.int Tryz.underlying3)) rfl rfl) .nil))),(.cons (.box .same) .nil)⟩
 ·cases h
def sel33 (args:List AV) (objs:List Ob):Option (Int×Dt):=match args,objs with
 | [.ptr n0 p0 o0,.dat T1 x1],[.box T2 (.dat T3 x3)]=>bif (Nat.beq n0 0&&(natsB p0 []&&(Nat.beq o0 0&&(Nat.beq T1 3&&(Nat.beq T2 51&&Nat.beq T3 51))))) then some (x1.toInt,x3) else none
 |_,_=>none
theorem sel33_ok {args:List AV} {objs:List Ob} {l:Int×Dt} (h:sel33 args objs=some l):CnA Tryz.prog args [(.ptr 0 [] 0),(.dat 3 (.int l.1))]∧CnOL Tryz.prog objs [(.box 51 (.dat 51 l.2))]:=by
 unfold sel33 at h
 split at h
 ·obtain⟨hc,h2⟩:=bif_some h
  cases h2
  have e0:=beq_eq (and_l hc)
  have e1:=natsB_eq (and_l (and_r hc))
  have e2:=beq_eq (and_l (and_r (and_r hc)))
  have e3:=beq_eq (and_l (and_r (and_r (and_r hc))))
  have e4:=beq_eq (and_l (and_r (and_r (and_r (and_r hc)))))
  have e5:=beq_eq (and_r (and_r (and_r (and_r (and_r hc)))))
  subst e0 e1 e2 e3 e4 e5
  exact⟨(.cons (.of .same rfl rfl) (.cons (.of (.dat (.int Tryz.underlying3)) rfl rfl) .nil)),(.cons (.box .same) .nil)⟩
 ·cases h
def sel34 (args:List AV) (objs:List Ob):Option (Int×Dt):=match args,objs with
 | [.ptr n0 p0 o0,.dat T1 x1],[.box T2 (.dat T3 x3)]=>bif (Nat.beq n0 0&&(natsB p0 []&&(Nat.beq o0 0&&(Nat.beq T1 5&&(Nat.beq T2 51&&Nat.beq T3 51))))) then some (x1.toInt,x3) else none
 |_,_=>none
theorem sel34_ok {args:List AV} {objs:List Ob} {l:Int×Dt} (h:sel34 args objs=some l):CnA Tryz.prog args [(.ptr 0 [] 0),(.dat 5 (.int l.1))]∧CnOL Tryz.prog objs [(.box 51 (.dat 51 l.2))]:=by
 unfold sel34 at h
 split at h
 ·obtain⟨hc,h2⟩:=bif_some h
  cases h2
  have e0:=beq_eq (and_l hc)
  have e1:=natsB_eq (and_l (and_r hc))
  have e2:=beq_eq (and_l (and_r (and_r hc)))
  have e3:=beq_eq (and_l (and_r (and_r (and_r hc))))
  have e4:=beq_eq (and_l (and_r (and_r (and_r (and_r hc)))))
  have e5:=beq_eq (and_r (and_r (and_r (and_r (and_r hc)))))
  subst e0 e1 e2 e3 e4 e5
  exact⟨(.cons (.of .same rfl rfl) (.cons (.of (.dat (.int Tryz.underlying5)) rfl rfl) .nil)),(.cons (.box .same) .nil)⟩
 ·cases h
def sel36 (args:List AV) (objs:List Ob):Option (Dt×List Dt):=match args,objs with
 | [.ptr n0 p0 o0,.row n1],[.box T2 (.dat T3 x3),.row T4 x4]=>bif (Nat.beq n0 0&&(natsB p0 []&&(Nat.beq o0 0&&(Nat.beq n1 1&&(Nat.beq T2 51&&(Nat.beq T3 51&&Nat.beq T4 23)))))) then some (x3,x4) else none
 |_,_=>none
theorem sel36_ok {args:List AV} {objs:List Ob} {l:Dt×List Dt} (h:sel36 args objs=some l):CnA Tryz.prog args [(.ptr 0 [] 0),(.row 1)]∧CnOL Tryz.prog objs [(.box 51 (.dat 51 l.1)),(.row 23 l.2)]:=by
 unfold sel36 at h
 split at h
 ·obtain⟨hc,h2⟩:=bif_some h
  cases h2
  have e0:=beq_eq (and_l hc)
  have e1:=natsB_eq (and_l (and_r hc))
  have e2:=beq_eq (and_l (and_r (and_r hc)))
  have e3:=beq_eq (and_l (and_r (and_r (and_r hc))))
  have e4:=beq_eq (and_l (and_r (and_r (and_r (and_r hc)))))
  have e5:=beq_eq (and_l (and_r (and_r (and_r (and_r (and_r hc))))))
  have e6:=beq_eq (and_r (and_r (and_r (and_r (and_r (and_r hc))))))
  subst e0 e1 e2 e3 e4 e5 e6
  exact⟨(.cons (.of .same rfl rfl) (.cons (.of .same rfl rfl) .nil)),(.cons (.box .same) (.cons .same .nil))⟩
 ·cases h
def sel41 (args:List AV) (objs:List Ob):Option Int:=match args,objs with
 | [.dat T0 x0],[]=>bif Nat.beq T0 3 then some x0.toInt else none
 |_,_=>none
theorem sel41_ok {args:List AV} {objs:List Ob} {l:Int} (h:sel41 args objs=some l):CnA Tryz.prog args [(.dat 3 (.int l))]∧CnOL Tryz.prog objs []:=by
 unfold sel41 at h
 split at h
 ·obtain⟨hc,h2⟩:=bif_some h
  cases h2
  have e0:=beq_eq hc
  subst e0
  exact⟨(.cons (.of (.dat (.int Tryz.underlying3)) rfl rfl) .nil),.nil⟩
 ·cases h
def sel46 (args:List AV) (objs:List Ob):Option (ByteArray×Dt×Dt):=match args,objs with
 | [.ptr n0 p0 o0,.dat T1 x1,.dat T2 x2],[.box T3 (.dat T4 x4)]=>bif (Nat.beq n0 0&&(natsB p0 []&&(Nat.beq o0 0&&(Nat.beq T1 9&&(Nat.beq T2 25&&(Nat.beq T3 51&&Nat.beq T4 51)))))) then some (x1.toStr,x2,x4) else none
 |_,_=>none
theorem sel46_ok {args:List AV} {objs:List Ob} {l:ByteArray×Dt×Dt} (h:sel46 args objs=some l):CnA Tryz.prog args [(.ptr 0 [] 0),(.dat 9 (.str l.1)),(.dat 25 l.2.1)]∧CnOL Tryz.prog objs [(.box 51 (.dat 51 l.2.2))]:=by
 unfold sel46 at h
 split at h
 ·obtain⟨hc,h2⟩:=bif_some h
  cases h2
  have e0:=beq_eq (and_l hc)
  have e1:=natsB_eq (and_l (and_r hc))
  have e2:=beq_eq (and_l (and_r (and_r hc)))
  have e3:=beq_eq (and_l (and_r (and_r (and_r hc))))
  have e4:=beq_eq (and_l (and_r (and_r (and_r (and_r hc)))))
  have e5:=beq_eq (and_l (and_r (and_r (and_r (and_r (and_r hc))))))
  have e6:=beq_eq (and_r (and_r (and_r (and_r (and_r (and_r hc))))))
  subst e0 e1 e2 e3 e4 e5 e6
  exact⟨(.cons (.of .same rfl rfl) (.cons (.of (.dat (.str Tryz.underlying9)) rfl rfl) (.cons (.of .same rfl rfl) .nil))),(.cons (.box .same) .nil)⟩
 ·cases h
def sel53 (args:List AV) (objs:List Ob):Option (Dt×Bool):=match args,objs with
 | [.dat T0 x0,.dat T1 x1],[]=>bif (Nat.beq T0 25&&Nat.beq T1 4) then some (x0,x1.toBool) else none
 |_,_=>none
theorem sel53_ok {args:List AV} {objs:List Ob} {l:Dt×Bool} (h:sel53 args objs=some l):CnA Tryz.prog args [(.dat 25 l.1),(.dat 4 (.bool l.2))]∧CnOL Tryz.prog objs []:=by
 unfold sel53 at h
 split at h
 ·obtain⟨hc,h2⟩:=bif_some h
  cases h2
  have e0:=beq_eq (and_l hc)
  have e1:=beq_eq (and_r hc)
  subst e0 e1
  exact⟨(.cons (.of .same rfl rfl) (.cons (.of (.dat (.bool Tryz.underlying4)) rfl rfl) .nil)),.nil⟩
 ·cases h
def sel54 (args:List AV) (objs:List Ob):Option (Dt×Int):=match args,objs with
 | [.dat T0 x0,.dat T1 x1],[]=>bif (Nat.beq T0 25&&Nat.beq T1 3) then some (x0,x1.toInt) else none
 |_,_=>none
theorem sel54_ok {args:List AV} {objs:List Ob} {l:Dt×Int} (h:sel54 args objs=some l):CnA Tryz.prog args [(.dat 25 l.1),(.dat 3 (.int l.2))]∧CnOL Tryz.prog objs []:=by
 unfold sel54 at h
 split at h
 ·obtain⟨hc,h2⟩:=bif_some h
  cases h2
  have e0:=beq_eq (and_l hc)
  have e1:=beq_eq (and_r hc)
  subst e0 e1
  exact⟨(.cons (.of .same rfl rfl) (.cons (.of (.dat (.int Tryz.underlying3)) rfl rfl) .nil)),.nil⟩
 ·cases h
noncomputable def ct4 {R:Type} (m:Nat) (args:List AV) (objs:List Ob) (K:Res→Option R):Option R:=match sel0 args objs with
 |some l=>(law05_NotationParses m l).bind fun r=>K ((.dat 4 (.bool r)),[])
 |none=>none
noncomputable def ct6 {R:Type} (m:Nat) (args:List AV) (objs:List Ob) (K:Res→Option R):Option R:=match sel1 args objs with
 |some l=>(awakeC).bind fun r=>K ((.dat 4 (.bool r)),[])
 |none=>none
noncomputable def ct9 {R:Type} (m:Nat) (args:List AV) (objs:List Ob) (K:Res→Option R):Option R:=match sel0 args objs with
 |some l=>(notation_Parse m l).bind fun r=>K ((.tup [(.dat 25 r.1),(.dat 3 (.int r.2.1)),(.dat 28 (.int r.2.2))]),[])
 |none=>none
noncomputable def ct10 {R:Type} (m:Nat) (args:List AV) (objs:List Ob) (K:Res→Option R):Option R:=match sel0 args objs with
 |some l=>(ref05_Parse m l).bind fun r=>K ((.tup [(.dat 25 r.1),(.dat 3 (.int r.2.1)),(.dat 28 (.int r.2.2))]),[])
 |none=>none
noncomputable def ct11 {R:Type} (m:Nat) (args:List AV) (objs:List Ob) (K:Res→Option R):Option R:=match sel4 args objs with
 |some l=>(ref05_Same m l.1 l.2).bind fun r=>K ((.dat 4 (.bool r)),[])
 |none=>none
noncomputable def ct19 {R:Type} (m:Nat) (args:List AV) (objs:List Ob) (K:Res→Option R):Option R:=match sel5 args objs with
 |some l=>(i5 m l).bind fun r=>K ((.tup []),[(.box 46 (.dat 46 r))])
 |none=>none
noncomputable def ct42 {R:Type} (m:Nat) (args:List AV) (objs:List Ob) (K:Res→Option R):Option R:=match sel5 args objs with
 |some l=>(i6 m l).bind fun r=>K ((.dat 3 (.int r.1)),[(.box 46 (.dat 46 r.2))])
 |none=>none
noncomputable def ct20 {R:Type} (m:Nat) (args:List AV) (objs:List Ob) (K:Res→Option R):Option R:=match sel7 args objs with
 |some l=>(i7 m l.1 l.2.1 l.2.2).bind fun r=>K ((.tup [(.dat 25 r.1),(.dat 4 (.bool r.2.1))]),[(.box 46 (.dat 46 r.2.2))])
 |none=>none
noncomputable def ct43 {R:Type} (m:Nat) (args:List AV) (objs:List Ob) (K:Res→Option R):Option R:=match sel8 args objs with
 |some l=>(i8 m l.1 l.2.1 l.2.2).bind fun r=>K ((.dat 4 (.bool r.1)),[(.box 46 (.dat 46 r.2))])
 |none=>none
noncomputable def ct21 {R:Type} (m:Nat) (args:List AV) (objs:List Ob) (K:Res→Option R):Option R:=match sel9 args objs with
 |some l=>(i9 m l.1 l.2.1 l.2.2).bind fun r=>K ((.dat 4 (.bool r.1)),[(.box 46 (.dat 46 r.2))])
 |none=>none
noncomputable def ct44 {R:Type} (m:Nat) (args:List AV) (objs:List Ob) (K:Res→Option R):Option R:=match sel5 args objs with
 |some l=>(i10 m l).bind fun r=>K ((.tup [(.dat 25 r.1),(.dat 4 (.bool r.2.1))]),[(.box 46 (.dat 46 r.2.2))])
 |none=>none
noncomputable def ct69 {R:Type} (m:Nat) (args:List AV) (objs:List Ob) (K:Res→Option R):Option R:=match sel5 args objs with
 |some l=>(i11 m l).bind fun r=>K ((.tup [(.dat 9 (.str r.1)),(.dat 4 (.bool r.2.1))]),[(.box 46 (.dat 46 r.2.2))])
 |none=>none
noncomputable def ct89 {R:Type} (m:Nat) (args:List AV) (objs:List Ob) (K:Res→Option R):Option R:=match sel5 args objs with
 |some l=>(i12 m l).bind fun r=>K ((.tup [(.dat 21 (.int r.1)),(.dat 4 (.bool r.2.1))]),[(.box 46 (.dat 46 r.2.2))])
 |none=>none
noncomputable def ct103 {R:Type} (m:Nat) (args:List AV) (objs:List Ob) (K:Res→Option R):Option R:=match sel5 args objs with
 |some l=>(i13 m l).bind fun r=>K ((.tup [(.dat 21 (.int r.1)),(.dat 4 (.bool r.2.1))]),[(.box 46 (.dat 46 r.2.2))])
 |none=>none
noncomputable def ct90 {R:Type} (m:Nat) (args:List AV) (objs:List Ob) (K:Res→Option R):Option R:=match sel14 args objs with
 |some l=>(i14 m l.1 l.2).bind fun r=>K ((.row 1),[.gone,(.row 40 r)])
 |none=>none
noncomputable def ct104 {R:Type} (m:Nat) (args:List AV) (objs:List Ob) (K:Res→Option R):Option R:=match sel14 args objs with
 |some l=>(i15 m l.1 l.2).bind fun r=>K ((.row 1),[.gone,(.row 40 r)])
 |none=>none
noncomputable def ct70 {R:Type} (m:Nat) (args:List AV) (objs:List Ob) (K:Res→Option R):Option R:=match sel0 args objs with
 |some l=>(utf8_ValidString l).bind fun r=>K ((.dat 4 (.bool r)),[])
 |none=>none
noncomputable def ct45 {R:Type} (m:Nat) (args:List AV) (objs:List Ob) (K:Res→Option R):Option R:=match sel17 args objs with
 |some l=>(i17 m l.1 l.2).bind fun r=>K ((.tup [(.dat 25 r.1),(.dat 4 (.bool r.2.1))]),[(.box 46 (.dat 46 r.2.2))])
 |none=>none
noncomputable def ct46 {R:Type} (m:Nat) (args:List AV) (objs:List Ob) (K:Res→Option R):Option R:=match sel17 args objs with
 |some l=>(i18 m l.1 l.2).bind fun r=>K ((.tup [(.dat 25 r.1),(.dat 4 (.bool r.2.1))]),[(.box 46 (.dat 46 r.2.2))])
 |none=>none
noncomputable def ct71 {R:Type} (m:Nat) (args:List AV) (objs:List Ob) (K:Res→Option R):Option R:=match sel19 args objs with
 |some l=>(i19 m l.1 l.2).bind fun r=>K ((.tup [(.dat 9 (.str r.1)),(.dat 4 (.bool r.2.1))]),[(.box 46 (.dat 46 r.2.2.1)),(.map 76 r.2.2.2)])
 |none=>none
noncomputable def ct57 {R:Type} (m:Nat) (args:List AV) (objs:List Ob) (K:Res→Option R):Option R:=match sel0 args objs with
 |some l=>(notation_isField m l).bind fun r=>K ((.dat 4 (.bool r)),[])
 |none=>none
noncomputable def ct72 {R:Type} (m:Nat) (args:List AV) (objs:List Ob) (K:Res→Option R):Option R:=match sel0 args objs with
 |some l=>(notation_isSpecial m l).bind fun r=>K ((.dat 4 (.bool r)),[])
 |none=>none
noncomputable def ct62 {R:Type} (m:Nat) (args:List AV) (objs:List Ob) (K:Res→Option R):Option R:=match sel22 args objs with
 |some l=>(i22 m l).bind fun r=>K ((.tup [(.dat 25 r.1),(.dat 4 (.bool r.2.1))]),[(.row 23 r.2.2)])
 |none=>none
noncomputable def ct85 {R:Type} (m:Nat) (args:List AV) (objs:List Ob) (K:Res→Option R):Option R:=match sel23 args objs with
 |some l=>(notation_fromHex m l).bind fun r=>K ((.tup [(.dat 9 (.str r.1)),(.dat 4 (.bool r.2))]),[])
 |none=>none
noncomputable def ct47 {R:Type} (m:Nat) (args:List AV) (objs:List Ob) (K:Res→Option R):Option R:=match sel24 args objs with
 |some l=>(i24 m l.1 l.2).bind fun r=>K ((.dat 4 (.bool r.1)),[(.box 46 (.dat 46 r.2))])
 |none=>none
noncomputable def ct48 {R:Type} (m:Nat) (args:List AV) (objs:List Ob) (K:Res→Option R):Option R:=match sel5 args objs with
 |some l=>(i25 m l).bind fun r=>K ((.tup [(.dat 25 r.1),(.dat 4 (.bool r.2.1))]),[(.box 46 (.dat 46 r.2.2))])
 |none=>none
noncomputable def ct73 {R:Type} (m:Nat) (args:List AV) (objs:List Ob) (K:Res→Option R):Option R:=match sel26 args objs with
 |some l=>(strconv_ParseInt l.1 l.2.1 l.2.2).bind fun r=>K ((.tup [(.dat 2 (.int r.1)),(.nif r.2)]),[])
 |none=>none
noncomputable def ct22 {R:Type} (m:Nat) (args:List AV) (objs:List Ob) (K:Res→Option R):Option R:=match sel27 args objs with
 |some l=>(i27 m l).bind fun r=>K ((.tup []),[(.box 51 (.dat 51 r))])
 |none=>none
noncomputable def ct23 {R:Type} (m:Nat) (args:List AV) (objs:List Ob) (K:Res→Option R):Option R:=match sel28 args objs with
 |some l=>(i28 m l.1 l.2.1 l.2.2).bind fun r=>K ((.dat 25 r.1),[(.box 51 (.dat 51 r.2))])
 |none=>none
noncomputable def ct50 {R:Type} (m:Nat) (args:List AV) (objs:List Ob) (K:Res→Option R):Option R:=match sel27 args objs with
 |some l=>(i29 m l).bind fun r=>K ((.dat 5 (.int r.1)),[(.box 51 (.dat 51 r.2))])
 |none=>none
noncomputable def ct49 {R:Type} (m:Nat) (args:List AV) (objs:List Ob) (K:Res→Option R):Option R:=match sel30 args objs with
 |some l=>(ref05_opens m l).bind fun r=>K ((.dat 4 (.bool r)),[])
 |none=>none
noncomputable def ct24 {R:Type} (m:Nat) (args:List AV) (objs:List Ob) (K:Res→Option R):Option R:=match sel31 args objs with
 |some l=>(i31 m l.1 l.2.1 l.2.2).bind fun r=>K ((.tup []),[(.box 51 (.dat 51 r))])
 |none=>none
noncomputable def ct51 {R:Type} (m:Nat) (args:List AV) (objs:List Ob) (K:Res→Option R):Option R:=match sel32 args objs with
 |some l=>(i32 m l.1 l.2.1 l.2.2).bind fun r=>K ((.tup []),[(.box 51 (.dat 51 r))])
 |none=>none
noncomputable def ct52 {R:Type} (m:Nat) (args:List AV) (objs:List Ob) (K:Res→Option R):Option R:=match sel33 args objs with
 |some l=>(i33 m l.1 l.2).bind fun r=>K ((.dat 25 r.1),[(.box 51 (.dat 51 r.2))])
 |none=>none
noncomputable def ct74 {R:Type} (m:Nat) (args:List AV) (objs:List Ob) (K:Res→Option R):Option R:=match sel34 args objs with
 |some l=>(i34 m l.1 l.2).bind fun r=>K ((.tup []),[(.box 51 (.dat 51 r))])
 |none=>none
noncomputable def ct53 {R:Type} (m:Nat) (args:List AV) (objs:List Ob) (K:Res→Option R):Option R:=match sel33 args objs with
 |some l=>(i35 m l.1 l.2).bind fun r=>K ((.dat 25 r.1),[(.box 51 (.dat 51 r.2))])
 |none=>none
noncomputable def ct75 {R:Type} (m:Nat) (args:List AV) (objs:List Ob) (K:Res→Option R):Option R:=match sel36 args objs with
 |some l=>(i36 m l.1 l.2).bind fun r=>K ((.dat 9 (.str r.1)),[(.box 51 (.dat 51 r.2.1)),(.row 23 r.2.2)])
 |none=>none
noncomputable def ct77 {R:Type} (m:Nat) (args:List AV) (objs:List Ob) (K:Res→Option R):Option R:=match sel27 args objs with
 |some l=>(i37 m l).bind fun r=>K ((.dat 9 (.str r.1)),[(.box 51 (.dat 51 r.2))])
 |none=>none
noncomputable def ct94 {R:Type} (m:Nat) (args:List AV) (objs:List Ob) (K:Res→Option R):Option R:=match sel27 args objs with
 |some l=>(i38 m l).bind fun r=>K ((.dat 9 (.str r.1)),[(.box 51 (.dat 51 r.2))])
 |none=>none
noncomputable def ct110 {R:Type} (m:Nat) (args:List AV) (objs:List Ob) (K:Res→Option R):Option R:=match sel27 args objs with
 |some l=>(i39 m l).bind fun r=>K ((.dat 9 (.str r.1)),[(.box 51 (.dat 51 r.2))])
 |none=>none
noncomputable def ct123 {R:Type} (m:Nat) (args:List AV) (objs:List Ob) (K:Res→Option R):Option R:=match sel30 args objs with
 |some l=>(ref05_hexadecimal m l).bind fun r=>K ((.dat 3 (.int r)),[])
 |none=>none
noncomputable def ct124 {R:Type} (m:Nat) (args:List AV) (objs:List Ob) (K:Res→Option R):Option R:=match sel41 args objs with
 |some l=>(ref05_utf m l).bind fun r=>K ((.dat 9 (.str r)),[])
 |none=>none
noncomputable def ct66 {R:Type} (m:Nat) (args:List AV) (objs:List Ob) (K:Res→Option R):Option R:=match sel0 args objs with
 |some l=>(ref05_Label m l).bind fun r=>K ((.dat 4 (.bool r)),[])
 |none=>none
noncomputable def ct38 {R:Type} (m:Nat) (args:List AV) (objs:List Ob) (K:Res→Option R):Option R:=match sel22 args objs with
 |some l=>(i43 m l).bind fun r=>K ((.tup [(.dat 25 r.1),(.dat 4 (.bool r.2.1))]),[(.row 23 r.2.2)])
 |none=>none
noncomputable def ct67 {R:Type} (m:Nat) (args:List AV) (objs:List Ob) (K:Res→Option R):Option R:=match sel0 args objs with
 |some l=>(ref05_unhex m l).bind fun r=>K ((.tup [(.dat 9 (.str r.1)),(.dat 4 (.bool r.2))]),[])
 |none=>none
noncomputable def ct54 {R:Type} (m:Nat) (args:List AV) (objs:List Ob) (K:Res→Option R):Option R:=match sel27 args objs with
 |some l=>(i45 m l).bind fun r=>K ((.dat 25 r.1),[(.box 51 (.dat 51 r.2))])
 |none=>none
noncomputable def ct76 {R:Type} (m:Nat) (args:List AV) (objs:List Ob) (K:Res→Option R):Option R:=match sel46 args objs with
 |some l=>(i46 m l.1 l.2.1 l.2.2).bind fun r=>K ((.dat 25 r.1),[(.box 51 (.dat 51 r.2))])
 |none=>none
noncomputable def ct65 {R:Type} (m:Nat) (args:List AV) (objs:List Ob) (K:Res→Option R):Option R:=match sel23 args objs with
 |some l=>(ref01_Valid m l).bind fun r=>K ((.dat 4 (.bool r)),[])
 |none=>none
noncomputable def ct78 {R:Type} (m:Nat) (args:List AV) (objs:List Ob) (K:Res→Option R):Option R:=match sel27 args objs with
 |some l=>(i48 m l).bind fun r=>K ((.dat 25 r.1),[(.box 51 (.dat 51 r.2))])
 |none=>none
noncomputable def ct25 {R:Type} (m:Nat) (args:List AV) (objs:List Ob) (K:Res→Option R):Option R:=match sel4 args objs with
 |some l=>(ref02_Same m l.1 l.2).bind fun r=>K ((.dat 4 (.bool r)),[])
 |none=>none
noncomputable def ct88 {R:Type} (m:Nat) (args:List AV) (objs:List Ob) (K:Res→Option R):Option R:=match sel30 args objs with
 |some l=>(ref05_place m l).bind fun r=>K ((.dat 3 (.int r)),[])
 |none=>none
noncomputable def ct35 {R:Type} (m:Nat) (args:List AV) (objs:List Ob) (K:Res→Option R):Option R:=match sel23 args objs with
 |some l=>(ref01_Depth m l).bind fun r=>K ((.dat 3 (.int r)),[])
 |none=>none
noncomputable def ct36 {R:Type} (m:Nat) (args:List AV) (objs:List Ob) (K:Res→Option R):Option R:=match sel23 args objs with
 |some l=>(ref01_Nodes m l).bind fun r=>K ((.dat 3 (.int r)),[])
 |none=>none
noncomputable def ct87 {R:Type} (m:Nat) (args:List AV) (objs:List Ob) (K:Res→Option R):Option R:=match sel53 args objs with
 |some l=>(ref01_formed m l.1 l.2).bind fun r=>K ((.dat 4 (.bool r)),[])
 |none=>none
noncomputable def ct63 {R:Type} (m:Nat) (args:List AV) (objs:List Ob) (K:Res→Option R):Option R:=match sel54 args objs with
 |some l=>(ref01_levels m l.1 l.2).bind fun r=>K ((.dat 3 (.int r)),[])
 |none=>none
noncomputable def ct64 {R:Type} (m:Nat) (args:List AV) (objs:List Ob) (K:Res→Option R):Option R:=match sel54 args objs with
 |some l=>(ref01_count m l.1 l.2).bind fun r=>K ((.dat 3 (.int r)),[])
 |none=>none
noncomputable def ct101 {R:Type} (m:Nat) (args:List AV) (objs:List Ob) (K:Res→Option R):Option R:=match sel0 args objs with
 |some l=>(ref01_UTF8 m l).bind fun r=>K ((.dat 4 (.bool r)),[])
 |none=>none
noncomputable def ct102 {R:Type} (m:Nat) (args:List AV) (objs:List Ob) (K:Res→Option R):Option R:=match sel53 args objs with
 |some l=>(ref01_fields m l.1 l.2).bind fun r=>K ((.dat 4 (.bool r)),[])
 |none=>none
noncomputable def ct86 {R:Type} (m:Nat) (args:List AV) (objs:List Ob) (K:Res→Option R):Option R:=match sel23 args objs with
 |some l=>(ref01_Parts m l).bind fun r=>K ((.dat 22 (.lst r)),[])
 |none=>none
noncomputable def ct116 {R:Type} (m:Nat) (args:List AV) (objs:List Ob) (K:Res→Option R):Option R:=match sel26 args objs with
 |some l=>(ref01_tail m l.1 l.2.1 l.2.2).bind fun r=>K ((.dat 4 (.bool r)),[])
 |none=>none
noncomputable def ct117 {R:Type} (m:Nat) (args:List AV) (objs:List Ob) (K:Res→Option R):Option R:=match sel0 args objs with
 |some l=>(ref01_Name m l).bind fun r=>K ((.dat 4 (.bool r)),[])
 |none=>none
noncomputable def ct118 {R:Type} (m:Nat) (args:List AV) (objs:List Ob) (K:Res→Option R):Option R:=match sel0 args objs with
 |some l=>(ref01_wide m l).bind fun r=>K ((.dat 4 (.bool r)),[])
 |none=>none
noncomputable def d6 (q:Res):Option (Int×Dt):=match q with
 |(.dat T0 x0,[.box T1 (.dat T2 x2)])=>bif (Nat.beq T0 3&&(Nat.beq T1 46&&Nat.beq T2 46)) then some (x0.toInt,x2) else none
 |_=>none
theorem d6_sim {b:Res} {r:Int×Dt} (h:d6 b=some r):Sim Tryz.prog b ((.dat 3 (.int r.1)),[(.box 46 (.dat 46 r.2))]):=by
 unfold d6 at h
 split at h
 ·obtain⟨hc,h2⟩:=bif_some h
  cases h2
  have e0:=beq_eq (and_l hc)
  have e1:=beq_eq (and_l (and_r hc))
  have e2:=beq_eq (and_r (and_r hc))
  subst e0 e1 e2
  exact Sim.of (.of (.dat (.int Tryz.underlying3)) rfl rfl) (.cons (.box .same) .nil)
 ·cases h
noncomputable def d5 (q:Res):Option Dt:=match q with
 |(.tup [],[.box T0 (.dat T1 x1)])=>bif (Nat.beq T0 46&&Nat.beq T1 46) then some x1 else none
 |_=>none
theorem d5_sim {b:Res} {r:Dt} (h:d5 b=some r):Sim Tryz.prog b ((.tup []),[(.box 46 (.dat 46 r))]):=by
 unfold d5 at h
 split at h
 ·obtain⟨hc,h2⟩:=bif_some h
  cases h2
  have e0:=beq_eq (and_l hc)
  have e1:=beq_eq (and_r hc)
  subst e0 e1
  exact Sim.of (.tup .nil) (.cons (.box .same) .nil)
 ·cases h
noncomputable def d9 (q:Res):Option (Bool×Dt):=match q with
 |(.dat T0 x0,[.box T1 (.dat T2 x2)])=>bif (Nat.beq T0 4&&(Nat.beq T1 46&&Nat.beq T2 46)) then some (x0.toBool,x2) else none
 |_=>none
theorem d9_sim {b:Res} {r:Bool×Dt} (h:d9 b=some r):Sim Tryz.prog b ((.dat 4 (.bool r.1)),[(.box 46 (.dat 46 r.2))]):=by
 unfold d9 at h
 split at h
 ·obtain⟨hc,h2⟩:=bif_some h
  cases h2
  have e0:=beq_eq (and_l hc)
  have e1:=beq_eq (and_l (and_r hc))
  have e2:=beq_eq (and_r (and_r hc))
  subst e0 e1 e2
  exact Sim.of (.of (.dat (.bool Tryz.underlying4)) rfl rfl) (.cons (.box .same) .nil)
 ·cases h
noncomputable def d13 (q:Res):Option (Int×Bool×Dt):=match q with
 |(.tup [.dat T0 x0,.dat T1 x1],[.box T2 (.dat T3 x3)])=>bif (Nat.beq T0 21&&(Nat.beq T1 4&&(Nat.beq T2 46&&Nat.beq T3 46))) then some (x0.toInt,x1.toBool,x3) else none
 |_=>none
theorem d13_sim {b:Res} {r:Int×Bool×Dt} (h:d13 b=some r):Sim Tryz.prog b ((.tup [(.dat 21 (.int r.1)),(.dat 4 (.bool r.2.1))]),[(.box 46 (.dat 46 r.2.2))]):=by
 unfold d13 at h
 split at h
 ·obtain⟨hc,h2⟩:=bif_some h
  cases h2
  have e0:=beq_eq (and_l hc)
  have e1:=beq_eq (and_l (and_r hc))
  have e2:=beq_eq (and_l (and_r (and_r hc)))
  have e3:=beq_eq (and_r (and_r (and_r hc)))
  subst e0 e1 e2 e3
  exact Sim.of (.tup (.cons (.dat (.int Tryz.underlying21)) (.cons (.dat (.bool Tryz.underlying4)) .nil))) (.cons (.box .same) .nil)
 ·cases h
noncomputable def d15 (q:Res):Option (List Dt):=match q with
 |(.row n0,[.gone,.row T1 x1])=>bif (Nat.beq n0 1&&Nat.beq T1 40) then some x1 else none
 |_=>none
theorem d15_sim {b:Res} {r:List Dt} (h:d15 b=some r):Sim Tryz.prog b ((.row 1),[.gone,(.row 40 r)]):=by
 unfold d15 at h
 split at h
 ·obtain⟨hc,h2⟩:=bif_some h
  cases h2
  have e0:=beq_eq (and_l hc)
  have e1:=beq_eq (and_r hc)
  subst e0 e1
  exact Sim.of (.of .same rfl rfl) (.cons .same (.cons .same .nil))
 ·cases h
noncomputable def d11 (q:Res):Option (ByteArray×Bool×Dt):=match q with
 |(.tup [.dat T0 x0,.dat T1 x1],[.box T2 (.dat T3 x3)])=>bif (Nat.beq T0 9&&(Nat.beq T1 4&&(Nat.beq T2 46&&Nat.beq T3 46))) then some (x0.toStr,x1.toBool,x3) else none
 |_=>none
theorem d11_sim {b:Res} {r:ByteArray×Bool×Dt} (h:d11 b=some r):Sim Tryz.prog b ((.tup [(.dat 9 (.str r.1)),(.dat 4 (.bool r.2.1))]),[(.box 46 (.dat 46 r.2.2))]):=by
 unfold d11 at h
 split at h
 ·obtain⟨hc,h2⟩:=bif_some h
  cases h2
  have e0:=beq_eq (and_l hc)
  have e1:=beq_eq (and_l (and_r hc))
  have e2:=beq_eq (and_l (and_r (and_r hc)))
  have e3:=beq_eq (and_r (and_r (and_r hc)))
  subst e0 e1 e2 e3
  exact Sim.of (.tup (.cons (.dat (.str Tryz.underlying9)) (.cons (.dat (.bool Tryz.underlying4)) .nil))) (.cons (.box .same) .nil)
 ·cases h
noncomputable def d10 (q:Res):Option (Dt×Bool×Dt):=match q with
 |(.tup [.dat T0 x0,.dat T1 x1],[.box T2 (.dat T3 x3)])=>bif (Nat.beq T0 25&&(Nat.beq T1 4&&(Nat.beq T2 46&&Nat.beq T3 46))) then some (x0,x1.toBool,x3) else none
 |_=>none
theorem d10_sim {b:Res} {r:Dt×Bool×Dt} (h:d10 b=some r):Sim Tryz.prog b ((.tup [(.dat 25 r.1),(.dat 4 (.bool r.2.1))]),[(.box 46 (.dat 46 r.2.2))]):=by
 unfold d10 at h
 split at h
 ·obtain⟨hc,h2⟩:=bif_some h
  cases h2
  have e0:=beq_eq (and_l hc)
  have e1:=beq_eq (and_l (and_r hc))
  have e2:=beq_eq (and_l (and_r (and_r hc)))
  have e3:=beq_eq (and_r (and_r (and_r hc)))
  subst e0 e1 e2 e3
  exact Sim.of (.tup (.cons .same (.cons (.dat (.bool Tryz.underlying4)) .nil))) (.cons (.box .same) .nil)
 ·cases h
noncomputable def d20 (q:Res):Option Bool:=match q with
 |(.dat T0 x0,[])=>bif Nat.beq T0 4 then some x0.toBool else none
 |_=>none
theorem d20_sim {b:Res} {r:Bool} (h:d20 b=some r):Sim Tryz.prog b ((.dat 4 (.bool r)),[]):=by
 unfold d20 at h
 split at h
 ·obtain⟨hc,h2⟩:=bif_some h
  cases h2
  have e0:=beq_eq hc
  subst e0
  exact Sim.of (.of (.dat (.bool Tryz.underlying4)) rfl rfl) .nil
 ·cases h
noncomputable def d19 (q:Res):Option (ByteArray×Bool×Dt×List Dt):=match q with
 |(.tup [.dat T0 x0,.dat T1 x1],[.box T2 (.dat T3 x3),.map T4 x4])=>bif (Nat.beq T0 9&&(Nat.beq T1 4&&(Nat.beq T2 46&&(Nat.beq T3 46&&Nat.beq T4 76)))) then some (x0.toStr,x1.toBool,x3,x4) else none
 |_=>none
theorem d19_sim {b:Res} {r:ByteArray×Bool×Dt×List Dt} (h:d19 b=some r):Sim Tryz.prog b ((.tup [(.dat 9 (.str r.1)),(.dat 4 (.bool r.2.1))]),[(.box 46 (.dat 46 r.2.2.1)),(.map 76 r.2.2.2)]):=by
 unfold d19 at h
 split at h
 ·obtain⟨hc,h2⟩:=bif_some h
  cases h2
  have e0:=beq_eq (and_l hc)
  have e1:=beq_eq (and_l (and_r hc))
  have e2:=beq_eq (and_l (and_r (and_r hc)))
  have e3:=beq_eq (and_l (and_r (and_r (and_r hc))))
  have e4:=beq_eq (and_r (and_r (and_r (and_r hc))))
  subst e0 e1 e2 e3 e4
  exact Sim.of (.tup (.cons (.dat (.str Tryz.underlying9)) (.cons (.dat (.bool Tryz.underlying4)) .nil))) (.cons (.box .same) (.cons .same .nil))
 ·cases h
noncomputable def d23 (q:Res):Option (ByteArray×Bool):=match q with
 |(.tup [.dat T0 x0,.dat T1 x1],[])=>bif (Nat.beq T0 9&&Nat.beq T1 4) then some (x0.toStr,x1.toBool) else none
 |_=>none
theorem d23_sim {b:Res} {r:ByteArray×Bool} (h:d23 b=some r):Sim Tryz.prog b ((.tup [(.dat 9 (.str r.1)),(.dat 4 (.bool r.2))]),[]):=by
 unfold d23 at h
 split at h
 ·obtain⟨hc,h2⟩:=bif_some h
  cases h2
  have e0:=beq_eq (and_l hc)
  have e1:=beq_eq (and_r hc)
  subst e0 e1
  exact Sim.of (.tup (.cons (.dat (.str Tryz.underlying9)) (.cons (.dat (.bool Tryz.underlying4)) .nil))) .nil
 ·cases h
noncomputable def d22 (q:Res):Option (Dt×Bool×List Dt):=match q with
 |(.tup [.dat T0 x0,.dat T1 x1],[.row T2 x2])=>bif (Nat.beq T0 25&&(Nat.beq T1 4&&Nat.beq T2 23)) then some (x0,x1.toBool,x2) else none
 |_=>none
theorem d22_sim {b:Res} {r:Dt×Bool×List Dt} (h:d22 b=some r):Sim Tryz.prog b ((.tup [(.dat 25 r.1),(.dat 4 (.bool r.2.1))]),[(.row 23 r.2.2)]):=by
 unfold d22 at h
 split at h
 ·obtain⟨hc,h2⟩:=bif_some h
  cases h2
  have e0:=beq_eq (and_l hc)
  have e1:=beq_eq (and_l (and_r hc))
  have e2:=beq_eq (and_r (and_r hc))
  subst e0 e1 e2
  exact Sim.of (.tup (.cons .same (.cons (.dat (.bool Tryz.underlying4)) .nil))) (.cons .same .nil)
 ·cases h
noncomputable def d2 (q:Res):Option (Dt×Int×Int):=match q with
 |(.tup [.dat T0 x0,.dat T1 x1,.dat T2 x2],[])=>bif (Nat.beq T0 25&&(Nat.beq T1 3&&Nat.beq T2 28)) then some (x0,x1.toInt,x2.toInt) else none
 |_=>none
theorem d2_sim {b:Res} {r:Dt×Int×Int} (h:d2 b=some r):Sim Tryz.prog b ((.tup [(.dat 25 r.1),(.dat 3 (.int r.2.1)),(.dat 28 (.int r.2.2))]),[]):=by
 unfold d2 at h
 split at h
 ·obtain⟨hc,h2⟩:=bif_some h
  cases h2
  have e0:=beq_eq (and_l hc)
  have e1:=beq_eq (and_l (and_r hc))
  have e2:=beq_eq (and_r (and_r hc))
  subst e0 e1 e2
  exact Sim.of (.tup (.cons .same (.cons (.dat (.int Tryz.underlying3)) (.cons (.dat (.int Tryz.underlying28)) .nil)))) .nil
 ·cases h
noncomputable def d27 (q:Res):Option Dt:=match q with
 |(.tup [],[.box T0 (.dat T1 x1)])=>bif (Nat.beq T0 51&&Nat.beq T1 51) then some x1 else none
 |_=>none
theorem d27_sim {b:Res} {r:Dt} (h:d27 b=some r):Sim Tryz.prog b ((.tup []),[(.box 51 (.dat 51 r))]):=by
 unfold d27 at h
 split at h
 ·obtain⟨hc,h2⟩:=bif_some h
  cases h2
  have e0:=beq_eq (and_l hc)
  have e1:=beq_eq (and_r hc)
  subst e0 e1
  exact Sim.of (.tup .nil) (.cons (.box .same) .nil)
 ·cases h
noncomputable def d29 (q:Res):Option (Int×Dt):=match q with
 |(.dat T0 x0,[.box T1 (.dat T2 x2)])=>bif (Nat.beq T0 5&&(Nat.beq T1 51&&Nat.beq T2 51)) then some (x0.toInt,x2) else none
 |_=>none
theorem d29_sim {b:Res} {r:Int×Dt} (h:d29 b=some r):Sim Tryz.prog b ((.dat 5 (.int r.1)),[(.box 51 (.dat 51 r.2))]):=by
 unfold d29 at h
 split at h
 ·obtain⟨hc,h2⟩:=bif_some h
  cases h2
  have e0:=beq_eq (and_l hc)
  have e1:=beq_eq (and_l (and_r hc))
  have e2:=beq_eq (and_r (and_r hc))
  subst e0 e1 e2
  exact Sim.of (.of (.dat (.int Tryz.underlying5)) rfl rfl) (.cons (.box .same) .nil)
 ·cases h
noncomputable def d41 (q:Res):Option ByteArray:=match q with
 |(.dat T0 x0,[])=>bif Nat.beq T0 9 then some x0.toStr else none
 |_=>none
theorem d41_sim {b:Res} {r:ByteArray} (h:d41 b=some r):Sim Tryz.prog b ((.dat 9 (.str r)),[]):=by
 unfold d41 at h
 split at h
 ·obtain⟨hc,h2⟩:=bif_some h
  cases h2
  have e0:=beq_eq hc
  subst e0
  exact Sim.of (.of (.dat (.str Tryz.underlying9)) rfl rfl) .nil
 ·cases h
noncomputable def d46 (q:Res):Option (Dt×Dt):=match q with
 |(.dat T0 x0,[.box T1 (.dat T2 x2)])=>bif (Nat.beq T0 25&&(Nat.beq T1 51&&Nat.beq T2 51)) then some (x0,x2) else none
 |_=>none
theorem d46_sim {b:Res} {r:Dt×Dt} (h:d46 b=some r):Sim Tryz.prog b ((.dat 25 r.1),[(.box 51 (.dat 51 r.2))]):=by
 unfold d46 at h
 split at h
 ·obtain⟨hc,h2⟩:=bif_some h
  cases h2
  have e0:=beq_eq (and_l hc)
  have e1:=beq_eq (and_l (and_r hc))
  have e2:=beq_eq (and_r (and_r hc))
  subst e0 e1 e2
  exact Sim.of (.of .same rfl rfl) (.cons (.box .same) .nil)
 ·cases h
noncomputable def d50 (q:Res):Option Int:=match q with
 |(.dat T0 x0,[])=>bif Nat.beq T0 3 then some x0.toInt else none
 |_=>none
theorem d50_sim {b:Res} {r:Int} (h:d50 b=some r):Sim Tryz.prog b ((.dat 3 (.int r)),[]):=by
 unfold d50 at h
 split at h
 ·obtain⟨hc,h2⟩:=bif_some h
  cases h2
  have e0:=beq_eq hc
  subst e0
  exact Sim.of (.of (.dat (.int Tryz.underlying3)) rfl rfl) .nil
 ·cases h
noncomputable def d39 (q:Res):Option (ByteArray×Dt):=match q with
 |(.dat T0 x0,[.box T1 (.dat T2 x2)])=>bif (Nat.beq T0 9&&(Nat.beq T1 51&&Nat.beq T2 51)) then some (x0.toStr,x2) else none
 |_=>none
theorem d39_sim {b:Res} {r:ByteArray×Dt} (h:d39 b=some r):Sim Tryz.prog b ((.dat 9 (.str r.1)),[(.box 51 (.dat 51 r.2))]):=by
 unfold d39 at h
 split at h
 ·obtain⟨hc,h2⟩:=bif_some h
  cases h2
  have e0:=beq_eq (and_l hc)
  have e1:=beq_eq (and_l (and_r hc))
  have e2:=beq_eq (and_r (and_r hc))
  subst e0 e1 e2
  exact Sim.of (.of (.dat (.str Tryz.underlying9)) rfl rfl) (.cons (.box .same) .nil)
 ·cases h
noncomputable def d36 (q:Res):Option (ByteArray×Dt×List Dt):=match q with
 |(.dat T0 x0,[.box T1 (.dat T2 x2),.row T3 x3])=>bif (Nat.beq T0 9&&(Nat.beq T1 51&&(Nat.beq T2 51&&Nat.beq T3 23))) then some (x0.toStr,x2,x3) else none
 |_=>none
theorem d36_sim {b:Res} {r:ByteArray×Dt×List Dt} (h:d36 b=some r):Sim Tryz.prog b ((.dat 9 (.str r.1)),[(.box 51 (.dat 51 r.2.1)),(.row 23 r.2.2)]):=by
 unfold d36 at h
 split at h
 ·obtain⟨hc,h2⟩:=bif_some h
  cases h2
  have e0:=beq_eq (and_l hc)
  have e1:=beq_eq (and_l (and_r hc))
  have e2:=beq_eq (and_l (and_r (and_r hc)))
  have e3:=beq_eq (and_r (and_r (and_r hc)))
  subst e0 e1 e2 e3
  exact Sim.of (.of (.dat (.str Tryz.underlying9)) rfl rfl) (.cons (.box .same) (.cons .same .nil))
 ·cases h
noncomputable def d58 (q:Res):Option (List Dt):=match q with
 |(.dat T0 x0,[])=>bif Nat.beq T0 22 then some x0.toLst else none
 |_=>none
theorem d58_sim {b:Res} {r:List Dt} (h:d58 b=some r):Sim Tryz.prog b ((.dat 22 (.lst r)),[]):=by
 unfold d58 at h
 split at h
 ·obtain⟨hc,h2⟩:=bif_some h
  cases h2
  have e0:=beq_eq hc
  subst e0
  exact Sim.of (.of (.dat (.lst Tryz.underlying22)) rfl rfl) .nil
 ·cases h
noncomputable def ct {R:Type} (m:Nat) (f:FuncId) (args:List AV) (objs:List Ob) (K:Res→Option R):Option R:=
 bif Nat.beq f 4 then ct4 m args objs K else
 bif Nat.beq f 6 then ct6 m args objs K else
 bif Nat.beq f 9 then ct9 m args objs K else
 bif Nat.beq f 10 then ct10 m args objs K else
 bif Nat.beq f 11 then ct11 m args objs K else
 bif Nat.beq f 19 then ct19 m args objs K else
 bif Nat.beq f 42 then ct42 m args objs K else
 bif Nat.beq f 20 then ct20 m args objs K else
 bif Nat.beq f 43 then ct43 m args objs K else
 bif Nat.beq f 21 then ct21 m args objs K else
 bif Nat.beq f 44 then ct44 m args objs K else
 bif Nat.beq f 69 then ct69 m args objs K else
 bif Nat.beq f 89 then ct89 m args objs K else
 bif Nat.beq f 103 then ct103 m args objs K else
 bif Nat.beq f 90 then ct90 m args objs K else
 bif Nat.beq f 104 then ct104 m args objs K else
 bif Nat.beq f 70 then ct70 m args objs K else
 bif Nat.beq f 45 then ct45 m args objs K else
 bif Nat.beq f 46 then ct46 m args objs K else
 bif Nat.beq f 71 then ct71 m args objs K else
 bif Nat.beq f 57 then ct57 m args objs K else
 bif Nat.beq f 72 then ct72 m args objs K else
 bif Nat.beq f 62 then ct62 m args objs K else
 bif Nat.beq f 85 then ct85 m args objs K else
 bif Nat.beq f 47 then ct47 m args objs K else
 bif Nat.beq f 48 then ct48 m args objs K else
 bif Nat.beq f 73 then ct73 m args objs K else
 bif Nat.beq f 22 then ct22 m args objs K else
 bif Nat.beq f 23 then ct23 m args objs K else
 bif Nat.beq f 50 then ct50 m args objs K else
 bif Nat.beq f 49 then ct49 m args objs K else
 bif Nat.beq f 24 then ct24 m args objs K else
 bif Nat.beq f 51 then ct51 m args objs K else
 bif Nat.beq f 52 then ct52 m args objs K else
 bif Nat.beq f 74 then ct74 m args objs K else
 bif Nat.beq f 53 then ct53 m args objs K else
 bif Nat.beq f 75 then ct75 m args objs K else
 bif Nat.beq f 77 then ct77 m args objs K else
 bif Nat.beq f 94 then ct94 m args objs K else
 bif Nat.beq f 110 then ct110 m args objs K else
 bif Nat.beq f 123 then ct123 m args objs K else
 bif Nat.beq f 124 then ct124 m args objs K else
 bif Nat.beq f 66 then ct66 m args objs K else
 bif Nat.beq f 38 then ct38 m args objs K else
 bif Nat.beq f 67 then ct67 m args objs K else
 bif Nat.beq f 54 then ct54 m args objs K else
 bif Nat.beq f 76 then ct76 m args objs K else
 bif Nat.beq f 65 then ct65 m args objs K else
 bif Nat.beq f 78 then ct78 m args objs K else
 bif Nat.beq f 25 then ct25 m args objs K else
 bif Nat.beq f 88 then ct88 m args objs K else
 bif Nat.beq f 35 then ct35 m args objs K else
 bif Nat.beq f 36 then ct36 m args objs K else
 bif Nat.beq f 87 then ct87 m args objs K else
 bif Nat.beq f 63 then ct63 m args objs K else
 bif Nat.beq f 64 then ct64 m args objs K else
 bif Nat.beq f 101 then ct101 m args objs K else
 bif Nat.beq f 102 then ct102 m args objs K else
 bif Nat.beq f 86 then ct86 m args objs K else
 bif Nat.beq f 116 then ct116 m args objs K else
 bif Nat.beq f 117 then ct117 m args objs K else
 bif Nat.beq f 118 then ct118 m args objs K else
 none
end Go.Proofs.YtmejbpmceflcjaaGreatDoor
