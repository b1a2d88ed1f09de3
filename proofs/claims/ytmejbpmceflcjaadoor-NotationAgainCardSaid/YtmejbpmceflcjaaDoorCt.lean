/- Generated: the functions as contracts for their callers. -/
import Derived.Test.YtmejbpmceflcjaaDoorSh
import Derived.Test.YtmejbpmceflcjaaDoorProg
set_option linter.unusedVariables false
set_option linter.unusedSimpArgs false
namespace Go.Proofs.YtmejbpmceflcjaaDoor
open Go.Am
def sel0 (args:List AV) (objs:List Ob):Option (Dt×Int×Int):=match args,objs with
 | [.dat T0 x0,.dat T1 x1,.dat T2 x2],[]=>bif (Nat.beq T0 27&&(Nat.beq T1 5&&Nat.beq T2 5)) then some (x0,x1.toInt,x2.toInt) else none
 |_,_=>none
theorem sel0_ok {args:List AV} {objs:List Ob} {l:Dt×Int×Int} (h:sel0 args objs=some l):CnA Tryd.prog args [(.dat 27 l.1),(.dat 5 (.int l.2.1)),(.dat 5 (.int l.2.2))]∧CnOL Tryd.prog objs []:=by
 unfold sel0 at h
 split at h
 ·obtain⟨hc,h2⟩:=bif_some h
  cases h2
  have e0:=beq_eq (and_l hc)
  have e1:=beq_eq (and_l (and_r hc))
  have e2:=beq_eq (and_r (and_r hc))
  subst e0 e1 e2
  exact⟨(.cons (.of .same rfl rfl) (.cons (.of (.dat (.int Tryd.underlying5)) rfl rfl) (.cons (.of (.dat (.int Tryd.underlying5)) rfl rfl) .nil))),.nil⟩
 ·cases h
def sel1 (args:List AV) (objs:List Ob):Option ByteArray:=match args,objs with
 | [.dat T0 x0],[]=>bif Nat.beq T0 9 then some x0.toStr else none
 |_,_=>none
theorem sel1_ok {args:List AV} {objs:List Ob} {l:ByteArray} (h:sel1 args objs=some l):CnA Tryd.prog args [(.dat 9 (.str l))]∧CnOL Tryd.prog objs []:=by
 unfold sel1 at h
 split at h
 ·obtain⟨hc,h2⟩:=bif_some h
  cases h2
  have e0:=beq_eq hc
  subst e0
  exact⟨(.cons (.of (.dat (.str Tryd.underlying9)) rfl rfl) .nil),.nil⟩
 ·cases h
def sel2 (args:List AV) (objs:List Ob):Option (Dt×Int):=match args,objs with
 | [.dat T0 x0,.dat T1 x1],[]=>bif (Nat.beq T0 27&&Nat.beq T1 38) then some (x0,x1.toInt) else none
 |_,_=>none
theorem sel2_ok {args:List AV} {objs:List Ob} {l:Dt×Int} (h:sel2 args objs=some l):CnA Tryd.prog args [(.dat 27 l.1),(.dat 38 (.int l.2))]∧CnOL Tryd.prog objs []:=by
 unfold sel2 at h
 split at h
 ·obtain⟨hc,h2⟩:=bif_some h
  cases h2
  have e0:=beq_eq (and_l hc)
  have e1:=beq_eq (and_r hc)
  subst e0 e1
  exact⟨(.cons (.of .same rfl rfl) (.cons (.of (.dat (.int Tryd.underlying38)) rfl rfl) .nil)),.nil⟩
 ·cases h
def sel3 (args:List AV) (objs:List Ob):Option (Dt×Int):=match args,objs with
 | [.dat T0 x0,.dat T1 x1],[]=>bif (Nat.beq T0 27&&Nat.beq T1 3) then some (x0,x1.toInt) else none
 |_,_=>none
theorem sel3_ok {args:List AV} {objs:List Ob} {l:Dt×Int} (h:sel3 args objs=some l):CnA Tryd.prog args [(.dat 27 l.1),(.dat 3 (.int l.2))]∧CnOL Tryd.prog objs []:=by
 unfold sel3 at h
 split at h
 ·obtain⟨hc,h2⟩:=bif_some h
  cases h2
  have e0:=beq_eq (and_l hc)
  have e1:=beq_eq (and_r hc)
  subst e0 e1
  exact⟨(.cons (.of .same rfl rfl) (.cons (.of (.dat (.int Tryd.underlying3)) rfl rfl) .nil)),.nil⟩
 ·cases h
def sel4 (args:List AV) (objs:List Ob):Option Unit:=match args,objs with
 | [],[]=>bif true then some () else none
 |_,_=>none
theorem sel4_ok {args:List AV} {objs:List Ob} {l:Unit} (h:sel4 args objs=some l):CnA Tryd.prog args []∧CnOL Tryd.prog objs []:=by
 unfold sel4 at h
 split at h
 ·obtain⟨hc,h2⟩:=bif_some h
  cases h2
  exact⟨.nil,.nil⟩
 ·cases h
def sel5 (args:List AV) (objs:List Ob):Option Dt:=match args,objs with
 | [.dat T0 x0],[]=>bif Nat.beq T0 27 then some x0 else none
 |_,_=>none
theorem sel5_ok {args:List AV} {objs:List Ob} {l:Dt} (h:sel5 args objs=some l):CnA Tryd.prog args [(.dat 27 l)]∧CnOL Tryd.prog objs []:=by
 unfold sel5 at h
 split at h
 ·obtain⟨hc,h2⟩:=bif_some h
  cases h2
  have e0:=beq_eq hc
  subst e0
  exact⟨(.cons (.of .same rfl rfl) .nil),.nil⟩
 ·cases h
def sel8 (args:List AV) (objs:List Ob):Option (Dt×Dt):=match args,objs with
 | [.dat T0 x0,.dat T1 x1],[]=>bif (Nat.beq T0 27&&Nat.beq T1 27) then some (x0,x1) else none
 |_,_=>none
theorem sel8_ok {args:List AV} {objs:List Ob} {l:Dt×Dt} (h:sel8 args objs=some l):CnA Tryd.prog args [(.dat 27 l.1),(.dat 27 l.2)]∧CnOL Tryd.prog objs []:=by
 unfold sel8 at h
 split at h
 ·obtain⟨hc,h2⟩:=bif_some h
  cases h2
  have e0:=beq_eq (and_l hc)
  have e1:=beq_eq (and_r hc)
  subst e0 e1
  exact⟨(.cons (.of .same rfl rfl) (.cons (.of .same rfl rfl) .nil)),.nil⟩
 ·cases h
def sel9 (args:List AV) (objs:List Ob):Option (Dt×Int×Int):=match args,objs with
 | [.dat T0 x0,.dat T1 x1,.dat T2 x2],[]=>bif (Nat.beq T0 27&&(Nat.beq T1 3&&Nat.beq T2 3)) then some (x0,x1.toInt,x2.toInt) else none
 |_,_=>none
theorem sel9_ok {args:List AV} {objs:List Ob} {l:Dt×Int×Int} (h:sel9 args objs=some l):CnA Tryd.prog args [(.dat 27 l.1),(.dat 3 (.int l.2.1)),(.dat 3 (.int l.2.2))]∧CnOL Tryd.prog objs []:=by
 unfold sel9 at h
 split at h
 ·obtain⟨hc,h2⟩:=bif_some h
  cases h2
  have e0:=beq_eq (and_l hc)
  have e1:=beq_eq (and_l (and_r hc))
  have e2:=beq_eq (and_r (and_r hc))
  subst e0 e1 e2
  exact⟨(.cons (.of .same rfl rfl) (.cons (.of (.dat (.int Tryd.underlying3)) rfl rfl) (.cons (.of (.dat (.int Tryd.underlying3)) rfl rfl) .nil))),.nil⟩
 ·cases h
def sel11 (args:List AV) (objs:List Ob):Option (Dt×List Dt):=match args,objs with
 | [.row n0,.dat T1 x1],[.row T2 x2]=>bif (Nat.beq n0 0&&(Nat.beq T1 27&&Nat.beq T2 42)) then some (x1,x2) else none
 |_,_=>none
theorem sel11_ok {args:List AV} {objs:List Ob} {l:Dt×List Dt} (h:sel11 args objs=some l):CnA Tryd.prog args [(.row 0),(.dat 27 l.1)]∧CnOL Tryd.prog objs [(.row 42 l.2)]:=by
 unfold sel11 at h
 split at h
 ·obtain⟨hc,h2⟩:=bif_some h
  cases h2
  have e0:=beq_eq (and_l hc)
  have e1:=beq_eq (and_l (and_r hc))
  have e2:=beq_eq (and_r (and_r hc))
  subst e0 e1 e2
  exact⟨(.cons (.of .same rfl rfl) (.cons (.of .same rfl rfl) .nil)),(.cons .same .nil)⟩
 ·cases h
def sel12 (args:List AV) (objs:List Ob):Option (Bool×List Dt):=match args,objs with
 | [.row n0,.dat T1 x1],[.row T2 x2]=>bif (Nat.beq n0 0&&(Nat.beq T1 4&&Nat.beq T2 42)) then some (x1.toBool,x2) else none
 |_,_=>none
theorem sel12_ok {args:List AV} {objs:List Ob} {l:Bool×List Dt} (h:sel12 args objs=some l):CnA Tryd.prog args [(.row 0),(.dat 4 (.bool l.1))]∧CnOL Tryd.prog objs [(.row 42 l.2)]:=by
 unfold sel12 at h
 split at h
 ·obtain⟨hc,h2⟩:=bif_some h
  cases h2
  have e0:=beq_eq (and_l hc)
  have e1:=beq_eq (and_l (and_r hc))
  have e2:=beq_eq (and_r (and_r hc))
  subst e0 e1 e2
  exact⟨(.cons (.of .same rfl rfl) (.cons (.of (.dat (.bool Tryd.underlying4)) rfl rfl) .nil)),(.cons .same .nil)⟩
 ·cases h
def sel14 (args:List AV) (objs:List Ob):Option (Int×Int×List Dt):=match args,objs with
 | [.row n0,.dat T1 x1,.dat T2 x2],[.row T3 x3]=>bif (Nat.beq n0 0&&(Nat.beq T1 3&&(Nat.beq T2 3&&Nat.beq T3 42))) then some (x1.toInt,x2.toInt,x3) else none
 |_,_=>none
theorem sel14_ok {args:List AV} {objs:List Ob} {l:Int×Int×List Dt} (h:sel14 args objs=some l):CnA Tryd.prog args [(.row 0),(.dat 3 (.int l.1)),(.dat 3 (.int l.2.1))]∧CnOL Tryd.prog objs [(.row 42 l.2.2)]:=by
 unfold sel14 at h
 split at h
 ·obtain⟨hc,h2⟩:=bif_some h
  cases h2
  have e0:=beq_eq (and_l hc)
  have e1:=beq_eq (and_l (and_r hc))
  have e2:=beq_eq (and_l (and_r (and_r hc)))
  have e3:=beq_eq (and_r (and_r (and_r hc)))
  subst e0 e1 e2 e3
  exact⟨(.cons (.of .same rfl rfl) (.cons (.of (.dat (.int Tryd.underlying3)) rfl rfl) (.cons (.of (.dat (.int Tryd.underlying3)) rfl rfl) .nil))),(.cons .same .nil)⟩
 ·cases h
def sel16 (args:List AV) (objs:List Ob):Option (ByteArray×List Dt):=match args,objs with
 | [.row n0,.dat T1 x1],[.row T2 x2]=>bif (Nat.beq n0 0&&(Nat.beq T1 9&&Nat.beq T2 42)) then some (x1.toStr,x2) else none
 |_,_=>none
theorem sel16_ok {args:List AV} {objs:List Ob} {l:ByteArray×List Dt} (h:sel16 args objs=some l):CnA Tryd.prog args [(.row 0),(.dat 9 (.str l.1))]∧CnOL Tryd.prog objs [(.row 42 l.2)]:=by
 unfold sel16 at h
 split at h
 ·obtain⟨hc,h2⟩:=bif_some h
  cases h2
  have e0:=beq_eq (and_l hc)
  have e1:=beq_eq (and_l (and_r hc))
  have e2:=beq_eq (and_r (and_r hc))
  subst e0 e1 e2
  exact⟨(.cons (.of .same rfl rfl) (.cons (.of (.dat (.str Tryd.underlying9)) rfl rfl) .nil)),(.cons .same .nil)⟩
 ·cases h
def sel17 (args:List AV) (objs:List Ob):Option (List Dt×List Dt):=match args,objs with
 | [.row n0,.dat T1 x1],[.row T2 x2]=>bif (Nat.beq n0 0&&(Nat.beq T1 24&&Nat.beq T2 42)) then some (x1.toLst,x2) else none
 |_,_=>none
theorem sel17_ok {args:List AV} {objs:List Ob} {l:List Dt×List Dt} (h:sel17 args objs=some l):CnA Tryd.prog args [(.row 0),(.dat 24 (.lst l.1))]∧CnOL Tryd.prog objs [(.row 42 l.2)]:=by
 unfold sel17 at h
 split at h
 ·obtain⟨hc,h2⟩:=bif_some h
  cases h2
  have e0:=beq_eq (and_l hc)
  have e1:=beq_eq (and_l (and_r hc))
  have e2:=beq_eq (and_r (and_r hc))
  subst e0 e1 e2
  exact⟨(.cons (.of .same rfl rfl) (.cons (.of (.dat (.lst Tryd.underlying24)) rfl rfl) .nil)),(.cons .same .nil)⟩
 ·cases h
def sel18 (args:List AV) (objs:List Ob):Option (List Dt×List Dt):=match args,objs with
 | [.row n0,.dat T1 x1],[.row T2 x2]=>bif (Nat.beq n0 0&&(Nat.beq T1 25&&Nat.beq T2 42)) then some (x1.toLst,x2) else none
 |_,_=>none
theorem sel18_ok {args:List AV} {objs:List Ob} {l:List Dt×List Dt} (h:sel18 args objs=some l):CnA Tryd.prog args [(.row 0),(.dat 25 (.lst l.1))]∧CnOL Tryd.prog objs [(.row 42 l.2)]:=by
 unfold sel18 at h
 split at h
 ·obtain⟨hc,h2⟩:=bif_some h
  cases h2
  have e0:=beq_eq (and_l hc)
  have e1:=beq_eq (and_l (and_r hc))
  have e2:=beq_eq (and_r (and_r hc))
  subst e0 e1 e2
  exact⟨(.cons (.of .same rfl rfl) (.cons (.of (.dat (.lst Tryd.underlying25)) rfl rfl) .nil)),(.cons .same .nil)⟩
 ·cases h
def sel19 (args:List AV) (objs:List Ob):Option (List Dt):=match args,objs with
 | [.dat T0 x0],[]=>bif Nat.beq T0 25 then some x0.toLst else none
 |_,_=>none
theorem sel19_ok {args:List AV} {objs:List Ob} {l:List Dt} (h:sel19 args objs=some l):CnA Tryd.prog args [(.dat 25 (.lst l))]∧CnOL Tryd.prog objs []:=by
 unfold sel19 at h
 split at h
 ·obtain⟨hc,h2⟩:=bif_some h
  cases h2
  have e0:=beq_eq hc
  subst e0
  exact⟨(.cons (.of (.dat (.lst Tryd.underlying25)) rfl rfl) .nil),.nil⟩
 ·cases h
def sel23 (args:List AV) (objs:List Ob):Option Dt:=match args,objs with
 | [.ptr n0 p0 o0],[.box T1 (.dat T2 x2)]=>bif (Nat.beq n0 0&&(natsB p0 []&&(Nat.beq o0 0&&(Nat.beq T1 45&&Nat.beq T2 45)))) then some x2 else none
 |_,_=>none
theorem sel23_ok {args:List AV} {objs:List Ob} {l:Dt} (h:sel23 args objs=some l):CnA Tryd.prog args [(.ptr 0 [] 0)]∧CnOL Tryd.prog objs [(.box 45 (.dat 45 l))]:=by
 unfold sel23 at h
 split at h
 ·obtain⟨hc,h2⟩:=bif_some h
  cases h2
  have e0:=beq_eq (and_l hc)
  have e1:=natsB_eq (and_l (and_r hc))
  have e2:=beq_eq (and_l (and_r (and_r hc)))
  have e3:=beq_eq (and_l (and_r (and_r (and_r hc))))
  have e4:=beq_eq (and_r (and_r (and_r (and_r hc))))
  subst e0 e1 e2 e3 e4
  exact⟨(.cons (.of .same rfl rfl) .nil),(.cons (.box .same) .nil)⟩
 ·cases h
def sel25 (args:List AV) (objs:List Ob):Option (Int×Bool×Dt):=match args,objs with
 | [.ptr n0 p0 o0,.dat T1 x1,.dat T2 x2],[.box T3 (.dat T4 x4)]=>bif (Nat.beq n0 0&&(natsB p0 []&&(Nat.beq o0 0&&(Nat.beq T1 3&&(Nat.beq T2 4&&(Nat.beq T3 45&&Nat.beq T4 45)))))) then some (x1.toInt,x2.toBool,x4) else none
 |_,_=>none
theorem sel25_ok {args:List AV} {objs:List Ob} {l:Int×Bool×Dt} (h:sel25 args objs=some l):CnA Tryd.prog args [(.ptr 0 [] 0),(.dat 3 (.int l.1)),(.dat 4 (.bool l.2.1))]∧CnOL Tryd.prog objs [(.box 45 (.dat 45 l.2.2))]:=by
 unfold sel25 at h
 split at h
 ·obtain⟨hc,h2⟩:=bif_some h
  cases h2
  have e0:=beq_eq (and_l hc)
  have e1:=natsB_eq (and_l (and_r hc))
  have e2:=beq_eq (and_l (and_r (and_r hc)))
  have e3:=beq_eq (and_l (and_r (and_r (and_r hc))))
  have e4:=beq_eq (and_l (and_r (and_r (and_r (and_r hc)))))
  have e5:=beq_eq (and_l (and_r (and_r (and_r (and_r (and_r hc))))))
  have e6:=beq_eq (and_r (and_r (and_r (and_r (and_r (and_r hc))))))
  subst e0 e1 e2 e3 e4 e5 e6
  exact⟨(.cons (.of .same rfl rfl) (.cons (.of (.dat (.int Tryd.underlying3)) rfl rfl) (.cons (.of (.dat (.bool Tryd.underlying4)) rfl rfl) .nil))),(.cons (.box .same) .nil)⟩
 ·cases h
def sel26 (args:List AV) (objs:List Ob):Option (Int×Int×Dt):=match args,objs with
 | [.ptr n0 p0 o0,.dat T1 x1,.dat T2 x2],[.box T3 (.dat T4 x4)]=>bif (Nat.beq n0 0&&(natsB p0 []&&(Nat.beq o0 0&&(Nat.beq T1 3&&(Nat.beq T2 3&&(Nat.beq T3 45&&Nat.beq T4 45)))))) then some (x1.toInt,x2.toInt,x4) else none
 |_,_=>none
theorem sel26_ok {args:List AV} {objs:List Ob} {l:Int×Int×Dt} (h:sel26 args objs=some l):CnA Tryd.prog args [(.ptr 0 [] 0),(.dat 3 (.int l.1)),(.dat 3 (.int l.2.1))]∧CnOL Tryd.prog objs [(.box 45 (.dat 45 l.2.2))]:=by
 unfold sel26 at h
 split at h
 ·obtain⟨hc,h2⟩:=bif_some h
  cases h2
  have e0:=beq_eq (and_l hc)
  have e1:=natsB_eq (and_l (and_r hc))
  have e2:=beq_eq (and_l (and_r (and_r hc)))
  have e3:=beq_eq (and_l (and_r (and_r (and_r hc))))
  have e4:=beq_eq (and_l (and_r (and_r (and_r (and_r hc)))))
  have e5:=beq_eq (and_l (and_r (and_r (and_r (and_r (and_r hc))))))
  have e6:=beq_eq (and_r (and_r (and_r (and_r (and_r (and_r hc))))))
  subst e0 e1 e2 e3 e4 e5 e6
  exact⟨(.cons (.of .same rfl rfl) (.cons (.of (.dat (.int Tryd.underlying3)) rfl rfl) (.cons (.of (.dat (.int Tryd.underlying3)) rfl rfl) .nil))),(.cons (.box .same) .nil)⟩
 ·cases h
def sel27 (args:List AV) (objs:List Ob):Option (Int×Int×Dt):=match args,objs with
 | [.ptr n0 p0 o0,.dat T1 x1,.dat T2 x2],[.box T3 (.dat T4 x4)]=>bif (Nat.beq n0 0&&(natsB p0 []&&(Nat.beq o0 0&&(Nat.beq T1 28&&(Nat.beq T2 3&&(Nat.beq T3 45&&Nat.beq T4 45)))))) then some (x1.toInt,x2.toInt,x4) else none
 |_,_=>none
theorem sel27_ok {args:List AV} {objs:List Ob} {l:Int×Int×Dt} (h:sel27 args objs=some l):CnA Tryd.prog args [(.ptr 0 [] 0),(.dat 28 (.int l.1)),(.dat 3 (.int l.2.1))]∧CnOL Tryd.prog objs [(.box 45 (.dat 45 l.2.2))]:=by
 unfold sel27 at h
 split at h
 ·obtain⟨hc,h2⟩:=bif_some h
  cases h2
  have e0:=beq_eq (and_l hc)
  have e1:=natsB_eq (and_l (and_r hc))
  have e2:=beq_eq (and_l (and_r (and_r hc)))
  have e3:=beq_eq (and_l (and_r (and_r (and_r hc))))
  have e4:=beq_eq (and_l (and_r (and_r (and_r (and_r hc)))))
  have e5:=beq_eq (and_l (and_r (and_r (and_r (and_r (and_r hc))))))
  have e6:=beq_eq (and_r (and_r (and_r (and_r (and_r (and_r hc))))))
  subst e0 e1 e2 e3 e4 e5 e6
  exact⟨(.cons (.of .same rfl rfl) (.cons (.of (.dat (.int Tryd.underlying28)) rfl rfl) (.cons (.of (.dat (.int Tryd.underlying3)) rfl rfl) .nil))),(.cons (.box .same) .nil)⟩
 ·cases h
def sel32 (args:List AV) (objs:List Ob):Option (Int×List Dt):=match args,objs with
 | [.row n0,.dat T1 x1],[.row T2 x2]=>bif (Nat.beq n0 0&&(Nat.beq T1 21&&Nat.beq T2 42)) then some (x1.toInt,x2) else none
 |_,_=>none
theorem sel32_ok {args:List AV} {objs:List Ob} {l:Int×List Dt} (h:sel32 args objs=some l):CnA Tryd.prog args [(.row 0),(.dat 21 (.int l.1))]∧CnOL Tryd.prog objs [(.row 42 l.2)]:=by
 unfold sel32 at h
 split at h
 ·obtain⟨hc,h2⟩:=bif_some h
  cases h2
  have e0:=beq_eq (and_l hc)
  have e1:=beq_eq (and_l (and_r hc))
  have e2:=beq_eq (and_r (and_r hc))
  subst e0 e1 e2
  exact⟨(.cons (.of .same rfl rfl) (.cons (.of (.dat (.int Tryd.underlying21)) rfl rfl) .nil)),(.cons .same .nil)⟩
 ·cases h
def sel35 (args:List AV) (objs:List Ob):Option (Int×Dt):=match args,objs with
 | [.ptr n0 p0 o0,.dat T1 x1],[.box T2 (.dat T3 x3)]=>bif (Nat.beq n0 0&&(natsB p0 []&&(Nat.beq o0 0&&(Nat.beq T1 3&&(Nat.beq T2 45&&Nat.beq T3 45))))) then some (x1.toInt,x3) else none
 |_,_=>none
theorem sel35_ok {args:List AV} {objs:List Ob} {l:Int×Dt} (h:sel35 args objs=some l):CnA Tryd.prog args [(.ptr 0 [] 0),(.dat 3 (.int l.1))]∧CnOL Tryd.prog objs [(.box 45 (.dat 45 l.2))]:=by
 unfold sel35 at h
 split at h
 ·obtain⟨hc,h2⟩:=bif_some h
  cases h2
  have e0:=beq_eq (and_l hc)
  have e1:=natsB_eq (and_l (and_r hc))
  have e2:=beq_eq (and_l (and_r (and_r hc)))
  have e3:=beq_eq (and_l (and_r (and_r (and_r hc))))
  have e4:=beq_eq (and_l (and_r (and_r (and_r (and_r hc)))))
  have e5:=beq_eq (and_r (and_r (and_r (and_r (and_r hc)))))
  subst e0 e1 e2 e3 e4 e5
  exact⟨(.cons (.of .same rfl rfl) (.cons (.of (.dat (.int Tryd.underlying3)) rfl rfl) .nil)),(.cons (.box .same) .nil)⟩
 ·cases h
def sel37 (args:List AV) (objs:List Ob):Option (Dt×List Dt):=match args,objs with
 | [.ptr n0 p0 o0,.row n1],[.box T2 (.dat T3 x3),.map T4 x4]=>bif (Nat.beq n0 0&&(natsB p0 []&&(Nat.beq o0 0&&(Nat.beq n1 1&&(Nat.beq T2 45&&(Nat.beq T3 45&&Nat.beq T4 68)))))) then some (x3,x4) else none
 |_,_=>none
theorem sel37_ok {args:List AV} {objs:List Ob} {l:Dt×List Dt} (h:sel37 args objs=some l):CnA Tryd.prog args [(.ptr 0 [] 0),(.row 1)]∧CnOL Tryd.prog objs [(.box 45 (.dat 45 l.1)),(.map 68 l.2)]:=by
 unfold sel37 at h
 split at h
 ·obtain⟨hc,h2⟩:=bif_some h
  cases h2
  have e0:=beq_eq (and_l hc)
  have e1:=natsB_eq (and_l (and_r hc))
  have e2:=beq_eq (and_l (and_r (and_r hc)))
  have e3:=beq_eq (and_l (and_r (and_r (and_r hc))))
  have e4:=beq_eq (and_l (and_r (and_r (and_r (and_r hc)))))
  have e5:=beq_eq (and_l (and_r (and_r (and_r (and_r (and_r hc))))))
  have e6:=beq_eq (and_r (and_r (and_r (and_r (and_r (and_r hc))))))
  subst e0 e1 e2 e3 e4 e5 e6
  exact⟨(.cons (.of .same rfl rfl) (.cons (.of .same rfl rfl) .nil)),(.cons (.box .same) (.cons .same .nil))⟩
 ·cases h
def sel40 (args:List AV) (objs:List Ob):Option (List Dt):=match args,objs with
 | [.row n0],[.row T1 x1]=>bif (Nat.beq n0 0&&Nat.beq T1 25) then some x1 else none
 |_,_=>none
theorem sel40_ok {args:List AV} {objs:List Ob} {l:List Dt} (h:sel40 args objs=some l):CnA Tryd.prog args [(.row 0)]∧CnOL Tryd.prog objs [(.row 25 l)]:=by
 unfold sel40 at h
 split at h
 ·obtain⟨hc,h2⟩:=bif_some h
  cases h2
  have e0:=beq_eq (and_l hc)
  have e1:=beq_eq (and_r hc)
  subst e0 e1
  exact⟨(.cons (.of .same rfl rfl) .nil),(.cons .same .nil)⟩
 ·cases h
def sel42 (args:List AV) (objs:List Ob):Option (ByteArray×Dt):=match args,objs with
 | [.ptr n0 p0 o0,.dat T1 x1],[.box T2 (.dat T3 x3)]=>bif (Nat.beq n0 0&&(natsB p0 []&&(Nat.beq o0 0&&(Nat.beq T1 9&&(Nat.beq T2 45&&Nat.beq T3 45))))) then some (x1.toStr,x3) else none
 |_,_=>none
theorem sel42_ok {args:List AV} {objs:List Ob} {l:ByteArray×Dt} (h:sel42 args objs=some l):CnA Tryd.prog args [(.ptr 0 [] 0),(.dat 9 (.str l.1))]∧CnOL Tryd.prog objs [(.box 45 (.dat 45 l.2))]:=by
 unfold sel42 at h
 split at h
 ·obtain⟨hc,h2⟩:=bif_some h
  cases h2
  have e0:=beq_eq (and_l hc)
  have e1:=natsB_eq (and_l (and_r hc))
  have e2:=beq_eq (and_l (and_r (and_r hc)))
  have e3:=beq_eq (and_l (and_r (and_r (and_r hc))))
  have e4:=beq_eq (and_l (and_r (and_r (and_r (and_r hc)))))
  have e5:=beq_eq (and_r (and_r (and_r (and_r (and_r hc)))))
  subst e0 e1 e2 e3 e4 e5
  exact⟨(.cons (.of .same rfl rfl) (.cons (.of (.dat (.str Tryd.underlying9)) rfl rfl) .nil)),(.cons (.box .same) .nil)⟩
 ·cases h
def sel44 (args:List AV) (objs:List Ob):Option (ByteArray×Int×Int):=match args,objs with
 | [.dat T0 x0,.dat T1 x1,.dat T2 x2],[]=>bif (Nat.beq T0 9&&(Nat.beq T1 3&&Nat.beq T2 3)) then some (x0.toStr,x1.toInt,x2.toInt) else none
 |_,_=>none
theorem sel44_ok {args:List AV} {objs:List Ob} {l:ByteArray×Int×Int} (h:sel44 args objs=some l):CnA Tryd.prog args [(.dat 9 (.str l.1)),(.dat 3 (.int l.2.1)),(.dat 3 (.int l.2.2))]∧CnOL Tryd.prog objs []:=by
 unfold sel44 at h
 split at h
 ·obtain⟨hc,h2⟩:=bif_some h
  cases h2
  have e0:=beq_eq (and_l hc)
  have e1:=beq_eq (and_l (and_r hc))
  have e2:=beq_eq (and_r (and_r hc))
  subst e0 e1 e2
  exact⟨(.cons (.of (.dat (.str Tryd.underlying9)) rfl rfl) (.cons (.of (.dat (.int Tryd.underlying3)) rfl rfl) (.cons (.of (.dat (.int Tryd.underlying3)) rfl rfl) .nil))),.nil⟩
 ·cases h
def sel55 (args:List AV) (objs:List Ob):Option Int:=match args,objs with
 | [.dat T0 x0],[]=>bif Nat.beq T0 3 then some x0.toInt else none
 |_,_=>none
theorem sel55_ok {args:List AV} {objs:List Ob} {l:Int} (h:sel55 args objs=some l):CnA Tryd.prog args [(.dat 3 (.int l))]∧CnOL Tryd.prog objs []:=by
 unfold sel55 at h
 split at h
 ·obtain⟨hc,h2⟩:=bif_some h
  cases h2
  have e0:=beq_eq hc
  subst e0
  exact⟨(.cons (.of (.dat (.int Tryd.underlying3)) rfl rfl) .nil),.nil⟩
 ·cases h
def sel59 (args:List AV) (objs:List Ob):Option (Dt×Bool):=match args,objs with
 | [.dat T0 x0,.dat T1 x1],[]=>bif (Nat.beq T0 27&&Nat.beq T1 4) then some (x0,x1.toBool) else none
 |_,_=>none
theorem sel59_ok {args:List AV} {objs:List Ob} {l:Dt×Bool} (h:sel59 args objs=some l):CnA Tryd.prog args [(.dat 27 l.1),(.dat 4 (.bool l.2))]∧CnOL Tryd.prog objs []:=by
 unfold sel59 at h
 split at h
 ·obtain⟨hc,h2⟩:=bif_some h
  cases h2
  have e0:=beq_eq (and_l hc)
  have e1:=beq_eq (and_r hc)
  subst e0 e1
  exact⟨(.cons (.of .same rfl rfl) (.cons (.of (.dat (.bool Tryd.underlying4)) rfl rfl) .nil)),.nil⟩
 ·cases h
def sel60 (args:List AV) (objs:List Ob):Option (Dt×Int×Int):=match args,objs with
 | [.dat T0 x0,.fn T1 [.ptr n2 p2 o2,.ptr n3 p3 o3]],[.box T4 (.dat T5 x5),.box T6 (.dat T7 x7)]=>bif (Nat.beq T0 27&&(Nat.beq T1 73&&(Nat.beq n2 0&&(natsB p2 []&&(Nat.beq o2 0&&(Nat.beq n3 1&&(natsB p3 []&&(Nat.beq o3 0&&(Nat.beq T4 3&&(Nat.beq T5 3&&(Nat.beq T6 3&&Nat.beq T7 3))))))))))) then some (x0,x5.toInt,x7.toInt) else none
 |_,_=>none
theorem sel60_ok {args:List AV} {objs:List Ob} {l:Dt×Int×Int} (h:sel60 args objs=some l):CnA Tryd.prog args [(.dat 27 l.1),(.fn 73 [(.ptr 0 [] 0),(.ptr 1 [] 0)])]∧CnOL Tryd.prog objs [(.box 3 (.dat 3 (.int l.2.1))),(.box 3 (.dat 3 (.int l.2.2)))]:=by
 unfold sel60 at h
 split at h
 ·obtain⟨hc,h2⟩:=bif_some h
  cases h2
  have e0:=beq_eq (and_l hc)
  have e1:=beq_eq (and_l (and_r hc))
  have e2:=beq_eq (and_l (and_r (and_r hc)))
  have e3:=natsB_eq (and_l (and_r (and_r (and_r hc))))
  have e4:=beq_eq (and_l (and_r (and_r (and_r (and_r hc)))))
  have e5:=beq_eq (and_l (and_r (and_r (and_r (and_r (and_r hc))))))
  have e6:=natsB_eq (and_l (and_r (and_r (and_r (and_r (and_r (and_r hc)))))))
  have e7:=beq_eq (and_l (and_r (and_r (and_r (and_r (and_r (and_r (and_r hc))))))))
  have e8:=beq_eq (and_l (and_r (and_r (and_r (and_r (and_r (and_r (and_r (and_r hc)))))))))
  have e9:=beq_eq (and_l (and_r (and_r (and_r (and_r (and_r (and_r (and_r (and_r (and_r hc))))))))))
  have e10:=beq_eq (and_l (and_r (and_r (and_r (and_r (and_r (and_r (and_r (and_r (and_r (and_r hc)))))))))))
  have e11:=beq_eq (and_r (and_r (and_r (and_r (and_r (and_r (and_r (and_r (and_r (and_r (and_r hc)))))))))))
  subst e0 e1 e2 e3 e4 e5 e6 e7 e8 e9 e10 e11
  exact⟨(.cons (.of .same rfl rfl) (.cons (.of (.fn (.cons .same (.cons .same .nil))) rfl rfl) .nil)),(.cons (.box (.dat (.int Tryd.underlying3))) (.cons (.box (.dat (.int Tryd.underlying3))) .nil))⟩
 ·cases h
def sel61 (args:List AV) (objs:List Ob):Option (Dt×Int×Int):=match args,objs with
 | [.dat T0 x0,.ptr n1 p1 o1,.ptr n2 p2 o2],[.box T3 (.dat T4 x4),.box T5 (.dat T6 x6)]=>bif (Nat.beq T0 27&&(Nat.beq n1 0&&(natsB p1 []&&(Nat.beq o1 0&&(Nat.beq n2 1&&(natsB p2 []&&(Nat.beq o2 0&&(Nat.beq T3 3&&(Nat.beq T4 3&&(Nat.beq T5 3&&Nat.beq T6 3)))))))))) then some (x0,x4.toInt,x6.toInt) else none
 |_,_=>none
theorem sel61_ok {args:List AV} {objs:List Ob} {l:Dt×Int×Int} (h:sel61 args objs=some l):CnA Tryd.prog args [(.dat 27 l.1),(.ptr 0 [] 0),(.ptr 1 [] 0)]∧CnOL Tryd.prog objs [(.box 3 (.dat 3 (.int l.2.1))),(.box 3 (.dat 3 (.int l.2.2)))]:=by
 unfold sel61 at h
 split at h
 ·obtain⟨hc,h2⟩:=bif_some h
  cases h2
  have e0:=beq_eq (and_l hc)
  have e1:=beq_eq (and_l (and_r hc))
  have e2:=natsB_eq (and_l (and_r (and_r hc)))
  have e3:=beq_eq (and_l (and_r (and_r (and_r hc))))
  have e4:=beq_eq (and_l (and_r (and_r (and_r (and_r hc)))))
  have e5:=natsB_eq (and_l (and_r (and_r (and_r (and_r (and_r hc))))))
  have e6:=beq_eq (and_l (and_r (and_r (and_r (and_r (and_r (and_r hc)))))))
  have e7:=beq_eq (and_l (and_r (and_r (and_r (and_r (and_r (and_r (and_r hc))))))))
  have e8:=beq_eq (and_l (and_r (and_r (and_r (and_r (and_r (and_r (and_r (and_r hc)))))))))
  have e9:=beq_eq (and_l (and_r (and_r (and_r (and_r (and_r (and_r (and_r (and_r (and_r hc))))))))))
  have e10:=beq_eq (and_r (and_r (and_r (and_r (and_r (and_r (and_r (and_r (and_r (and_r hc))))))))))
  subst e0 e1 e2 e3 e4 e5 e6 e7 e8 e9 e10
  exact⟨(.cons (.of .same rfl rfl) (.cons (.of .same rfl rfl) (.cons (.of .same rfl rfl) .nil))),(.cons (.box (.dat (.int Tryd.underlying3))) (.cons (.box (.dat (.int Tryd.underlying3))) .nil))⟩
 ·cases h
def sel63 (args:List AV) (objs:List Ob):Option (Dt×Int×Int):=match args,objs with
 | [.dat T0 x0,.fn T1 [.ptr n2 p2 o2,.ptr n3 p3 o3]],[.box T4 (.dat T5 x5),.box T6 (.dat T7 x7)]=>bif (Nat.beq T0 27&&(Nat.beq T1 74&&(Nat.beq n2 0&&(natsB p2 []&&(Nat.beq o2 0&&(Nat.beq n3 1&&(natsB p3 []&&(Nat.beq o3 0&&(Nat.beq T4 3&&(Nat.beq T5 3&&(Nat.beq T6 3&&Nat.beq T7 3))))))))))) then some (x0,x5.toInt,x7.toInt) else none
 |_,_=>none
theorem sel63_ok {args:List AV} {objs:List Ob} {l:Dt×Int×Int} (h:sel63 args objs=some l):CnA Tryd.prog args [(.dat 27 l.1),(.fn 74 [(.ptr 0 [] 0),(.ptr 1 [] 0)])]∧CnOL Tryd.prog objs [(.box 3 (.dat 3 (.int l.2.1))),(.box 3 (.dat 3 (.int l.2.2)))]:=by
 unfold sel63 at h
 split at h
 ·obtain⟨hc,h2⟩:=bif_some h
  cases h2
  have e0:=beq_eq (and_l hc)
  have e1:=beq_eq (and_l (and_r hc))
  have e2:=beq_eq (and_l (and_r (and_r hc)))
  have e3:=natsB_eq (and_l (and_r (and_r (and_r hc))))
  have e4:=beq_eq (and_l (and_r (and_r (and_r (and_r hc)))))
  have e5:=beq_eq (and_l (and_r (and_r (and_r (and_r (and_r hc))))))
  have e6:=natsB_eq (and_l (and_r (and_r (and_r (and_r (and_r (and_r hc)))))))
  have e7:=beq_eq (and_l (and_r (and_r (and_r (and_r (and_r (and_r (and_r hc))))))))
  have e8:=beq_eq (and_l (and_r (and_r (and_r (and_r (and_r (and_r (and_r (and_r hc)))))))))
  have e9:=beq_eq (and_l (and_r (and_r (and_r (and_r (and_r (and_r (and_r (and_r (and_r hc))))))))))
  have e10:=beq_eq (and_l (and_r (and_r (and_r (and_r (and_r (and_r (and_r (and_r (and_r (and_r hc)))))))))))
  have e11:=beq_eq (and_r (and_r (and_r (and_r (and_r (and_r (and_r (and_r (and_r (and_r (and_r hc)))))))))))
  subst e0 e1 e2 e3 e4 e5 e6 e7 e8 e9 e10 e11
  exact⟨(.cons (.of .same rfl rfl) (.cons (.of (.fn (.cons .same (.cons .same .nil))) rfl rfl) .nil)),(.cons (.box (.dat (.int Tryd.underlying3))) (.cons (.box (.dat (.int Tryd.underlying3))) .nil))⟩
 ·cases h
noncomputable def ct4 {R:Type} (m:Nat) (args:List AV) (objs:List Ob) (K:Res→Option R):Option R:=match sel0 args objs with
 |some l=>(law05_NotationBack m l.1 l.2.1 l.2.2).bind fun r=>K ((.dat 4 (.bool r)),[])
 |none=>none
noncomputable def ct5 {R:Type} (m:Nat) (args:List AV) (objs:List Ob) (K:Res→Option R):Option R:=match sel1 args objs with
 |some l=>(law05_NotationAgain m l).bind fun r=>K ((.dat 4 (.bool r)),[])
 |none=>none
noncomputable def ct6 {R:Type} (m:Nat) (args:List AV) (objs:List Ob) (K:Res→Option R):Option R:=match sel2 args objs with
 |some l=>(law05_NotationCut m l.1 l.2).bind fun r=>K ((.dat 4 (.bool r)),[])
 |none=>none
noncomputable def ct12 {R:Type} (m:Nat) (args:List AV) (objs:List Ob) (K:Res→Option R):Option R:=match sel3 args objs with
 |some l=>(ref02_Few m l.1 l.2).bind fun r=>K ((.dat 4 (.bool r)),[])
 |none=>none
noncomputable def ct7 {R:Type} (m:Nat) (args:List AV) (objs:List Ob) (K:Res→Option R):Option R:=match sel4 args objs with
 |some l=>(awakeC).bind fun r=>K ((.dat 4 (.bool r)),[])
 |none=>none
noncomputable def ct13 {R:Type} (m:Nat) (args:List AV) (objs:List Ob) (K:Res→Option R):Option R:=match sel5 args objs with
 |some l=>(notation_Print m l).bind fun r=>K ((.tup [(.dat 9 (.str r.1)),(.dat 28 (.int r.2))]),[])
 |none=>none
noncomputable def ct14 {R:Type} (m:Nat) (args:List AV) (objs:List Ob) (K:Res→Option R):Option R:=match sel5 args objs with
 |some l=>(ref05_WellFormed m l).bind fun r=>K ((.dat 4 (.bool r)),[])
 |none=>none
noncomputable def ct10 {R:Type} (m:Nat) (args:List AV) (objs:List Ob) (K:Res→Option R):Option R:=match sel1 args objs with
 |some l=>(notation_Parse m l).bind fun r=>K ((.tup [(.dat 27 r.1),(.dat 3 (.int r.2.1)),(.dat 28 (.int r.2.2))]),[])
 |none=>none
noncomputable def ct15 {R:Type} (m:Nat) (args:List AV) (objs:List Ob) (K:Res→Option R):Option R:=match sel8 args objs with
 |some l=>(ref05_Same m l.1 l.2).bind fun r=>K ((.dat 4 (.bool r)),[])
 |none=>none
noncomputable def ct23 {R:Type} (m:Nat) (args:List AV) (objs:List Ob) (K:Res→Option R):Option R:=match sel9 args objs with
 |some l=>(ref02_count m l.1 l.2.1 l.2.2).bind fun r=>K ((.dat 3 (.int r)),[])
 |none=>none
noncomputable def ct24 {R:Type} (m:Nat) (args:List AV) (objs:List Ob) (K:Res→Option R):Option R:=match sel5 args objs with
 |some l=>(notation_wellFormed m l).bind fun r=>K ((.dat 4 (.bool r)),[])
 |none=>none
noncomputable def ct25 {R:Type} (m:Nat) (args:List AV) (objs:List Ob) (K:Res→Option R):Option R:=match sel11 args objs with
 |some l=>(i11 m l.1 l.2).bind fun r=>K ((.tup [(.row 1),(.dat 28 (.int r.1))]),[.gone,(.row 42 r.2)])
 |none=>none
noncomputable def ct43 {R:Type} (m:Nat) (args:List AV) (objs:List Ob) (K:Res→Option R):Option R:=match sel12 args objs with
 |some l=>(i12 m l.1 l.2).bind fun r=>K ((.row 1),[.gone,(.row 42 r)])
 |none=>none
noncomputable def ct64 {R:Type} (m:Nat) (args:List AV) (objs:List Ob) (K:Res→Option R):Option R:=match sel12 args objs with
 |some l=>(i13 m l.1 l.2).bind fun r=>K ((.row 1),[.gone,(.row 42 r)])
 |none=>none
noncomputable def ct44 {R:Type} (m:Nat) (args:List AV) (objs:List Ob) (K:Res→Option R):Option R:=match sel14 args objs with
 |some l=>(strconv_AppendInt l.1 l.2.1 l.2.2).bind fun r=>K ((.row 1),[.gone,(.row 42 r)])
 |none=>none
noncomputable def ct8 {R:Type} (m:Nat) (args:List AV) (objs:List Ob) (K:Res→Option R):Option R:=match sel1 args objs with
 |some l=>(notation_Quote m l).bind fun r=>K ((.dat 9 (.str r)),[])
 |none=>none
noncomputable def ct45 {R:Type} (m:Nat) (args:List AV) (objs:List Ob) (K:Res→Option R):Option R:=match sel16 args objs with
 |some l=>(i16 m l.1 l.2).bind fun r=>K ((.row 1),[.gone,(.row 42 r)])
 |none=>none
noncomputable def ct46 {R:Type} (m:Nat) (args:List AV) (objs:List Ob) (K:Res→Option R):Option R:=match sel17 args objs with
 |some l=>(i17 m l.1 l.2).bind fun r=>K ((.tup [(.row 1),(.dat 28 (.int r.1))]),[.gone,(.row 42 r.2)])
 |none=>none
noncomputable def ct47 {R:Type} (m:Nat) (args:List AV) (objs:List Ob) (K:Res→Option R):Option R:=match sel18 args objs with
 |some l=>(i18 m l.1 l.2).bind fun r=>K ((.tup [(.row 1),(.dat 28 (.int r.1))]),[.gone,(.row 42 r.2)])
 |none=>none
noncomputable def ct53 {R:Type} (m:Nat) (args:List AV) (objs:List Ob) (K:Res→Option R):Option R:=match sel19 args objs with
 |some l=>(notation_special m l).bind fun r=>K ((.tup [(.dat 27 r.1),(.dat 4 (.bool r.2))]),[])
 |none=>match sel40 args objs with
 |some l=>(i40 m l).bind fun r=>K ((.tup [(.dat 27 r.1),(.dat 4 (.bool r.2.1))]),[(.row 25 r.2.2)])
 |none=>none
noncomputable def ct20 {R:Type} (m:Nat) (args:List AV) (objs:List Ob) (K:Res→Option R):Option R:=match sel5 args objs with
 |some l=>(ref01_Depth m l).bind fun r=>K ((.dat 3 (.int r)),[])
 |none=>none
noncomputable def ct21 {R:Type} (m:Nat) (args:List AV) (objs:List Ob) (K:Res→Option R):Option R:=match sel5 args objs with
 |some l=>(ref01_Nodes m l).bind fun r=>K ((.dat 3 (.int r)),[])
 |none=>none
noncomputable def ct26 {R:Type} (m:Nat) (args:List AV) (objs:List Ob) (K:Res→Option R):Option R:=match sel5 args objs with
 |some l=>(ref05_formed m l).bind fun r=>K ((.dat 4 (.bool r)),[])
 |none=>none
noncomputable def ct17 {R:Type} (m:Nat) (args:List AV) (objs:List Ob) (K:Res→Option R):Option R:=match sel23 args objs with
 |some l=>(i23 m l).bind fun r=>K ((.tup []),[(.box 45 (.dat 45 r))])
 |none=>none
noncomputable def ct28 {R:Type} (m:Nat) (args:List AV) (objs:List Ob) (K:Res→Option R):Option R:=match sel23 args objs with
 |some l=>(i24 m l).bind fun r=>K ((.dat 3 (.int r.1)),[(.box 45 (.dat 45 r.2))])
 |none=>none
noncomputable def ct18 {R:Type} (m:Nat) (args:List AV) (objs:List Ob) (K:Res→Option R):Option R:=match sel25 args objs with
 |some l=>(i25 m l.1 l.2.1 l.2.2).bind fun r=>K ((.tup [(.dat 27 r.1),(.dat 4 (.bool r.2.1))]),[(.box 45 (.dat 45 r.2.2))])
 |none=>none
noncomputable def ct29 {R:Type} (m:Nat) (args:List AV) (objs:List Ob) (K:Res→Option R):Option R:=match sel26 args objs with
 |some l=>(i26 m l.1 l.2.1 l.2.2).bind fun r=>K ((.dat 4 (.bool r.1)),[(.box 45 (.dat 45 r.2))])
 |none=>none
noncomputable def ct19 {R:Type} (m:Nat) (args:List AV) (objs:List Ob) (K:Res→Option R):Option R:=match sel27 args objs with
 |some l=>(i27 m l.1 l.2.1 l.2.2).bind fun r=>K ((.dat 4 (.bool r.1)),[(.box 45 (.dat 45 r.2))])
 |none=>none
noncomputable def ct30 {R:Type} (m:Nat) (args:List AV) (objs:List Ob) (K:Res→Option R):Option R:=match sel23 args objs with
 |some l=>(i28 m l).bind fun r=>K ((.tup [(.dat 27 r.1),(.dat 4 (.bool r.2.1))]),[(.box 45 (.dat 45 r.2.2))])
 |none=>none
noncomputable def ct49 {R:Type} (m:Nat) (args:List AV) (objs:List Ob) (K:Res→Option R):Option R:=match sel23 args objs with
 |some l=>(i29 m l).bind fun r=>K ((.tup [(.dat 9 (.str r.1)),(.dat 4 (.bool r.2.1))]),[(.box 45 (.dat 45 r.2.2))])
 |none=>none
noncomputable def ct66 {R:Type} (m:Nat) (args:List AV) (objs:List Ob) (K:Res→Option R):Option R:=match sel23 args objs with
 |some l=>(i30 m l).bind fun r=>K ((.tup [(.dat 21 (.int r.1)),(.dat 4 (.bool r.2.1))]),[(.box 45 (.dat 45 r.2.2))])
 |none=>none
noncomputable def ct78 {R:Type} (m:Nat) (args:List AV) (objs:List Ob) (K:Res→Option R):Option R:=match sel23 args objs with
 |some l=>(i31 m l).bind fun r=>K ((.tup [(.dat 21 (.int r.1)),(.dat 4 (.bool r.2.1))]),[(.box 45 (.dat 45 r.2.2))])
 |none=>none
noncomputable def ct67 {R:Type} (m:Nat) (args:List AV) (objs:List Ob) (K:Res→Option R):Option R:=match sel32 args objs with
 |some l=>(i32 m l.1 l.2).bind fun r=>K ((.row 1),[.gone,(.row 42 r)])
 |none=>none
noncomputable def ct79 {R:Type} (m:Nat) (args:List AV) (objs:List Ob) (K:Res→Option R):Option R:=match sel32 args objs with
 |some l=>(i33 m l.1 l.2).bind fun r=>K ((.row 1),[.gone,(.row 42 r)])
 |none=>none
noncomputable def ct50 {R:Type} (m:Nat) (args:List AV) (objs:List Ob) (K:Res→Option R):Option R:=match sel1 args objs with
 |some l=>(utf8_ValidString l).bind fun r=>K ((.dat 4 (.bool r)),[])
 |none=>none
noncomputable def ct31 {R:Type} (m:Nat) (args:List AV) (objs:List Ob) (K:Res→Option R):Option R:=match sel35 args objs with
 |some l=>(i35 m l.1 l.2).bind fun r=>K ((.tup [(.dat 27 r.1),(.dat 4 (.bool r.2.1))]),[(.box 45 (.dat 45 r.2.2))])
 |none=>none
noncomputable def ct32 {R:Type} (m:Nat) (args:List AV) (objs:List Ob) (K:Res→Option R):Option R:=match sel35 args objs with
 |some l=>(i36 m l.1 l.2).bind fun r=>K ((.tup [(.dat 27 r.1),(.dat 4 (.bool r.2.1))]),[(.box 45 (.dat 45 r.2.2))])
 |none=>none
noncomputable def ct51 {R:Type} (m:Nat) (args:List AV) (objs:List Ob) (K:Res→Option R):Option R:=match sel37 args objs with
 |some l=>(i37 m l.1 l.2).bind fun r=>K ((.tup [(.dat 9 (.str r.1)),(.dat 4 (.bool r.2.1))]),[(.box 45 (.dat 45 r.2.2.1)),(.map 68 r.2.2.2)])
 |none=>none
noncomputable def ct61 {R:Type} (m:Nat) (args:List AV) (objs:List Ob) (K:Res→Option R):Option R:=match sel1 args objs with
 |some l=>(notation_isField m l).bind fun r=>K ((.dat 4 (.bool r)),[])
 |none=>none
noncomputable def ct52 {R:Type} (m:Nat) (args:List AV) (objs:List Ob) (K:Res→Option R):Option R:=match sel1 args objs with
 |some l=>(notation_isSpecial m l).bind fun r=>K ((.dat 4 (.bool r)),[])
 |none=>none
noncomputable def ct69 {R:Type} (m:Nat) (args:List AV) (objs:List Ob) (K:Res→Option R):Option R:=match sel5 args objs with
 |some l=>(notation_fromHex m l).bind fun r=>K ((.tup [(.dat 9 (.str r.1)),(.dat 4 (.bool r.2))]),[])
 |none=>none
noncomputable def ct33 {R:Type} (m:Nat) (args:List AV) (objs:List Ob) (K:Res→Option R):Option R:=match sel42 args objs with
 |some l=>(i42 m l.1 l.2).bind fun r=>K ((.dat 4 (.bool r.1)),[(.box 45 (.dat 45 r.2))])
 |none=>none
noncomputable def ct34 {R:Type} (m:Nat) (args:List AV) (objs:List Ob) (K:Res→Option R):Option R:=match sel23 args objs with
 |some l=>(i43 m l).bind fun r=>K ((.tup [(.dat 27 r.1),(.dat 4 (.bool r.2.1))]),[(.box 45 (.dat 45 r.2.2))])
 |none=>none
noncomputable def ct54 {R:Type} (m:Nat) (args:List AV) (objs:List Ob) (K:Res→Option R):Option R:=match sel44 args objs with
 |some l=>(strconv_ParseInt l.1 l.2.1 l.2.2).bind fun r=>K ((.tup [(.dat 2 (.int r.1)),(.nif r.2)]),[])
 |none=>none
noncomputable def ct27 {R:Type} (m:Nat) (args:List AV) (objs:List Ob) (K:Res→Option R):Option R:=match sel8 args objs with
 |some l=>(ref02_Same m l.1 l.2).bind fun r=>K ((.dat 4 (.bool r)),[])
 |none=>none
noncomputable def ct39 {R:Type} (m:Nat) (args:List AV) (objs:List Ob) (K:Res→Option R):Option R:=match sel5 args objs with
 |some l=>(value_Nodes m l).bind fun r=>K ((.dat 3 (.int r)),[])
 |none=>none
noncomputable def ct41 {R:Type} (m:Nat) (args:List AV) (objs:List Ob) (K:Res→Option R):Option R:=match sel5 args objs with
 |some l=>(notation_rename m l).bind fun r=>K ((.tup [(.dat 27 r.1),(.dat 4 (.bool r.2))]),[])
 |none=>none
noncomputable def ct42 {R:Type} (m:Nat) (args:List AV) (objs:List Ob) (K:Res→Option R):Option R:=match sel5 args objs with
 |some l=>(value_Valid m l).bind fun r=>K ((.dat 4 (.bool r)),[])
 |none=>none
noncomputable def ct40 {R:Type} (m:Nat) (args:List AV) (objs:List Ob) (K:Res→Option R):Option R:=match sel5 args objs with
 |some l=>(value_Depth m l).bind fun r=>K ((.dat 3 (.int r)),[])
 |none=>none
noncomputable def ct35 {R:Type} (m:Nat) (args:List AV) (objs:List Ob) (K:Res→Option R):Option R:=match sel3 args objs with
 |some l=>(ref01_levels m l.1 l.2).bind fun r=>K ((.dat 3 (.int r)),[])
 |none=>none
noncomputable def ct36 {R:Type} (m:Nat) (args:List AV) (objs:List Ob) (K:Res→Option R):Option R:=match sel3 args objs with
 |some l=>(ref01_count m l.1 l.2).bind fun r=>K ((.dat 3 (.int r)),[])
 |none=>none
noncomputable def ct48 {R:Type} (m:Nat) (args:List AV) (objs:List Ob) (K:Res→Option R):Option R:=match sel1 args objs with
 |some l=>(ref05_Label m l).bind fun r=>K ((.dat 4 (.bool r)),[])
 |none=>none
noncomputable def ct11 {R:Type} (m:Nat) (args:List AV) (objs:List Ob) (K:Res→Option R):Option R:=match sel5 args objs with
 |some l=>(ref01_Valid m l).bind fun r=>K ((.dat 4 (.bool r)),[])
 |none=>none
noncomputable def ct59 {R:Type} (m:Nat) (args:List AV) (objs:List Ob) (K:Res→Option R):Option R:=match sel3 args objs with
 |some l=>(value_nodes m l.1 l.2).bind fun r=>K ((.dat 3 (.int r)),[])
 |none=>none
noncomputable def ct62 {R:Type} (m:Nat) (args:List AV) (objs:List Ob) (K:Res→Option R):Option R:=match sel55 args objs with
 |some l=>(strconv_Itoa l).bind fun r=>K ((.dat 9 (.str r)),[])
 |none=>none
noncomputable def ct63 {R:Type} (m:Nat) (args:List AV) (objs:List Ob) (K:Res→Option R):Option R:=match sel5 args objs with
 |some l=>(value_sound m l).bind fun r=>K ((.dat 4 (.bool r)),[])
 |none=>none
noncomputable def ct60 {R:Type} (m:Nat) (args:List AV) (objs:List Ob) (K:Res→Option R):Option R:=match sel3 args objs with
 |some l=>(value_depth m l.1 l.2).bind fun r=>K ((.dat 3 (.int r)),[])
 |none=>none
noncomputable def ct55 {R:Type} (m:Nat) (args:List AV) (objs:List Ob) (K:Res→Option R):Option R:=match sel5 args objs with
 |some l=>(ref01_Parts m l).bind fun r=>K ((.dat 24 (.lst r)),[])
 |none=>none
noncomputable def ct22 {R:Type} (m:Nat) (args:List AV) (objs:List Ob) (K:Res→Option R):Option R:=match sel59 args objs with
 |some l=>(ref01_formed m l.1 l.2).bind fun r=>K ((.dat 4 (.bool r)),[])
 |none=>none
noncomputable def ct72 {R:Type} (m:Nat) (args:List AV) (objs:List Ob) (K:Res→Option R):Option R:=match sel60 args objs with
 |some l=>(i60 m l.1 l.2.1 l.2.2).bind fun r=>K ((.tup []),[(.box 3 (.dat 3 (.int r.1))),(.box 3 (.dat 3 (.int r.2)))])
 |none=>match sel63 args objs with
 |some l=>(i63 m l.1 l.2.1 l.2.2).bind fun r=>K ((.tup []),[(.box 3 (.dat 3 (.int r.1))),(.box 3 (.dat 3 (.int r.2)))])
 |none=>none
noncomputable def ct73 {R:Type} (m:Nat) (args:List AV) (objs:List Ob) (K:Res→Option R):Option R:=match sel61 args objs with
 |some l=>(i61 m l.1 l.2.1 l.2.2).bind fun r=>K ((.dat 4 (.bool r.1)),[(.box 3 (.dat 3 (.int r.2.1))),(.box 3 (.dat 3 (.int r.2.2)))])
 |none=>none
noncomputable def ct76 {R:Type} (m:Nat) (args:List AV) (objs:List Ob) (K:Res→Option R):Option R:=match sel19 args objs with
 |some l=>(value_soundFields m l).bind fun r=>K ((.dat 4 (.bool r)),[])
 |none=>none
noncomputable def ct74 {R:Type} (m:Nat) (args:List AV) (objs:List Ob) (K:Res→Option R):Option R:=match sel61 args objs with
 |some l=>(i64 m l.1 l.2.1 l.2.2).bind fun r=>K ((.dat 4 (.bool r.1)),[(.box 3 (.dat 3 (.int r.2.1))),(.box 3 (.dat 3 (.int r.2.2)))])
 |none=>none
noncomputable def ct37 {R:Type} (m:Nat) (args:List AV) (objs:List Ob) (K:Res→Option R):Option R:=match sel1 args objs with
 |some l=>(ref01_UTF8 m l).bind fun r=>K ((.dat 4 (.bool r)),[])
 |none=>none
noncomputable def ct38 {R:Type} (m:Nat) (args:List AV) (objs:List Ob) (K:Res→Option R):Option R:=match sel59 args objs with
 |some l=>(ref01_fields m l.1 l.2).bind fun r=>K ((.dat 4 (.bool r)),[])
 |none=>none
noncomputable def ct86 {R:Type} (m:Nat) (args:List AV) (objs:List Ob) (K:Res→Option R):Option R:=match sel1 args objs with
 |some l=>(value_isName m l).bind fun r=>K ((.dat 4 (.bool r)),[])
 |none=>none
noncomputable def ct56 {R:Type} (m:Nat) (args:List AV) (objs:List Ob) (K:Res→Option R):Option R:=match sel44 args objs with
 |some l=>(ref01_tail m l.1 l.2.1 l.2.2).bind fun r=>K ((.dat 4 (.bool r)),[])
 |none=>none
noncomputable def ct57 {R:Type} (m:Nat) (args:List AV) (objs:List Ob) (K:Res→Option R):Option R:=match sel1 args objs with
 |some l=>(ref01_Name m l).bind fun r=>K ((.dat 4 (.bool r)),[])
 |none=>none
noncomputable def ct58 {R:Type} (m:Nat) (args:List AV) (objs:List Ob) (K:Res→Option R):Option R:=match sel1 args objs with
 |some l=>(ref01_wide m l).bind fun r=>K ((.dat 4 (.bool r)),[])
 |none=>none
noncomputable def d9 (q:Res):Option Int:=match q with
 |(.dat T0 x0,[])=>bif Nat.beq T0 3 then some x0.toInt else none
 |_=>none
theorem d9_sim {b:Res} {r:Int} (h:d9 b=some r):Sim Tryd.prog b ((.dat 3 (.int r)),[]):=by
 unfold d9 at h
 split at h
 ·obtain⟨hc,h2⟩:=bif_some h
  cases h2
  have e0:=beq_eq hc
  subst e0
  exact Sim.of (.of (.dat (.int Tryd.underlying3)) rfl rfl) .nil
 ·cases h
noncomputable def d3 (q:Res):Option Bool:=match q with
 |(.dat T0 x0,[])=>bif Nat.beq T0 4 then some x0.toBool else none
 |_=>none
theorem d3_sim {b:Res} {r:Bool} (h:d3 b=some r):Sim Tryd.prog b ((.dat 4 (.bool r)),[]):=by
 unfold d3 at h
 split at h
 ·obtain⟨hc,h2⟩:=bif_some h
  cases h2
  have e0:=beq_eq hc
  subst e0
  exact Sim.of (.of (.dat (.bool Tryd.underlying4)) rfl rfl) .nil
 ·cases h
noncomputable def d13 (q:Res):Option (List Dt):=match q with
 |(.row n0,[.gone,.row T1 x1])=>bif (Nat.beq n0 1&&Nat.beq T1 42) then some x1 else none
 |_=>none
theorem d13_sim {b:Res} {r:List Dt} (h:d13 b=some r):Sim Tryd.prog b ((.row 1),[.gone,(.row 42 r)]):=by
 unfold d13 at h
 split at h
 ·obtain⟨hc,h2⟩:=bif_some h
  cases h2
  have e0:=beq_eq (and_l hc)
  have e1:=beq_eq (and_r hc)
  subst e0 e1
  exact Sim.of (.of .same rfl rfl) (.cons .same (.cons .same .nil))
 ·cases h
noncomputable def d15 (q:Res):Option ByteArray:=match q with
 |(.dat T0 x0,[])=>bif Nat.beq T0 9 then some x0.toStr else none
 |_=>none
theorem d15_sim {b:Res} {r:ByteArray} (h:d15 b=some r):Sim Tryd.prog b ((.dat 9 (.str r)),[]):=by
 unfold d15 at h
 split at h
 ·obtain⟨hc,h2⟩:=bif_some h
  cases h2
  have e0:=beq_eq hc
  subst e0
  exact Sim.of (.of (.dat (.str Tryd.underlying9)) rfl rfl) .nil
 ·cases h
noncomputable def d24 (q:Res):Option (Int×Dt):=match q with
 |(.dat T0 x0,[.box T1 (.dat T2 x2)])=>bif (Nat.beq T0 3&&(Nat.beq T1 45&&Nat.beq T2 45)) then some (x0.toInt,x2) else none
 |_=>none
theorem d24_sim {b:Res} {r:Int×Dt} (h:d24 b=some r):Sim Tryd.prog b ((.dat 3 (.int r.1)),[(.box 45 (.dat 45 r.2))]):=by
 unfold d24 at h
 split at h
 ·obtain⟨hc,h2⟩:=bif_some h
  cases h2
  have e0:=beq_eq (and_l hc)
  have e1:=beq_eq (and_l (and_r hc))
  have e2:=beq_eq (and_r (and_r hc))
  subst e0 e1 e2
  exact Sim.of (.of (.dat (.int Tryd.underlying3)) rfl rfl) (.cons (.box .same) .nil)
 ·cases h
noncomputable def d23 (q:Res):Option Dt:=match q with
 |(.tup [],[.box T0 (.dat T1 x1)])=>bif (Nat.beq T0 45&&Nat.beq T1 45) then some x1 else none
 |_=>none
theorem d23_sim {b:Res} {r:Dt} (h:d23 b=some r):Sim Tryd.prog b ((.tup []),[(.box 45 (.dat 45 r))]):=by
 unfold d23 at h
 split at h
 ·obtain⟨hc,h2⟩:=bif_some h
  cases h2
  have e0:=beq_eq (and_l hc)
  have e1:=beq_eq (and_r hc)
  subst e0 e1
  exact Sim.of (.tup .nil) (.cons (.box .same) .nil)
 ·cases h
noncomputable def d27 (q:Res):Option (Bool×Dt):=match q with
 |(.dat T0 x0,[.box T1 (.dat T2 x2)])=>bif (Nat.beq T0 4&&(Nat.beq T1 45&&Nat.beq T2 45)) then some (x0.toBool,x2) else none
 |_=>none
theorem d27_sim {b:Res} {r:Bool×Dt} (h:d27 b=some r):Sim Tryd.prog b ((.dat 4 (.bool r.1)),[(.box 45 (.dat 45 r.2))]):=by
 unfold d27 at h
 split at h
 ·obtain⟨hc,h2⟩:=bif_some h
  cases h2
  have e0:=beq_eq (and_l hc)
  have e1:=beq_eq (and_l (and_r hc))
  have e2:=beq_eq (and_r (and_r hc))
  subst e0 e1 e2
  exact Sim.of (.of (.dat (.bool Tryd.underlying4)) rfl rfl) (.cons (.box .same) .nil)
 ·cases h
noncomputable def d31 (q:Res):Option (Int×Bool×Dt):=match q with
 |(.tup [.dat T0 x0,.dat T1 x1],[.box T2 (.dat T3 x3)])=>bif (Nat.beq T0 21&&(Nat.beq T1 4&&(Nat.beq T2 45&&Nat.beq T3 45))) then some (x0.toInt,x1.toBool,x3) else none
 |_=>none
theorem d31_sim {b:Res} {r:Int×Bool×Dt} (h:d31 b=some r):Sim Tryd.prog b ((.tup [(.dat 21 (.int r.1)),(.dat 4 (.bool r.2.1))]),[(.box 45 (.dat 45 r.2.2))]):=by
 unfold d31 at h
 split at h
 ·obtain⟨hc,h2⟩:=bif_some h
  cases h2
  have e0:=beq_eq (and_l hc)
  have e1:=beq_eq (and_l (and_r hc))
  have e2:=beq_eq (and_l (and_r (and_r hc)))
  have e3:=beq_eq (and_r (and_r (and_r hc)))
  subst e0 e1 e2 e3
  exact Sim.of (.tup (.cons (.dat (.int Tryd.underlying21)) (.cons (.dat (.bool Tryd.underlying4)) .nil))) (.cons (.box .same) .nil)
 ·cases h
noncomputable def d29 (q:Res):Option (ByteArray×Bool×Dt):=match q with
 |(.tup [.dat T0 x0,.dat T1 x1],[.box T2 (.dat T3 x3)])=>bif (Nat.beq T0 9&&(Nat.beq T1 4&&(Nat.beq T2 45&&Nat.beq T3 45))) then some (x0.toStr,x1.toBool,x3) else none
 |_=>none
theorem d29_sim {b:Res} {r:ByteArray×Bool×Dt} (h:d29 b=some r):Sim Tryd.prog b ((.tup [(.dat 9 (.str r.1)),(.dat 4 (.bool r.2.1))]),[(.box 45 (.dat 45 r.2.2))]):=by
 unfold d29 at h
 split at h
 ·obtain⟨hc,h2⟩:=bif_some h
  cases h2
  have e0:=beq_eq (and_l hc)
  have e1:=beq_eq (and_l (and_r hc))
  have e2:=beq_eq (and_l (and_r (and_r hc)))
  have e3:=beq_eq (and_r (and_r (and_r hc)))
  subst e0 e1 e2 e3
  exact Sim.of (.tup (.cons (.dat (.str Tryd.underlying9)) (.cons (.dat (.bool Tryd.underlying4)) .nil))) (.cons (.box .same) .nil)
 ·cases h
noncomputable def d28 (q:Res):Option (Dt×Bool×Dt):=match q with
 |(.tup [.dat T0 x0,.dat T1 x1],[.box T2 (.dat T3 x3)])=>bif (Nat.beq T0 27&&(Nat.beq T1 4&&(Nat.beq T2 45&&Nat.beq T3 45))) then some (x0,x1.toBool,x3) else none
 |_=>none
theorem d28_sim {b:Res} {r:Dt×Bool×Dt} (h:d28 b=some r):Sim Tryd.prog b ((.tup [(.dat 27 r.1),(.dat 4 (.bool r.2.1))]),[(.box 45 (.dat 45 r.2.2))]):=by
 unfold d28 at h
 split at h
 ·obtain⟨hc,h2⟩:=bif_some h
  cases h2
  have e0:=beq_eq (and_l hc)
  have e1:=beq_eq (and_l (and_r hc))
  have e2:=beq_eq (and_l (and_r (and_r hc)))
  have e3:=beq_eq (and_r (and_r (and_r hc)))
  subst e0 e1 e2 e3
  exact Sim.of (.tup (.cons .same (.cons (.dat (.bool Tryd.underlying4)) .nil))) (.cons (.box .same) .nil)
 ·cases h
noncomputable def d37 (q:Res):Option (ByteArray×Bool×Dt×List Dt):=match q with
 |(.tup [.dat T0 x0,.dat T1 x1],[.box T2 (.dat T3 x3),.map T4 x4])=>bif (Nat.beq T0 9&&(Nat.beq T1 4&&(Nat.beq T2 45&&(Nat.beq T3 45&&Nat.beq T4 68)))) then some (x0.toStr,x1.toBool,x3,x4) else none
 |_=>none
theorem d37_sim {b:Res} {r:ByteArray×Bool×Dt×List Dt} (h:d37 b=some r):Sim Tryd.prog b ((.tup [(.dat 9 (.str r.1)),(.dat 4 (.bool r.2.1))]),[(.box 45 (.dat 45 r.2.2.1)),(.map 68 r.2.2.2)]):=by
 unfold d37 at h
 split at h
 ·obtain⟨hc,h2⟩:=bif_some h
  cases h2
  have e0:=beq_eq (and_l hc)
  have e1:=beq_eq (and_l (and_r hc))
  have e2:=beq_eq (and_l (and_r (and_r hc)))
  have e3:=beq_eq (and_l (and_r (and_r (and_r hc))))
  have e4:=beq_eq (and_r (and_r (and_r (and_r hc))))
  subst e0 e1 e2 e3 e4
  exact Sim.of (.tup (.cons (.dat (.str Tryd.underlying9)) (.cons (.dat (.bool Tryd.underlying4)) .nil))) (.cons (.box .same) (.cons .same .nil))
 ·cases h
noncomputable def d41 (q:Res):Option (ByteArray×Bool):=match q with
 |(.tup [.dat T0 x0,.dat T1 x1],[])=>bif (Nat.beq T0 9&&Nat.beq T1 4) then some (x0.toStr,x1.toBool) else none
 |_=>none
theorem d41_sim {b:Res} {r:ByteArray×Bool} (h:d41 b=some r):Sim Tryd.prog b ((.tup [(.dat 9 (.str r.1)),(.dat 4 (.bool r.2))]),[]):=by
 unfold d41 at h
 split at h
 ·obtain⟨hc,h2⟩:=bif_some h
  cases h2
  have e0:=beq_eq (and_l hc)
  have e1:=beq_eq (and_r hc)
  subst e0 e1
  exact Sim.of (.tup (.cons (.dat (.str Tryd.underlying9)) (.cons (.dat (.bool Tryd.underlying4)) .nil))) .nil
 ·cases h
noncomputable def d19 (q:Res):Option (Dt×Bool):=match q with
 |(.tup [.dat T0 x0,.dat T1 x1],[])=>bif (Nat.beq T0 27&&Nat.beq T1 4) then some (x0,x1.toBool) else none
 |_=>none
theorem d19_sim {b:Res} {r:Dt×Bool} (h:d19 b=some r):Sim Tryd.prog b ((.tup [(.dat 27 r.1),(.dat 4 (.bool r.2))]),[]):=by
 unfold d19 at h
 split at h
 ·obtain⟨hc,h2⟩:=bif_some h
  cases h2
  have e0:=beq_eq (and_l hc)
  have e1:=beq_eq (and_r hc)
  subst e0 e1
  exact Sim.of (.tup (.cons .same (.cons (.dat (.bool Tryd.underlying4)) .nil))) .nil
 ·cases h
noncomputable def d11 (q:Res):Option (Int×List Dt):=match q with
 |(.tup [.row n0,.dat T1 x1],[.gone,.row T2 x2])=>bif (Nat.beq n0 1&&(Nat.beq T1 28&&Nat.beq T2 42)) then some (x1.toInt,x2) else none
 |_=>none
theorem d11_sim {b:Res} {r:Int×List Dt} (h:d11 b=some r):Sim Tryd.prog b ((.tup [(.row 1),(.dat 28 (.int r.1))]),[.gone,(.row 42 r.2)]):=by
 unfold d11 at h
 split at h
 ·obtain⟨hc,h2⟩:=bif_some h
  cases h2
  have e0:=beq_eq (and_l hc)
  have e1:=beq_eq (and_l (and_r hc))
  have e2:=beq_eq (and_r (and_r hc))
  subst e0 e1 e2
  exact Sim.of (.tup (.cons .same (.cons (.dat (.int Tryd.underlying28)) .nil))) (.cons .same (.cons .same .nil))
 ·cases h
noncomputable def d40 (q:Res):Option (Dt×Bool×List Dt):=match q with
 |(.tup [.dat T0 x0,.dat T1 x1],[.row T2 x2])=>bif (Nat.beq T0 27&&(Nat.beq T1 4&&Nat.beq T2 25)) then some (x0,x1.toBool,x2) else none
 |_=>none
theorem d40_sim {b:Res} {r:Dt×Bool×List Dt} (h:d40 b=some r):Sim Tryd.prog b ((.tup [(.dat 27 r.1),(.dat 4 (.bool r.2.1))]),[(.row 25 r.2.2)]):=by
 unfold d40 at h
 split at h
 ·obtain⟨hc,h2⟩:=bif_some h
  cases h2
  have e0:=beq_eq (and_l hc)
  have e1:=beq_eq (and_l (and_r hc))
  have e2:=beq_eq (and_r (and_r hc))
  subst e0 e1 e2
  exact Sim.of (.tup (.cons .same (.cons (.dat (.bool Tryd.underlying4)) .nil))) (.cons .same .nil)
 ·cases h
noncomputable def d7 (q:Res):Option (Dt×Int×Int):=match q with
 |(.tup [.dat T0 x0,.dat T1 x1,.dat T2 x2],[])=>bif (Nat.beq T0 27&&(Nat.beq T1 3&&Nat.beq T2 28)) then some (x0,x1.toInt,x2.toInt) else none
 |_=>none
theorem d7_sim {b:Res} {r:Dt×Int×Int} (h:d7 b=some r):Sim Tryd.prog b ((.tup [(.dat 27 r.1),(.dat 3 (.int r.2.1)),(.dat 28 (.int r.2.2))]),[]):=by
 unfold d7 at h
 split at h
 ·obtain⟨hc,h2⟩:=bif_some h
  cases h2
  have e0:=beq_eq (and_l hc)
  have e1:=beq_eq (and_l (and_r hc))
  have e2:=beq_eq (and_r (and_r hc))
  subst e0 e1 e2
  exact Sim.of (.tup (.cons .same (.cons (.dat (.int Tryd.underlying3)) (.cons (.dat (.int Tryd.underlying28)) .nil)))) .nil
 ·cases h
noncomputable def d60 (q:Res):Option (Int×Int):=match q with
 |(.tup [],[.box T0 (.dat T1 x1),.box T2 (.dat T3 x3)])=>bif (Nat.beq T0 3&&(Nat.beq T1 3&&(Nat.beq T2 3&&Nat.beq T3 3))) then some (x1.toInt,x3.toInt) else none
 |_=>none
theorem d60_sim {b:Res} {r:Int×Int} (h:d60 b=some r):Sim Tryd.prog b ((.tup []),[(.box 3 (.dat 3 (.int r.1))),(.box 3 (.dat 3 (.int r.2)))]):=by
 unfold d60 at h
 split at h
 ·obtain⟨hc,h2⟩:=bif_some h
  cases h2
  have e0:=beq_eq (and_l hc)
  have e1:=beq_eq (and_l (and_r hc))
  have e2:=beq_eq (and_l (and_r (and_r hc)))
  have e3:=beq_eq (and_r (and_r (and_r hc)))
  subst e0 e1 e2 e3
  exact Sim.of (.tup .nil) (.cons (.box (.dat (.int Tryd.underlying3))) (.cons (.box (.dat (.int Tryd.underlying3))) .nil))
 ·cases h
noncomputable def d61 (q:Res):Option (Bool×Int×Int):=match q with
 |(.dat T0 x0,[.box T1 (.dat T2 x2),.box T3 (.dat T4 x4)])=>bif (Nat.beq T0 4&&(Nat.beq T1 3&&(Nat.beq T2 3&&(Nat.beq T3 3&&Nat.beq T4 3)))) then some (x0.toBool,x2.toInt,x4.toInt) else none
 |_=>none
theorem d61_sim {b:Res} {r:Bool×Int×Int} (h:d61 b=some r):Sim Tryd.prog b ((.dat 4 (.bool r.1)),[(.box 3 (.dat 3 (.int r.2.1))),(.box 3 (.dat 3 (.int r.2.2)))]):=by
 unfold d61 at h
 split at h
 ·obtain⟨hc,h2⟩:=bif_some h
  cases h2
  have e0:=beq_eq (and_l hc)
  have e1:=beq_eq (and_l (and_r hc))
  have e2:=beq_eq (and_l (and_r (and_r hc)))
  have e3:=beq_eq (and_l (and_r (and_r (and_r hc))))
  have e4:=beq_eq (and_r (and_r (and_r (and_r hc))))
  subst e0 e1 e2 e3 e4
  exact Sim.of (.of (.dat (.bool Tryd.underlying4)) rfl rfl) (.cons (.box (.dat (.int Tryd.underlying3))) (.cons (.box (.dat (.int Tryd.underlying3))) .nil))
 ·cases h
noncomputable def d58 (q:Res):Option (List Dt):=match q with
 |(.dat T0 x0,[])=>bif Nat.beq T0 24 then some x0.toLst else none
 |_=>none
theorem d58_sim {b:Res} {r:List Dt} (h:d58 b=some r):Sim Tryd.prog b ((.dat 24 (.lst r)),[]):=by
 unfold d58 at h
 split at h
 ·obtain⟨hc,h2⟩:=bif_some h
  cases h2
  have e0:=beq_eq hc
  subst e0
  exact Sim.of (.of (.dat (.lst Tryd.underlying24)) rfl rfl) .nil
 ·cases h
noncomputable def d5 (q:Res):Option (ByteArray×Int):=match q with
 |(.tup [.dat T0 x0,.dat T1 x1],[])=>bif (Nat.beq T0 9&&Nat.beq T1 28) then some (x0.toStr,x1.toInt) else none
 |_=>none
theorem d5_sim {b:Res} {r:ByteArray×Int} (h:d5 b=some r):Sim Tryd.prog b ((.tup [(.dat 9 (.str r.1)),(.dat 28 (.int r.2))]),[]):=by
 unfold d5 at h
 split at h
 ·obtain⟨hc,h2⟩:=bif_some h
  cases h2
  have e0:=beq_eq (and_l hc)
  have e1:=beq_eq (and_r hc)
  subst e0 e1
  exact Sim.of (.tup (.cons (.dat (.str Tryd.underlying9)) (.cons (.dat (.int Tryd.underlying28)) .nil))) .nil
 ·cases h
noncomputable def ct {R:Type} (m:Nat) (f:FuncId) (args:List AV) (objs:List Ob) (K:Res→Option R):Option R:=
 bif Nat.beq f 4 then ct4 m args objs K else
 bif Nat.beq f 5 then ct5 m args objs K else
 bif Nat.beq f 6 then ct6 m args objs K else
 bif Nat.beq f 12 then ct12 m args objs K else
 bif Nat.beq f 7 then ct7 m args objs K else
 bif Nat.beq f 13 then ct13 m args objs K else
 bif Nat.beq f 14 then ct14 m args objs K else
 bif Nat.beq f 10 then ct10 m args objs K else
 bif Nat.beq f 15 then ct15 m args objs K else
 bif Nat.beq f 23 then ct23 m args objs K else
 bif Nat.beq f 24 then ct24 m args objs K else
 bif Nat.beq f 25 then ct25 m args objs K else
 bif Nat.beq f 43 then ct43 m args objs K else
 bif Nat.beq f 64 then ct64 m args objs K else
 bif Nat.beq f 44 then ct44 m args objs K else
 bif Nat.beq f 8 then ct8 m args objs K else
 bif Nat.beq f 45 then ct45 m args objs K else
 bif Nat.beq f 46 then ct46 m args objs K else
 bif Nat.beq f 47 then ct47 m args objs K else
 bif Nat.beq f 53 then ct53 m args objs K else
 bif Nat.beq f 20 then ct20 m args objs K else
 bif Nat.beq f 21 then ct21 m args objs K else
 bif Nat.beq f 26 then ct26 m args objs K else
 bif Nat.beq f 17 then ct17 m args objs K else
 bif Nat.beq f 28 then ct28 m args objs K else
 bif Nat.beq f 18 then ct18 m args objs K else
 bif Nat.beq f 29 then ct29 m args objs K else
 bif Nat.beq f 19 then ct19 m args objs K else
 bif Nat.beq f 30 then ct30 m args objs K else
 bif Nat.beq f 49 then ct49 m args objs K else
 bif Nat.beq f 66 then ct66 m args objs K else
 bif Nat.beq f 78 then ct78 m args objs K else
 bif Nat.beq f 67 then ct67 m args objs K else
 bif Nat.beq f 79 then ct79 m args objs K else
 bif Nat.beq f 50 then ct50 m args objs K else
 bif Nat.beq f 31 then ct31 m args objs K else
 bif Nat.beq f 32 then ct32 m args objs K else
 bif Nat.beq f 51 then ct51 m args objs K else
 bif Nat.beq f 61 then ct61 m args objs K else
 bif Nat.beq f 52 then ct52 m args objs K else
 bif Nat.beq f 69 then ct69 m args objs K else
 bif Nat.beq f 33 then ct33 m args objs K else
 bif Nat.beq f 34 then ct34 m args objs K else
 bif Nat.beq f 54 then ct54 m args objs K else
 bif Nat.beq f 27 then ct27 m args objs K else
 bif Nat.beq f 39 then ct39 m args objs K else
 bif Nat.beq f 41 then ct41 m args objs K else
 bif Nat.beq f 42 then ct42 m args objs K else
 bif Nat.beq f 40 then ct40 m args objs K else
 bif Nat.beq f 35 then ct35 m args objs K else
 bif Nat.beq f 36 then ct36 m args objs K else
 bif Nat.beq f 48 then ct48 m args objs K else
 bif Nat.beq f 11 then ct11 m args objs K else
 bif Nat.beq f 59 then ct59 m args objs K else
 bif Nat.beq f 62 then ct62 m args objs K else
 bif Nat.beq f 63 then ct63 m args objs K else
 bif Nat.beq f 60 then ct60 m args objs K else
 bif Nat.beq f 55 then ct55 m args objs K else
 bif Nat.beq f 22 then ct22 m args objs K else
 bif Nat.beq f 72 then ct72 m args objs K else
 bif Nat.beq f 73 then ct73 m args objs K else
 bif Nat.beq f 76 then ct76 m args objs K else
 bif Nat.beq f 74 then ct74 m args objs K else
 bif Nat.beq f 37 then ct37 m args objs K else
 bif Nat.beq f 38 then ct38 m args objs K else
 bif Nat.beq f 86 then ct86 m args objs K else
 bif Nat.beq f 56 then ct56 m args objs K else
 bif Nat.beq f 57 then ct57 m args objs K else
 bif Nat.beq f 58 then ct58 m args objs K else
 none
end Go.Proofs.YtmejbpmceflcjaaDoor
