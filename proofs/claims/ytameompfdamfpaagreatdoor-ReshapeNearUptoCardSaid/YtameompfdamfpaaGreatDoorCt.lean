/- Generated: the functions as contracts for their callers. -/
import Derived.Test.YtameompfdamfpaaGreatDoorSh
import Derived.Test.YtameompfdamfpaaGreatDoorProg
set_option linter.unusedVariables false
set_option linter.unusedSimpArgs false
namespace Go.Proofs.YtameompfdamfpaaGreatDoor
open Go.Am
def sel0 (args:List AV) (objs:List Ob):Option (Dt×List Dt×ByteArray×List Dt):=match args,objs with
 | [.dat T0 x0,.dat T1 x1,.dat T2 x2,.dat T3 x3],[]=>bif (Nat.beq T0 49&&(Nat.beq T1 22&&(Nat.beq T2 9&&Nat.beq T3 23))) then some (x0,x1.toLst,x2.toStr,x3.toLst) else none
 |_,_=>none
theorem sel0_ok {args:List AV} {objs:List Ob} {l:Dt×List Dt×ByteArray×List Dt} (h:sel0 args objs=some l):CnA Tryz.prog args [(.dat 49 l.1),(.dat 22 (.lst l.2.1)),(.dat 9 (.str l.2.2.1)),(.dat 23 (.lst l.2.2.2))]∧CnOL Tryz.prog objs []:=by
 unfold sel0 at h
 split at h
 ·obtain⟨hc,h2⟩:=bif_some h
  cases h2
  have e0:=beq_eq (and_l hc)
  have e1:=beq_eq (and_l (and_r hc))
  have e2:=beq_eq (and_l (and_r (and_r hc)))
  have e3:=beq_eq (and_r (and_r (and_r hc)))
  subst e0 e1 e2 e3
  exact⟨(.cons (.of .same rfl rfl) (.cons (.of (.dat (.lst Tryz.underlying22)) rfl rfl) (.cons (.of (.dat (.str Tryz.underlying9)) rfl rfl) (.cons (.of (.dat (.lst Tryz.underlying23)) rfl rfl) .nil)))),.nil⟩
 ·cases h
def sel1 (args:List AV) (objs:List Ob):Option (List Dt):=match args,objs with
 | [.dat T0 x0],[]=>bif Nat.beq T0 23 then some x0.toLst else none
 |_,_=>none
theorem sel1_ok {args:List AV} {objs:List Ob} {l:List Dt} (h:sel1 args objs=some l):CnA Tryz.prog args [(.dat 23 (.lst l))]∧CnOL Tryz.prog objs []:=by
 unfold sel1 at h
 split at h
 ·obtain⟨hc,h2⟩:=bif_some h
  cases h2
  have e0:=beq_eq hc
  subst e0
  exact⟨(.cons (.of (.dat (.lst Tryz.underlying23)) rfl rfl) .nil),.nil⟩
 ·cases h
def sel2 (args:List AV) (objs:List Ob):Option Unit:=match args,objs with
 | [],[]=>bif true then some () else none
 |_,_=>none
theorem sel2_ok {args:List AV} {objs:List Ob} {l:Unit} (h:sel2 args objs=some l):CnA Tryz.prog args []∧CnOL Tryz.prog objs []:=by
 unfold sel2 at h
 split at h
 ·obtain⟨hc,h2⟩:=bif_some h
  cases h2
  exact⟨.nil,.nil⟩
 ·cases h
def sel5 (args:List AV) (objs:List Ob):Option (List Dt×List Dt):=match args,objs with
 | [.dat T0 x0,.dat T1 x1],[]=>bif (Nat.beq T0 23&&Nat.beq T1 23) then some (x0.toLst,x1.toLst) else none
 |_,_=>none
theorem sel5_ok {args:List AV} {objs:List Ob} {l:List Dt×List Dt} (h:sel5 args objs=some l):CnA Tryz.prog args [(.dat 23 (.lst l.1)),(.dat 23 (.lst l.2))]∧CnOL Tryz.prog objs []:=by
 unfold sel5 at h
 split at h
 ·obtain⟨hc,h2⟩:=bif_some h
  cases h2
  have e0:=beq_eq (and_l hc)
  have e1:=beq_eq (and_r hc)
  subst e0 e1
  exact⟨(.cons (.of (.dat (.lst Tryz.underlying23)) rfl rfl) (.cons (.of (.dat (.lst Tryz.underlying23)) rfl rfl) .nil)),.nil⟩
 ·cases h
def sel6 (args:List AV) (objs:List Ob):Option (List Dt):=match args,objs with
 | [.dat T0 x0],[]=>bif Nat.beq T0 22 then some x0.toLst else none
 |_,_=>none
theorem sel6_ok {args:List AV} {objs:List Ob} {l:List Dt} (h:sel6 args objs=some l):CnA Tryz.prog args [(.dat 22 (.lst l))]∧CnOL Tryz.prog objs []:=by
 unfold sel6 at h
 split at h
 ·obtain⟨hc,h2⟩:=bif_some h
  cases h2
  have e0:=beq_eq hc
  subst e0
  exact⟨(.cons (.of (.dat (.lst Tryz.underlying22)) rfl rfl) .nil),.nil⟩
 ·cases h
def sel7 (args:List AV) (objs:List Ob):Option ByteArray:=match args,objs with
 | [.dat T0 x0],[]=>bif Nat.beq T0 9 then some x0.toStr else none
 |_,_=>none
theorem sel7_ok {args:List AV} {objs:List Ob} {l:ByteArray} (h:sel7 args objs=some l):CnA Tryz.prog args [(.dat 9 (.str l))]∧CnOL Tryz.prog objs []:=by
 unfold sel7 at h
 split at h
 ·obtain⟨hc,h2⟩:=bif_some h
  cases h2
  have e0:=beq_eq hc
  subst e0
  exact⟨(.cons (.of (.dat (.str Tryz.underlying9)) rfl rfl) .nil),.nil⟩
 ·cases h
def sel8 (args:List AV) (objs:List Ob):Option (List Dt):=match args,objs with
 | [.dat T0 x0,.fn T1 []],[]=>bif (Nat.beq T0 23&&Nat.beq T1 41) then some x0.toLst else none
 |_,_=>none
theorem sel8_ok {args:List AV} {objs:List Ob} {l:List Dt} (h:sel8 args objs=some l):CnA Tryz.prog args [(.dat 23 (.lst l)),(.fn 41 [])]∧CnOL Tryz.prog objs []:=by
 unfold sel8 at h
 split at h
 ·obtain⟨hc,h2⟩:=bif_some h
  cases h2
  have e0:=beq_eq (and_l hc)
  have e1:=beq_eq (and_r hc)
  subst e0 e1
  exact⟨(.cons (.of (.dat (.lst Tryz.underlying23)) rfl rfl) (.cons (.of (.fn .nil) rfl rfl) .nil)),.nil⟩
 ·cases h
def sel10 (args:List AV) (objs:List Ob):Option Dt:=match args,objs with
 | [.dat T0 x0],[]=>bif Nat.beq T0 33 then some x0 else none
 |_,_=>none
theorem sel10_ok {args:List AV} {objs:List Ob} {l:Dt} (h:sel10 args objs=some l):CnA Tryz.prog args [(.dat 33 l)]∧CnOL Tryz.prog objs []:=by
 unfold sel10 at h
 split at h
 ·obtain⟨hc,h2⟩:=bif_some h
  cases h2
  have e0:=beq_eq hc
  subst e0
  exact⟨(.cons (.of .same rfl rfl) .nil),.nil⟩
 ·cases h
def sel11 (args:List AV) (objs:List Ob):Option (Dt×List Dt×Dt):=match args,objs with
 | [.dat T0 x0,.dat T1 x1,.dat T2 x2],[]=>bif (Nat.beq T0 49&&(Nat.beq T1 22&&Nat.beq T2 33)) then some (x0,x1.toLst,x2) else none
 |_,_=>none
theorem sel11_ok {args:List AV} {objs:List Ob} {l:Dt×List Dt×Dt} (h:sel11 args objs=some l):CnA Tryz.prog args [(.dat 49 l.1),(.dat 22 (.lst l.2.1)),(.dat 33 l.2.2)]∧CnOL Tryz.prog objs []:=by
 unfold sel11 at h
 split at h
 ·obtain⟨hc,h2⟩:=bif_some h
  cases h2
  have e0:=beq_eq (and_l hc)
  have e1:=beq_eq (and_l (and_r hc))
  have e2:=beq_eq (and_r (and_r hc))
  subst e0 e1 e2
  exact⟨(.cons (.of .same rfl rfl) (.cons (.of (.dat (.lst Tryz.underlying22)) rfl rfl) (.cons (.of .same rfl rfl) .nil))),.nil⟩
 ·cases h
def sel12 (args:List AV) (objs:List Ob):Option (List Dt):=match args,objs with
 | [.row n0,.fn T1 []],[.row T2 x2]=>bif (Nat.beq n0 0&&(Nat.beq T1 76&&Nat.beq T2 113)) then some x2 else none
 |_,_=>none
theorem sel12_ok {args:List AV} {objs:List Ob} {l:List Dt} (h:sel12 args objs=some l):CnA Tryz.prog args [(.row 0),(.fn 76 [])]∧CnOL Tryz.prog objs [(.row 113 l)]:=by
 unfold sel12 at h
 split at h
 ·obtain⟨hc,h2⟩:=bif_some h
  cases h2
  have e0:=beq_eq (and_l hc)
  have e1:=beq_eq (and_l (and_r hc))
  have e2:=beq_eq (and_r (and_r hc))
  subst e0 e1 e2
  exact⟨(.cons (.of .same rfl rfl) (.cons (.of (.fn .nil) rfl rfl) .nil)),(.cons .same .nil)⟩
 ·cases h
def sel13 (args:List AV) (objs:List Ob):Option (Int×List Dt):=match args,objs with
 | [.row n0,.dat T1 x1,.fn T2 []],[.row T3 x3]=>bif (Nat.beq n0 0&&(Nat.beq T1 3&&(Nat.beq T2 76&&Nat.beq T3 113))) then some (x1.toInt,x3) else none
 |_,_=>none
theorem sel13_ok {args:List AV} {objs:List Ob} {l:Int×List Dt} (h:sel13 args objs=some l):CnA Tryz.prog args [(.row 0),(.dat 3 (.int l.1)),(.fn 76 [])]∧CnOL Tryz.prog objs [(.row 113 l.2)]:=by
 unfold sel13 at h
 split at h
 ·obtain⟨hc,h2⟩:=bif_some h
  cases h2
  have e0:=beq_eq (and_l hc)
  have e1:=beq_eq (and_l (and_r hc))
  have e2:=beq_eq (and_l (and_r (and_r hc)))
  have e3:=beq_eq (and_r (and_r (and_r hc)))
  subst e0 e1 e2 e3
  exact⟨(.cons (.of .same rfl rfl) (.cons (.of (.dat (.int Tryz.underlying3)) rfl rfl) (.cons (.of (.fn .nil) rfl rfl) .nil))),(.cons .same .nil)⟩
 ·cases h
def sel14 (args:List AV) (objs:List Ob):Option (Int×Int×List Dt):=match args,objs with
 | [.row n0,.dat T1 x1,.dat T2 x2,.fn T3 []],[.row T4 x4]=>bif (Nat.beq n0 0&&(Nat.beq T1 3&&(Nat.beq T2 3&&(Nat.beq T3 76&&Nat.beq T4 113)))) then some (x1.toInt,x2.toInt,x4) else none
 |_,_=>none
theorem sel14_ok {args:List AV} {objs:List Ob} {l:Int×Int×List Dt} (h:sel14 args objs=some l):CnA Tryz.prog args [(.row 0),(.dat 3 (.int l.1)),(.dat 3 (.int l.2.1)),(.fn 76 [])]∧CnOL Tryz.prog objs [(.row 113 l.2.2)]:=by
 unfold sel14 at h
 split at h
 ·obtain⟨hc,h2⟩:=bif_some h
  cases h2
  have e0:=beq_eq (and_l hc)
  have e1:=beq_eq (and_l (and_r hc))
  have e2:=beq_eq (and_l (and_r (and_r hc)))
  have e3:=beq_eq (and_l (and_r (and_r (and_r hc))))
  have e4:=beq_eq (and_r (and_r (and_r (and_r hc))))
  subst e0 e1 e2 e3 e4
  exact⟨(.cons (.of .same rfl rfl) (.cons (.of (.dat (.int Tryz.underlying3)) rfl rfl) (.cons (.of (.dat (.int Tryz.underlying3)) rfl rfl) (.cons (.of (.fn .nil) rfl rfl) .nil)))),(.cons .same .nil)⟩
 ·cases h
def sel15 (args:List AV) (objs:List Ob):Option (Dt×Dt):=match args,objs with
 | [.dat T0 x0,.dat T1 x1],[]=>bif (Nat.beq T0 116&&Nat.beq T1 116) then some (x0,x1) else none
 |_,_=>none
theorem sel15_ok {args:List AV} {objs:List Ob} {l:Dt×Dt} (h:sel15 args objs=some l):CnA Tryz.prog args [(.dat 116 l.1),(.dat 116 l.2)]∧CnOL Tryz.prog objs []:=by
 unfold sel15 at h
 split at h
 ·obtain⟨hc,h2⟩:=bif_some h
  cases h2
  have e0:=beq_eq (and_l hc)
  have e1:=beq_eq (and_r hc)
  subst e0 e1
  exact⟨(.cons (.of .same rfl rfl) (.cons (.of .same rfl rfl) .nil)),.nil⟩
 ·cases h
def sel16 (args:List AV) (objs:List Ob):Option (Int×Int×Int×List Dt):=match args,objs with
 | [.row n0,.dat T1 x1,.dat T2 x2,.dat T3 x3,.fn T4 []],[.row T5 x5]=>bif (Nat.beq n0 0&&(Nat.beq T1 3&&(Nat.beq T2 3&&(Nat.beq T3 3&&(Nat.beq T4 76&&Nat.beq T5 113))))) then some (x1.toInt,x2.toInt,x3.toInt,x5) else none
 |_,_=>none
theorem sel16_ok {args:List AV} {objs:List Ob} {l:Int×Int×Int×List Dt} (h:sel16 args objs=some l):CnA Tryz.prog args [(.row 0),(.dat 3 (.int l.1)),(.dat 3 (.int l.2.1)),(.dat 3 (.int l.2.2.1)),(.fn 76 [])]∧CnOL Tryz.prog objs [(.row 113 l.2.2.2)]:=by
 unfold sel16 at h
 split at h
 ·obtain⟨hc,h2⟩:=bif_some h
  cases h2
  have e0:=beq_eq (and_l hc)
  have e1:=beq_eq (and_l (and_r hc))
  have e2:=beq_eq (and_l (and_r (and_r hc)))
  have e3:=beq_eq (and_l (and_r (and_r (and_r hc))))
  have e4:=beq_eq (and_l (and_r (and_r (and_r (and_r hc)))))
  have e5:=beq_eq (and_r (and_r (and_r (and_r (and_r hc)))))
  subst e0 e1 e2 e3 e4 e5
  exact⟨(.cons (.of .same rfl rfl) (.cons (.of (.dat (.int Tryz.underlying3)) rfl rfl) (.cons (.of (.dat (.int Tryz.underlying3)) rfl rfl) (.cons (.of (.dat (.int Tryz.underlying3)) rfl rfl) (.cons (.of (.fn .nil) rfl rfl) .nil))))),(.cons .same .nil)⟩
 ·cases h
def sel20 (args:List AV) (objs:List Ob):Option Int:=match args,objs with
 | [.dat T0 x0],[]=>bif Nat.beq T0 3 then some x0.toInt else none
 |_,_=>none
theorem sel20_ok {args:List AV} {objs:List Ob} {l:Int} (h:sel20 args objs=some l):CnA Tryz.prog args [(.dat 3 (.int l))]∧CnOL Tryz.prog objs []:=by
 unfold sel20 at h
 split at h
 ·obtain⟨hc,h2⟩:=bif_some h
  cases h2
  have e0:=beq_eq hc
  subst e0
  exact⟨(.cons (.of (.dat (.int Tryz.underlying3)) rfl rfl) .nil),.nil⟩
 ·cases h
def sel21 (args:List AV) (objs:List Ob):Option (Dt×ByteArray×Dt):=match args,objs with
 | [.dat T0 x0,.dat T1 x1,.dat T2 x2],[]=>bif (Nat.beq T0 33&&(Nat.beq T1 9&&Nat.beq T2 33)) then some (x0,x1.toStr,x2) else none
 |_,_=>none
theorem sel21_ok {args:List AV} {objs:List Ob} {l:Dt×ByteArray×Dt} (h:sel21 args objs=some l):CnA Tryz.prog args [(.dat 33 l.1),(.dat 9 (.str l.2.1)),(.dat 33 l.2.2)]∧CnOL Tryz.prog objs []:=by
 unfold sel21 at h
 split at h
 ·obtain⟨hc,h2⟩:=bif_some h
  cases h2
  have e0:=beq_eq (and_l hc)
  have e1:=beq_eq (and_l (and_r hc))
  have e2:=beq_eq (and_r (and_r hc))
  subst e0 e1 e2
  exact⟨(.cons (.of .same rfl rfl) (.cons (.of (.dat (.str Tryz.underlying9)) rfl rfl) (.cons (.of .same rfl rfl) .nil))),.nil⟩
 ·cases h
def sel22 (args:List AV) (objs:List Ob):Option Dt:=match args,objs with
 | [.dat T0 x0],[]=>bif Nat.beq T0 49 then some x0 else none
 |_,_=>none
theorem sel22_ok {args:List AV} {objs:List Ob} {l:Dt} (h:sel22 args objs=some l):CnA Tryz.prog args [(.dat 49 l)]∧CnOL Tryz.prog objs []:=by
 unfold sel22 at h
 split at h
 ·obtain⟨hc,h2⟩:=bif_some h
  cases h2
  have e0:=beq_eq hc
  subst e0
  exact⟨(.cons (.of .same rfl rfl) .nil),.nil⟩
 ·cases h
def sel27 (args:List AV) (objs:List Ob):Option (Dt×Dt):=match args,objs with
 | [.dat T0 x0,.dat T1 x1],[]=>bif (Nat.beq T0 33&&Nat.beq T1 33) then some (x0,x1) else none
 |_,_=>none
theorem sel27_ok {args:List AV} {objs:List Ob} {l:Dt×Dt} (h:sel27 args objs=some l):CnA Tryz.prog args [(.dat 33 l.1),(.dat 33 l.2)]∧CnOL Tryz.prog objs []:=by
 unfold sel27 at h
 split at h
 ·obtain⟨hc,h2⟩:=bif_some h
  cases h2
  have e0:=beq_eq (and_l hc)
  have e1:=beq_eq (and_r hc)
  subst e0 e1
  exact⟨(.cons (.of .same rfl rfl) (.cons (.of .same rfl rfl) .nil)),.nil⟩
 ·cases h
def sel30 (args:List AV) (objs:List Ob):Option (Dt×List Dt):=match args,objs with
 | [.dat T0 x0,.dat T1 x1],[]=>bif (Nat.beq T0 33&&Nat.beq T1 22) then some (x0,x1.toLst) else none
 |_,_=>none
theorem sel30_ok {args:List AV} {objs:List Ob} {l:Dt×List Dt} (h:sel30 args objs=some l):CnA Tryz.prog args [(.dat 33 l.1),(.dat 22 (.lst l.2))]∧CnOL Tryz.prog objs []:=by
 unfold sel30 at h
 split at h
 ·obtain⟨hc,h2⟩:=bif_some h
  cases h2
  have e0:=beq_eq (and_l hc)
  have e1:=beq_eq (and_r hc)
  subst e0 e1
  exact⟨(.cons (.of .same rfl rfl) (.cons (.of (.dat (.lst Tryz.underlying22)) rfl rfl) .nil)),.nil⟩
 ·cases h
def sel32 (args:List AV) (objs:List Ob):Option (Dt×Dt):=match args,objs with
 | [.dat T0 x0,.dat T1 x1],[]=>bif (Nat.beq T0 49&&Nat.beq T1 90) then some (x0,x1) else none
 |_,_=>none
theorem sel32_ok {args:List AV} {objs:List Ob} {l:Dt×Dt} (h:sel32 args objs=some l):CnA Tryz.prog args [(.dat 49 l.1),(.dat 90 l.2)]∧CnOL Tryz.prog objs []:=by
 unfold sel32 at h
 split at h
 ·obtain⟨hc,h2⟩:=bif_some h
  cases h2
  have e0:=beq_eq (and_l hc)
  have e1:=beq_eq (and_r hc)
  subst e0 e1
  exact⟨(.cons (.of .same rfl rfl) (.cons (.of .same rfl rfl) .nil)),.nil⟩
 ·cases h
def sel33 (args:List AV) (objs:List Ob):Option (Dt×Dt):=match args,objs with
 | [.dat T0 x0,.dat T1 x1],[]=>bif (Nat.beq T0 90&&Nat.beq T1 90) then some (x0,x1) else none
 |_,_=>none
theorem sel33_ok {args:List AV} {objs:List Ob} {l:Dt×Dt} (h:sel33 args objs=some l):CnA Tryz.prog args [(.dat 90 l.1),(.dat 90 l.2)]∧CnOL Tryz.prog objs []:=by
 unfold sel33 at h
 split at h
 ·obtain⟨hc,h2⟩:=bif_some h
  cases h2
  have e0:=beq_eq (and_l hc)
  have e1:=beq_eq (and_r hc)
  subst e0 e1
  exact⟨(.cons (.of .same rfl rfl) (.cons (.of .same rfl rfl) .nil)),.nil⟩
 ·cases h
def sel35 (args:List AV) (objs:List Ob):Option Dt:=match args,objs with
 | [.dat T0 x0],[]=>bif Nat.beq T0 90 then some x0 else none
 |_,_=>none
theorem sel35_ok {args:List AV} {objs:List Ob} {l:Dt} (h:sel35 args objs=some l):CnA Tryz.prog args [(.dat 90 l)]∧CnOL Tryz.prog objs []:=by
 unfold sel35 at h
 split at h
 ·obtain⟨hc,h2⟩:=bif_some h
  cases h2
  have e0:=beq_eq hc
  subst e0
  exact⟨(.cons (.of .same rfl rfl) .nil),.nil⟩
 ·cases h
def sel46 (args:List AV) (objs:List Ob):Option (Dt×Bool):=match args,objs with
 | [.dat T0 x0,.dat T1 x1],[]=>bif (Nat.beq T0 33&&Nat.beq T1 4) then some (x0,x1.toBool) else none
 |_,_=>none
theorem sel46_ok {args:List AV} {objs:List Ob} {l:Dt×Bool} (h:sel46 args objs=some l):CnA Tryz.prog args [(.dat 33 l.1),(.dat 4 (.bool l.2))]∧CnOL Tryz.prog objs []:=by
 unfold sel46 at h
 split at h
 ·obtain⟨hc,h2⟩:=bif_some h
  cases h2
  have e0:=beq_eq (and_l hc)
  have e1:=beq_eq (and_r hc)
  subst e0 e1
  exact⟨(.cons (.of .same rfl rfl) (.cons (.of (.dat (.bool Tryz.underlying4)) rfl rfl) .nil)),.nil⟩
 ·cases h
def sel49 (args:List AV) (objs:List Ob):Option (Dt×ByteArray):=match args,objs with
 | [.dat T0 x0,.dat T1 x1],[]=>bif (Nat.beq T0 33&&Nat.beq T1 9) then some (x0,x1.toStr) else none
 |_,_=>none
theorem sel49_ok {args:List AV} {objs:List Ob} {l:Dt×ByteArray} (h:sel49 args objs=some l):CnA Tryz.prog args [(.dat 33 l.1),(.dat 9 (.str l.2))]∧CnOL Tryz.prog objs []:=by
 unfold sel49 at h
 split at h
 ·obtain⟨hc,h2⟩:=bif_some h
  cases h2
  have e0:=beq_eq (and_l hc)
  have e1:=beq_eq (and_r hc)
  subst e0 e1
  exact⟨(.cons (.of .same rfl rfl) (.cons (.of (.dat (.str Tryz.underlying9)) rfl rfl) .nil)),.nil⟩
 ·cases h
def sel51 (args:List AV) (objs:List Ob):Option (Dt×Dt×Dt):=match args,objs with
 | [.dat T0 x0,.dat T1 x1,.dat T2 x2],[]=>bif (Nat.beq T0 90&&(Nat.beq T1 90&&Nat.beq T2 90)) then some (x0,x1,x2) else none
 |_,_=>none
theorem sel51_ok {args:List AV} {objs:List Ob} {l:Dt×Dt×Dt} (h:sel51 args objs=some l):CnA Tryz.prog args [(.dat 90 l.1),(.dat 90 l.2.1),(.dat 90 l.2.2)]∧CnOL Tryz.prog objs []:=by
 unfold sel51 at h
 split at h
 ·obtain⟨hc,h2⟩:=bif_some h
  cases h2
  have e0:=beq_eq (and_l hc)
  have e1:=beq_eq (and_l (and_r hc))
  have e2:=beq_eq (and_r (and_r hc))
  subst e0 e1 e2
  exact⟨(.cons (.of .same rfl rfl) (.cons (.of .same rfl rfl) (.cons (.of .same rfl rfl) .nil))),.nil⟩
 ·cases h
def sel57 (args:List AV) (objs:List Ob):Option (Int×Int×Int):=match args,objs with
 | [.dat T0 x0,.dat T1 x1,.dat T2 x2],[]=>bif (Nat.beq T0 3&&(Nat.beq T1 3&&Nat.beq T2 3)) then some (x0.toInt,x1.toInt,x2.toInt) else none
 |_,_=>none
theorem sel57_ok {args:List AV} {objs:List Ob} {l:Int×Int×Int} (h:sel57 args objs=some l):CnA Tryz.prog args [(.dat 3 (.int l.1)),(.dat 3 (.int l.2.1)),(.dat 3 (.int l.2.2))]∧CnOL Tryz.prog objs []:=by
 unfold sel57 at h
 split at h
 ·obtain⟨hc,h2⟩:=bif_some h
  cases h2
  have e0:=beq_eq (and_l hc)
  have e1:=beq_eq (and_l (and_r hc))
  have e2:=beq_eq (and_r (and_r hc))
  subst e0 e1 e2
  exact⟨(.cons (.of (.dat (.int Tryz.underlying3)) rfl rfl) (.cons (.of (.dat (.int Tryz.underlying3)) rfl rfl) (.cons (.of (.dat (.int Tryz.underlying3)) rfl rfl) .nil))),.nil⟩
 ·cases h
def sel58 (args:List AV) (objs:List Ob):Option (List Dt×Dt):=match args,objs with
 | [.dat T0 x0,.dat T1 x1],[]=>bif (Nat.beq T0 47&&Nat.beq T1 90) then some (x0.toLst,x1) else none
 |_,_=>none
theorem sel58_ok {args:List AV} {objs:List Ob} {l:List Dt×Dt} (h:sel58 args objs=some l):CnA Tryz.prog args [(.dat 47 (.lst l.1)),(.dat 90 l.2)]∧CnOL Tryz.prog objs []:=by
 unfold sel58 at h
 split at h
 ·obtain⟨hc,h2⟩:=bif_some h
  cases h2
  have e0:=beq_eq (and_l hc)
  have e1:=beq_eq (and_r hc)
  subst e0 e1
  exact⟨(.cons (.of (.dat (.lst Tryz.underlying47)) rfl rfl) (.cons (.of .same rfl rfl) .nil)),.nil⟩
 ·cases h
def sel60 (args:List AV) (objs:List Ob):Option (Dt×Int):=match args,objs with
 | [.dat T0 x0,.dat T1 x1],[]=>bif (Nat.beq T0 33&&Nat.beq T1 3) then some (x0,x1.toInt) else none
 |_,_=>none
theorem sel60_ok {args:List AV} {objs:List Ob} {l:Dt×Int} (h:sel60 args objs=some l):CnA Tryz.prog args [(.dat 33 l.1),(.dat 3 (.int l.2))]∧CnOL Tryz.prog objs []:=by
 unfold sel60 at h
 split at h
 ·obtain⟨hc,h2⟩:=bif_some h
  cases h2
  have e0:=beq_eq (and_l hc)
  have e1:=beq_eq (and_r hc)
  subst e0 e1
  exact⟨(.cons (.of .same rfl rfl) (.cons (.of (.dat (.int Tryz.underlying3)) rfl rfl) .nil)),.nil⟩
 ·cases h
def sel64 (args:List AV) (objs:List Ob):Option (Dt×List Dt×List Dt):=match args,objs with
 | [.row n0,.dat T1 x1,.dat T2 x2],[.row T3 x3]=>bif (Nat.beq n0 0&&(Nat.beq T1 33&&(Nat.beq T2 22&&Nat.beq T3 23))) then some (x1,x2.toLst,x3) else none
 |_,_=>none
theorem sel64_ok {args:List AV} {objs:List Ob} {l:Dt×List Dt×List Dt} (h:sel64 args objs=some l):CnA Tryz.prog args [(.row 0),(.dat 33 l.1),(.dat 22 (.lst l.2.1))]∧CnOL Tryz.prog objs [(.row 23 l.2.2)]:=by
 unfold sel64 at h
 split at h
 ·obtain⟨hc,h2⟩:=bif_some h
  cases h2
  have e0:=beq_eq (and_l hc)
  have e1:=beq_eq (and_l (and_r hc))
  have e2:=beq_eq (and_l (and_r (and_r hc)))
  have e3:=beq_eq (and_r (and_r (and_r hc)))
  subst e0 e1 e2 e3
  exact⟨(.cons (.of .same rfl rfl) (.cons (.of .same rfl rfl) (.cons (.of (.dat (.lst Tryz.underlying22)) rfl rfl) .nil))),(.cons .same .nil)⟩
 ·cases h
def sel65 (args:List AV) (objs:List Ob):Option (List Dt×ByteArray):=match args,objs with
 | [.dat T0 x0,.dat T1 x1],[]=>bif (Nat.beq T0 31&&Nat.beq T1 9) then some (x0.toLst,x1.toStr) else none
 |_,_=>none
theorem sel65_ok {args:List AV} {objs:List Ob} {l:List Dt×ByteArray} (h:sel65 args objs=some l):CnA Tryz.prog args [(.dat 31 (.lst l.1)),(.dat 9 (.str l.2))]∧CnOL Tryz.prog objs []:=by
 unfold sel65 at h
 split at h
 ·obtain⟨hc,h2⟩:=bif_some h
  cases h2
  have e0:=beq_eq (and_l hc)
  have e1:=beq_eq (and_r hc)
  subst e0 e1
  exact⟨(.cons (.of (.dat (.lst Tryz.underlying31)) rfl rfl) (.cons (.of (.dat (.str Tryz.underlying9)) rfl rfl) .nil)),.nil⟩
 ·cases h
def sel71 (args:List AV) (objs:List Ob):Option (ByteArray×Int×Int):=match args,objs with
 | [.dat T0 x0,.dat T1 x1,.dat T2 x2],[]=>bif (Nat.beq T0 9&&(Nat.beq T1 3&&Nat.beq T2 3)) then some (x0.toStr,x1.toInt,x2.toInt) else none
 |_,_=>none
theorem sel71_ok {args:List AV} {objs:List Ob} {l:ByteArray×Int×Int} (h:sel71 args objs=some l):CnA Tryz.prog args [(.dat 9 (.str l.1)),(.dat 3 (.int l.2.1)),(.dat 3 (.int l.2.2))]∧CnOL Tryz.prog objs []:=by
 unfold sel71 at h
 split at h
 ·obtain⟨hc,h2⟩:=bif_some h
  cases h2
  have e0:=beq_eq (and_l hc)
  have e1:=beq_eq (and_l (and_r hc))
  have e2:=beq_eq (and_r (and_r hc))
  subst e0 e1 e2
  exact⟨(.cons (.of (.dat (.str Tryz.underlying9)) rfl rfl) (.cons (.of (.dat (.int Tryz.underlying3)) rfl rfl) (.cons (.of (.dat (.int Tryz.underlying3)) rfl rfl) .nil))),.nil⟩
 ·cases h
noncomputable def ct6 {R:Type} (m:Nat) (args:List AV) (objs:List Ob) (K:Res→Option R):Option R:=match sel0 args objs with
 |some l=>(law36_ReshapeNear m l.1 l.2.1 l.2.2.1 l.2.2.2).bind fun r=>K ((.dat 4 (.bool r)),[])
 |none=>none
noncomputable def ct10 {R:Type} (m:Nat) (args:List AV) (objs:List Ob) (K:Res→Option R):Option R:=match sel1 args objs with
 |some l=>(law36_valid m l).bind fun r=>K ((.dat 4 (.bool r)),[])
 |none=>none
noncomputable def ct13 {R:Type} (m:Nat) (args:List AV) (objs:List Ob) (K:Res→Option R):Option R:=match sel2 args objs with
 |some l=>(awakeC).bind fun r=>K ((.dat 4 (.bool r)),[])
 |none=>none
noncomputable def ct27 {R:Type} (m:Nat) (args:List AV) (objs:List Ob) (K:Res→Option R):Option R:=match sel0 args objs with
 |some l=>(reshape_Near m l.1 l.2.1 l.2.2.1 l.2.2.2).bind fun r=>K ((.dat 23 (.lst r)),[])
 |none=>none
noncomputable def ct28 {R:Type} (m:Nat) (args:List AV) (objs:List Ob) (K:Res→Option R):Option R:=match sel0 args objs with
 |some l=>(ref36_Near m l.1 l.2.1 l.2.2.1 l.2.2.2).bind fun r=>K ((.dat 23 (.lst r)),[])
 |none=>none
noncomputable def ct14 {R:Type} (m:Nat) (args:List AV) (objs:List Ob) (K:Res→Option R):Option R:=match sel5 args objs with
 |some l=>(law03_SameList m l.1 l.2).bind fun r=>K ((.dat 4 (.bool r)),[])
 |none=>none
noncomputable def ct11 {R:Type} (m:Nat) (args:List AV) (objs:List Ob) (K:Res→Option R):Option R:=match sel6 args objs with
 |some l=>(ref04_Valid m l).bind fun r=>K ((.dat 4 (.bool r)),[])
 |none=>none
noncomputable def ct12 {R:Type} (m:Nat) (args:List AV) (objs:List Ob) (K:Res→Option R):Option R:=match sel7 args objs with
 |some l=>(law36_named m l).bind fun r=>K ((.dat 4 (.bool r)),[])
 |none=>none
noncomputable def ct22 {R:Type} (m:Nat) (args:List AV) (objs:List Ob) (K:Res→Option R):Option R:=match sel8 args objs with
 |some l=>(i8 m l).bind fun r=>K ((.dat 4 (.bool r)),[])
 |none=>none
noncomputable def ct67 {R:Type} (m:Nat) (args:List AV) (objs:List Ob) (K:Res→Option R):Option R:=match sel8 args objs with
 |some l=>(i9 m l).bind fun r=>K ((.dat 3 (.int r)),[])
 |none=>none
noncomputable def ct41 {R:Type} (m:Nat) (args:List AV) (objs:List Ob) (K:Res→Option R):Option R:=match sel10 args objs with
 |some l=>(law36_valid_1 m l).bind fun r=>K ((.dat 4 (.bool r)),[])
 |none=>none
noncomputable def ct74 {R:Type} (m:Nat) (args:List AV) (objs:List Ob) (K:Res→Option R):Option R:=match sel11 args objs with
 |some l=>(reshape_nearest m l.1 l.2.1 l.2.2).bind fun r=>K ((.tup [(.dat 3 (.int r.1)),(.dat 4 (.bool r.2))]),[])
 |none=>none
noncomputable def ct75 {R:Type} (m:Nat) (args:List AV) (objs:List Ob) (K:Res→Option R):Option R:=match sel12 args objs with
 |some l=>(i12 m l).bind fun r=>K ((.tup []),[(.row 113 r)])
 |none=>none
noncomputable def ct122 {R:Type} (m:Nat) (args:List AV) (objs:List Ob) (K:Res→Option R):Option R:=match sel13 args objs with
 |some l=>(i13 m l.1 l.2).bind fun r=>K ((.tup []),[(.row 113 r)])
 |none=>none
noncomputable def ct168 {R:Type} (m:Nat) (args:List AV) (objs:List Ob) (K:Res→Option R):Option R:=match sel14 args objs with
 |some l=>(i14 m l.1 l.2.1 l.2.2).bind fun r=>K ((.tup []),[(.row 113 r)])
 |none=>none
noncomputable def ct76 {R:Type} (m:Nat) (args:List AV) (objs:List Ob) (K:Res→Option R):Option R:=match sel15 args objs with
 |some l=>(reshape_Near_1 m l.1 l.2).bind fun r=>K ((.dat 3 (.int r)),[])
 |none=>none
noncomputable def ct169 {R:Type} (m:Nat) (args:List AV) (objs:List Ob) (K:Res→Option R):Option R:=match sel16 args objs with
 |some l=>(i16 m l.1 l.2.1 l.2.2.1 l.2.2.2).bind fun r=>K ((.tup []),[(.row 113 r)])
 |none=>none
noncomputable def ct220 {R:Type} (m:Nat) (args:List AV) (objs:List Ob) (K:Res→Option R):Option R:=match sel16 args objs with
 |some l=>(i17 m l.1 l.2.1 l.2.2.1 l.2.2.2).bind fun r=>K ((.tup []),[(.row 113 r)])
 |none=>none
noncomputable def ct252 {R:Type} (m:Nat) (args:List AV) (objs:List Ob) (K:Res→Option R):Option R:=match sel16 args objs with
 |some l=>(i18 m l.1 l.2.1 l.2.2.1 l.2.2.2).bind fun r=>K ((.tup []),[(.row 113 r)])
 |none=>none
noncomputable def ct72 {R:Type} (m:Nat) (args:List AV) (objs:List Ob) (K:Res→Option R):Option R:=match sel10 args objs with
 |some l=>(reshape_copyValue m l).bind fun r=>K ((.dat 33 r),[])
 |none=>none
noncomputable def ct62 {R:Type} (m:Nat) (args:List AV) (objs:List Ob) (K:Res→Option R):Option R:=match sel20 args objs with
 |some l=>(reshape_integer m l).bind fun r=>K ((.dat 33 r),[])
 |none=>none
noncomputable def ct77 {R:Type} (m:Nat) (args:List AV) (objs:List Ob) (K:Res→Option R):Option R:=match sel21 args objs with
 |some l=>(reshape_named m l.1 l.2.1 l.2.2).bind fun r=>K ((.dat 33 r),[])
 |none=>none
noncomputable def ct73 {R:Type} (m:Nat) (args:List AV) (objs:List Ob) (K:Res→Option R):Option R:=match sel22 args objs with
 |some l=>(geo_Valid m l).bind fun r=>K ((.dat 37 (.int r)),[])
 |none=>none
noncomputable def ct79 {R:Type} (m:Nat) (args:List AV) (objs:List Ob) (K:Res→Option R):Option R:=match sel11 args objs with
 |some l=>(ref36_Distance m l.1 l.2.1 l.2.2).bind fun r=>K ((.tup [(.dat 3 (.int r.1)),(.dat 4 (.bool r.2))]),[])
 |none=>none
noncomputable def ct51 {R:Type} (m:Nat) (args:List AV) (objs:List Ob) (K:Res→Option R):Option R:=match sel20 args objs with
 |some l=>(ref36_integer m l).bind fun r=>K ((.dat 33 r),[])
 |none=>none
noncomputable def ct50 {R:Type} (m:Nat) (args:List AV) (objs:List Ob) (K:Res→Option R):Option R:=match sel21 args objs with
 |some l=>(ref36_with m l.1 l.2.1 l.2.2).bind fun r=>K ((.dat 33 r),[])
 |none=>none
noncomputable def ct78 {R:Type} (m:Nat) (args:List AV) (objs:List Ob) (K:Res→Option R):Option R:=match sel22 args objs with
 |some l=>(ref10_Valid m l).bind fun r=>K ((.dat 37 (.int r)),[])
 |none=>none
noncomputable def ct46 {R:Type} (m:Nat) (args:List AV) (objs:List Ob) (K:Res→Option R):Option R:=match sel27 args objs with
 |some l=>(law03_Same m l.1 l.2).bind fun r=>K ((.dat 4 (.bool r)),[])
 |none=>none
noncomputable def ct42 {R:Type} (m:Nat) (args:List AV) (objs:List Ob) (K:Res→Option R):Option R:=match sel7 args objs with
 |some l=>(ref01_Name m l).bind fun r=>K ((.dat 4 (.bool r)),[])
 |none=>none
noncomputable def ct24 {R:Type} (m:Nat) (args:List AV) (objs:List Ob) (K:Res→Option R):Option R:=match sel10 args objs with
 |some l=>(ref01_Valid m l).bind fun r=>K ((.dat 4 (.bool r)),[])
 |none=>none
noncomputable def ct118 {R:Type} (m:Nat) (args:List AV) (objs:List Ob) (K:Res→Option R):Option R:=match sel30 args objs with
 |some l=>(path_Leaves m l.1 l.2).bind fun r=>K ((.dat 23 (.lst r)),[])
 |none=>none
noncomputable def ct119 {R:Type} (m:Nat) (args:List AV) (objs:List Ob) (K:Res→Option R):Option R:=match sel10 args objs with
 |some l=>(geo_Point m l).bind fun r=>K ((.tup [(.dat 90 r.1),(.dat 37 (.int r.2))]),[])
 |none=>none
noncomputable def ct120 {R:Type} (m:Nat) (args:List AV) (objs:List Ob) (K:Res→Option R):Option R:=match sel32 args objs with
 |some l=>(geo_Inside m l.1 l.2).bind fun r=>K ((.dat 4 (.bool r)),[])
 |none=>none
noncomputable def ct121 {R:Type} (m:Nat) (args:List AV) (objs:List Ob) (K:Res→Option R):Option R:=match sel33 args objs with
 |some l=>(geo_Distance m l.1 l.2).bind fun r=>K ((.dat 3 (.int r)),[])
 |none=>none
noncomputable def ct123 {R:Type} (m:Nat) (args:List AV) (objs:List Ob) (K:Res→Option R):Option R:=match sel21 args objs with
 |some l=>(value_Set m l.1 l.2.1 l.2.2).bind fun r=>K ((.dat 33 r),[])
 |none=>none
noncomputable def ct117 {R:Type} (m:Nat) (args:List AV) (objs:List Ob) (K:Res→Option R):Option R:=match sel35 args objs with
 |some l=>(geo_isPoint m l).bind fun r=>K ((.dat 4 (.bool r)),[])
 |none=>none
noncomputable def ct116 {R:Type} (m:Nat) (args:List AV) (objs:List Ob) (K:Res→Option R):Option R:=match sel20 args objs with
 |some l=>(geo_isCoordinate m l).bind fun r=>K ((.dat 4 (.bool r)),[])
 |none=>none
noncomputable def ct126 {R:Type} (m:Nat) (args:List AV) (objs:List Ob) (K:Res→Option R):Option R:=match sel30 args objs with
 |some l=>(ref04_Leaves m l.1 l.2).bind fun r=>K ((.dat 23 (.lst r)),[])
 |none=>none
noncomputable def ct127 {R:Type} (m:Nat) (args:List AV) (objs:List Ob) (K:Res→Option R):Option R:=match sel10 args objs with
 |some l=>(ref10_Point m l).bind fun r=>K ((.tup [(.dat 90 r.1),(.dat 37 (.int r.2))]),[])
 |none=>none
noncomputable def ct128 {R:Type} (m:Nat) (args:List AV) (objs:List Ob) (K:Res→Option R):Option R:=match sel32 args objs with
 |some l=>(ref10_Inside m l.1 l.2).bind fun r=>K ((.dat 4 (.bool r)),[])
 |none=>none
noncomputable def ct129 {R:Type} (m:Nat) (args:List AV) (objs:List Ob) (K:Res→Option R):Option R:=match sel33 args objs with
 |some l=>(ref10_Distance m l.1 l.2).bind fun r=>K ((.dat 3 (.int r)),[])
 |none=>none
noncomputable def ct99 {R:Type} (m:Nat) (args:List AV) (objs:List Ob) (K:Res→Option R):Option R:=match sel21 args objs with
 |some l=>(ref01_Set m l.1 l.2.1 l.2.2).bind fun r=>K ((.dat 33 r),[])
 |none=>none
noncomputable def ct124 {R:Type} (m:Nat) (args:List AV) (objs:List Ob) (K:Res→Option R):Option R:=match sel35 args objs with
 |some l=>(ref10_Is m l).bind fun r=>K ((.dat 4 (.bool r)),[])
 |none=>none
noncomputable def ct125 {R:Type} (m:Nat) (args:List AV) (objs:List Ob) (K:Res→Option R):Option R:=match sel20 args objs with
 |some l=>(ref10_in m l).bind fun r=>K ((.dat 4 (.bool r)),[])
 |none=>none
noncomputable def ct68 {R:Type} (m:Nat) (args:List AV) (objs:List Ob) (K:Res→Option R):Option R:=match sel10 args objs with
 |some l=>(ref01_Depth m l).bind fun r=>K ((.dat 3 (.int r)),[])
 |none=>none
noncomputable def ct69 {R:Type} (m:Nat) (args:List AV) (objs:List Ob) (K:Res→Option R):Option R:=match sel10 args objs with
 |some l=>(ref01_Nodes m l).bind fun r=>K ((.dat 3 (.int r)),[])
 |none=>none
noncomputable def ct70 {R:Type} (m:Nat) (args:List AV) (objs:List Ob) (K:Res→Option R):Option R:=match sel46 args objs with
 |some l=>(ref01_formed m l.1 l.2).bind fun r=>K ((.dat 4 (.bool r)),[])
 |none=>none
noncomputable def ct163 {R:Type} (m:Nat) (args:List AV) (objs:List Ob) (K:Res→Option R):Option R:=match sel30 args objs with
 |some l=>(path_Reach m l.1 l.2).bind fun r=>K ((.dat 23 (.lst r)),[])
 |none=>none
noncomputable def ct140 {R:Type} (m:Nat) (args:List AV) (objs:List Ob) (K:Res→Option R):Option R:=match sel10 args objs with
 |some l=>(path_clone m l).bind fun r=>K ((.agg 33 [(.dat 3 (.int r.1)),(.dat 3 (.int r.2.1)),(.dat 9 (.str r.2.2.1)),(.row 0),(.row 1)]),[(.row 23 r.2.2.2.1),(.row 31 r.2.2.2.2)])
 |none=>none
noncomputable def ct164 {R:Type} (m:Nat) (args:List AV) (objs:List Ob) (K:Res→Option R):Option R:=match sel49 args objs with
 |some l=>(value_Get m l.1 l.2).bind fun r=>K ((.tup [(.dat 33 r.1),(.dat 4 (.bool r.2))]),[])
 |none=>none
noncomputable def ct165 {R:Type} (m:Nat) (args:List AV) (objs:List Ob) (K:Res→Option R):Option R:=match sel22 args objs with
 |some l=>(geo_bounds m l).bind fun r=>K ((.tup [(.dat 90 r.1),(.dat 90 r.2)]),[])
 |none=>none
noncomputable def ct166 {R:Type} (m:Nat) (args:List AV) (objs:List Ob) (K:Res→Option R):Option R:=match sel51 args objs with
 |some l=>(geo_onEdge m l.1 l.2.1 l.2.2).bind fun r=>K ((.dat 4 (.bool r)),[])
 |none=>none
noncomputable def ct167 {R:Type} (m:Nat) (args:List AV) (objs:List Ob) (K:Res→Option R):Option R:=match sel51 args objs with
 |some l=>(geo_crosses m l.1 l.2.1 l.2.2).bind fun r=>K ((.dat 4 (.bool r)),[])
 |none=>none
noncomputable def ct170 {R:Type} (m:Nat) (args:List AV) (objs:List Ob) (K:Res→Option R):Option R:=match sel10 args objs with
 |some l=>(value_clone m l).bind fun r=>K ((.agg 33 [(.dat 3 (.int r.1)),(.dat 3 (.int r.2.1)),(.dat 9 (.str r.2.2.1)),(.row 0),(.row 1)]),[(.row 23 r.2.2.2.1),(.row 31 r.2.2.2.2)])
 |none=>none
noncomputable def ct171 {R:Type} (m:Nat) (args:List AV) (objs:List Ob) (K:Res→Option R):Option R:=match sel49 args objs with
 |some l=>(value_find m l.1 l.2).bind fun r=>K ((.dat 3 (.int r)),[])
 |none=>none
noncomputable def ct172 {R:Type} (m:Nat) (args:List AV) (objs:List Ob) (K:Res→Option R):Option R:=match sel30 args objs with
 |some l=>(ref04_Reach m l.1 l.2).bind fun r=>K ((.dat 23 (.lst r)),[])
 |none=>none
noncomputable def ct31 {R:Type} (m:Nat) (args:List AV) (objs:List Ob) (K:Res→Option R):Option R:=match sel49 args objs with
 |some l=>(ref01_Get m l.1 l.2).bind fun r=>K ((.tup [(.dat 33 r.1),(.dat 4 (.bool r.2))]),[])
 |none=>none
noncomputable def ct173 {R:Type} (m:Nat) (args:List AV) (objs:List Ob) (K:Res→Option R):Option R:=match sel57 args objs with
 |some l=>(ref10_between m l.1 l.2.1 l.2.2).bind fun r=>K ((.dat 4 (.bool r)),[])
 |none=>none
noncomputable def ct174 {R:Type} (m:Nat) (args:List AV) (objs:List Ob) (K:Res→Option R):Option R:=match sel58 args objs with
 |some l=>(ref10_polygon m l.1 l.2).bind fun r=>K ((.dat 4 (.bool r)),[])
 |none=>none
noncomputable def ct82 {R:Type} (m:Nat) (args:List AV) (objs:List Ob) (K:Res→Option R):Option R:=match sel49 args objs with
 |some l=>(ref01_at m l.1 l.2).bind fun r=>K ((.dat 3 (.int r)),[])
 |none=>none
noncomputable def ct112 {R:Type} (m:Nat) (args:List AV) (objs:List Ob) (K:Res→Option R):Option R:=match sel60 args objs with
 |some l=>(ref01_levels m l.1 l.2).bind fun r=>K ((.dat 3 (.int r)),[])
 |none=>none
noncomputable def ct113 {R:Type} (m:Nat) (args:List AV) (objs:List Ob) (K:Res→Option R):Option R:=match sel60 args objs with
 |some l=>(ref01_count m l.1 l.2).bind fun r=>K ((.dat 3 (.int r)),[])
 |none=>none
noncomputable def ct114 {R:Type} (m:Nat) (args:List AV) (objs:List Ob) (K:Res→Option R):Option R:=match sel7 args objs with
 |some l=>(ref01_UTF8 m l).bind fun r=>K ((.dat 4 (.bool r)),[])
 |none=>none
noncomputable def ct115 {R:Type} (m:Nat) (args:List AV) (objs:List Ob) (K:Res→Option R):Option R:=match sel46 args objs with
 |some l=>(ref01_fields m l.1 l.2).bind fun r=>K ((.dat 4 (.bool r)),[])
 |none=>none
noncomputable def ct218 {R:Type} (m:Nat) (args:List AV) (objs:List Ob) (K:Res→Option R):Option R:=match sel64 args objs with
 |some l=>(i64 m l.1 l.2.1 l.2.2).bind fun r=>K ((.row 1),[.gone,(.row 23 r)])
 |none=>none
noncomputable def ct138 {R:Type} (m:Nat) (args:List AV) (objs:List Ob) (K:Res→Option R):Option R:=match sel65 args objs with
 |some l=>(path_field m l.1 l.2).bind fun r=>K ((.dat 3 (.int r)),[])
 |none=>none
noncomputable def ct139 {R:Type} (m:Nat) (args:List AV) (objs:List Ob) (K:Res→Option R):Option R:=match sel7 args objs with
 |some l=>(path_Number m l).bind fun r=>K ((.tup [(.dat 3 (.int r.1)),(.dat 4 (.bool r.2))]),[])
 |none=>none
noncomputable def ct219 {R:Type} (m:Nat) (args:List AV) (objs:List Ob) (K:Res→Option R):Option R:=match sel51 args objs with
 |some l=>(geo_turn m l.1 l.2.1 l.2.2).bind fun r=>K ((.dat 3 (.int r)),[])
 |none=>none
noncomputable def ct221 {R:Type} (m:Nat) (args:List AV) (objs:List Ob) (K:Res→Option R):Option R:=match sel30 args objs with
 |some l=>(ref04_Pass m l.1 l.2).bind fun r=>K ((.dat 23 (.lst r)),[])
 |none=>none
noncomputable def ct222 {R:Type} (m:Nat) (args:List AV) (objs:List Ob) (K:Res→Option R):Option R:=match sel51 args objs with
 |some l=>(ref10_cross m l.1 l.2.1 l.2.2).bind fun r=>K ((.dat 3 (.int r)),[])
 |none=>none
noncomputable def ct160 {R:Type} (m:Nat) (args:List AV) (objs:List Ob) (K:Res→Option R):Option R:=match sel10 args objs with
 |some l=>(ref01_Parts m l).bind fun r=>K ((.dat 23 (.lst r)),[])
 |none=>none
noncomputable def ct161 {R:Type} (m:Nat) (args:List AV) (objs:List Ob) (K:Res→Option R):Option R:=match sel71 args objs with
 |some l=>(ref01_tail m l.1 l.2.1 l.2.2).bind fun r=>K ((.dat 4 (.bool r)),[])
 |none=>none
noncomputable def ct162 {R:Type} (m:Nat) (args:List AV) (objs:List Ob) (K:Res→Option R):Option R:=match sel7 args objs with
 |some l=>(ref01_wide m l).bind fun r=>K ((.dat 4 (.bool r)),[])
 |none=>none
noncomputable def ct97 {R:Type} (m:Nat) (args:List AV) (objs:List Ob) (K:Res→Option R):Option R:=match sel7 args objs with
 |some l=>(ref04_Number m l).bind fun r=>K ((.tup [(.dat 3 (.int r.1)),(.dat 4 (.bool r.2))]),[])
 |none=>none
noncomputable def d5 (q:Res):Option Bool:=match q with
 |(.dat T0 x0,[])=>bif Nat.beq T0 4 then some x0.toBool else none
 |_=>none
theorem d5_sim {b:Res} {r:Bool} (h:d5 b=some r):Sim Tryz.prog b ((.dat 4 (.bool r)),[]):=by
 unfold d5 at h
 split at h
 ·obtain⟨hc,h2⟩:=bif_some h
  cases h2
  have e0:=beq_eq hc
  subst e0
  exact Sim.of (.of (.dat (.bool Tryz.underlying4)) rfl rfl) .nil
 ·cases h
noncomputable def d15 (q:Res):Option Int:=match q with
 |(.dat T0 x0,[])=>bif Nat.beq T0 3 then some x0.toInt else none
 |_=>none
theorem d15_sim {b:Res} {r:Int} (h:d15 b=some r):Sim Tryz.prog b ((.dat 3 (.int r)),[]):=by
 unfold d15 at h
 split at h
 ·obtain⟨hc,h2⟩:=bif_some h
  cases h2
  have e0:=beq_eq hc
  subst e0
  exact Sim.of (.of (.dat (.int Tryz.underlying3)) rfl rfl) .nil
 ·cases h
noncomputable def d14 (q:Res):Option (List Dt):=match q with
 |(.tup [],[.row T0 x0])=>bif Nat.beq T0 113 then some x0 else none
 |_=>none
theorem d14_sim {b:Res} {r:List Dt} (h:d14 b=some r):Sim Tryz.prog b ((.tup []),[(.row 113 r)]):=by
 unfold d14 at h
 split at h
 ·obtain⟨hc,h2⟩:=bif_some h
  cases h2
  have e0:=beq_eq hc
  subst e0
  exact Sim.of (.tup .nil) (.cons .same .nil)
 ·cases h
noncomputable def d19 (q:Res):Option Dt:=match q with
 |(.dat T0 x0,[])=>bif Nat.beq T0 33 then some x0 else none
 |_=>none
theorem d19_sim {b:Res} {r:Dt} (h:d19 b=some r):Sim Tryz.prog b ((.dat 33 r),[]):=by
 unfold d19 at h
 split at h
 ·obtain⟨hc,h2⟩:=bif_some h
  cases h2
  have e0:=beq_eq hc
  subst e0
  exact Sim.of (.of .same rfl rfl) .nil
 ·cases h
noncomputable def d22 (q:Res):Option Int:=match q with
 |(.dat T0 x0,[])=>bif Nat.beq T0 37 then some x0.toInt else none
 |_=>none
theorem d22_sim {b:Res} {r:Int} (h:d22 b=some r):Sim Tryz.prog b ((.dat 37 (.int r)),[]):=by
 unfold d22 at h
 split at h
 ·obtain⟨hc,h2⟩:=bif_some h
  cases h2
  have e0:=beq_eq hc
  subst e0
  exact Sim.of (.of (.dat (.int Tryz.underlying37)) rfl rfl) .nil
 ·cases h
noncomputable def d48 (q:Res):Option (Int×Int×ByteArray×List Dt×List Dt):=match q with
 |(.agg T0 [.dat T1 x1,.dat T2 x2,.dat T3 x3,.row n4,.row n5],[.row T6 x6,.row T7 x7])=>bif (Nat.beq T0 33&&(Nat.beq T1 3&&(Nat.beq T2 3&&(Nat.beq T3 9&&(Nat.beq n4 0&&(Nat.beq n5 1&&(Nat.beq T6 23&&Nat.beq T7 31))))))) then some (x1.toInt,x2.toInt,x3.toStr,x6,x7) else none
 |_=>none
theorem d48_sim {b:Res} {r:Int×Int×ByteArray×List Dt×List Dt} (h:d48 b=some r):Sim Tryz.prog b ((.agg 33 [(.dat 3 (.int r.1)),(.dat 3 (.int r.2.1)),(.dat 9 (.str r.2.2.1)),(.row 0),(.row 1)]),[(.row 23 r.2.2.2.1),(.row 31 r.2.2.2.2)]):=by
 unfold d48 at h
 split at h
 ·obtain⟨hc,h2⟩:=bif_some h
  cases h2
  have e0:=beq_eq (and_l hc)
  have e1:=beq_eq (and_l (and_r hc))
  have e2:=beq_eq (and_l (and_r (and_r hc)))
  have e3:=beq_eq (and_l (and_r (and_r (and_r hc))))
  have e4:=beq_eq (and_l (and_r (and_r (and_r (and_r hc)))))
  have e5:=beq_eq (and_l (and_r (and_r (and_r (and_r (and_r hc))))))
  have e6:=beq_eq (and_l (and_r (and_r (and_r (and_r (and_r (and_r hc)))))))
  have e7:=beq_eq (and_r (and_r (and_r (and_r (and_r (and_r (and_r hc)))))))
  subst e0 e1 e2 e3 e4 e5 e6 e7
  exact Sim.of (.of (.agg (.cons (.dat (.int Tryz.underlying3)) (.cons (.dat (.int Tryz.underlying3)) (.cons (.dat (.str Tryz.underlying9)) (.cons .same (.cons .same .nil)))))) rfl rfl) (.cons .same (.cons .same .nil))
 ·cases h
noncomputable def d50 (q:Res):Option (Dt×Dt):=match q with
 |(.tup [.dat T0 x0,.dat T1 x1],[])=>bif (Nat.beq T0 90&&Nat.beq T1 90) then some (x0,x1) else none
 |_=>none
theorem d50_sim {b:Res} {r:Dt×Dt} (h:d50 b=some r):Sim Tryz.prog b ((.tup [(.dat 90 r.1),(.dat 90 r.2)]),[]):=by
 unfold d50 at h
 split at h
 ·obtain⟨hc,h2⟩:=bif_some h
  cases h2
  have e0:=beq_eq (and_l hc)
  have e1:=beq_eq (and_r hc)
  subst e0 e1
  exact Sim.of (.tup (.cons .same (.cons .same .nil))) .nil
 ·cases h
noncomputable def d49 (q:Res):Option (Dt×Bool):=match q with
 |(.tup [.dat T0 x0,.dat T1 x1],[])=>bif (Nat.beq T0 33&&Nat.beq T1 4) then some (x0,x1.toBool) else none
 |_=>none
theorem d49_sim {b:Res} {r:Dt×Bool} (h:d49 b=some r):Sim Tryz.prog b ((.tup [(.dat 33 r.1),(.dat 4 (.bool r.2))]),[]):=by
 unfold d49 at h
 split at h
 ·obtain⟨hc,h2⟩:=bif_some h
  cases h2
  have e0:=beq_eq (and_l hc)
  have e1:=beq_eq (and_r hc)
  subst e0 e1
  exact Sim.of (.tup (.cons .same (.cons (.dat (.bool Tryz.underlying4)) .nil))) .nil
 ·cases h
noncomputable def d31 (q:Res):Option (Dt×Int):=match q with
 |(.tup [.dat T0 x0,.dat T1 x1],[])=>bif (Nat.beq T0 90&&Nat.beq T1 37) then some (x0,x1.toInt) else none
 |_=>none
theorem d31_sim {b:Res} {r:Dt×Int} (h:d31 b=some r):Sim Tryz.prog b ((.tup [(.dat 90 r.1),(.dat 37 (.int r.2))]),[]):=by
 unfold d31 at h
 split at h
 ·obtain⟨hc,h2⟩:=bif_some h
  cases h2
  have e0:=beq_eq (and_l hc)
  have e1:=beq_eq (and_r hc)
  subst e0 e1
  exact Sim.of (.tup (.cons .same (.cons (.dat (.int Tryz.underlying37)) .nil))) .nil
 ·cases h
noncomputable def d66 (q:Res):Option (Int×Bool):=match q with
 |(.tup [.dat T0 x0,.dat T1 x1],[])=>bif (Nat.beq T0 3&&Nat.beq T1 4) then some (x0.toInt,x1.toBool) else none
 |_=>none
theorem d66_sim {b:Res} {r:Int×Bool} (h:d66 b=some r):Sim Tryz.prog b ((.tup [(.dat 3 (.int r.1)),(.dat 4 (.bool r.2))]),[]):=by
 unfold d66 at h
 split at h
 ·obtain⟨hc,h2⟩:=bif_some h
  cases h2
  have e0:=beq_eq (and_l hc)
  have e1:=beq_eq (and_r hc)
  subst e0 e1
  exact Sim.of (.tup (.cons (.dat (.int Tryz.underlying3)) (.cons (.dat (.bool Tryz.underlying4)) .nil))) .nil
 ·cases h
noncomputable def d64 (q:Res):Option (List Dt):=match q with
 |(.row n0,[.gone,.row T1 x1])=>bif (Nat.beq n0 1&&Nat.beq T1 23) then some x1 else none
 |_=>none
theorem d64_sim {b:Res} {r:List Dt} (h:d64 b=some r):Sim Tryz.prog b ((.row 1),[.gone,(.row 23 r)]):=by
 unfold d64 at h
 split at h
 ·obtain⟨hc,h2⟩:=bif_some h
  cases h2
  have e0:=beq_eq (and_l hc)
  have e1:=beq_eq (and_r hc)
  subst e0 e1
  exact Sim.of (.of .same rfl rfl) (.cons .same (.cons .same .nil))
 ·cases h
noncomputable def d47 (q:Res):Option (List Dt):=match q with
 |(.dat T0 x0,[])=>bif Nat.beq T0 23 then some x0.toLst else none
 |_=>none
theorem d47_sim {b:Res} {r:List Dt} (h:d47 b=some r):Sim Tryz.prog b ((.dat 23 (.lst r)),[]):=by
 unfold d47 at h
 split at h
 ·obtain⟨hc,h2⟩:=bif_some h
  cases h2
  have e0:=beq_eq hc
  subst e0
  exact Sim.of (.of (.dat (.lst Tryz.underlying23)) rfl rfl) .nil
 ·cases h
noncomputable def ct {R:Type} (m:Nat) (f:FuncId) (args:List AV) (objs:List Ob) (K:Res→Option R):Option R:=
 bif Nat.beq f 6 then ct6 m args objs K else
 bif Nat.beq f 10 then ct10 m args objs K else
 bif Nat.beq f 13 then ct13 m args objs K else
 bif Nat.beq f 27 then ct27 m args objs K else
 bif Nat.beq f 28 then ct28 m args objs K else
 bif Nat.beq f 14 then ct14 m args objs K else
 bif Nat.beq f 11 then ct11 m args objs K else
 bif Nat.beq f 12 then ct12 m args objs K else
 bif Nat.beq f 22 then ct22 m args objs K else
 bif Nat.beq f 67 then ct67 m args objs K else
 bif Nat.beq f 41 then ct41 m args objs K else
 bif Nat.beq f 74 then ct74 m args objs K else
 bif Nat.beq f 75 then ct75 m args objs K else
 bif Nat.beq f 122 then ct122 m args objs K else
 bif Nat.beq f 168 then ct168 m args objs K else
 bif Nat.beq f 76 then ct76 m args objs K else
 bif Nat.beq f 169 then ct169 m args objs K else
 bif Nat.beq f 220 then ct220 m args objs K else
 bif Nat.beq f 252 then ct252 m args objs K else
 bif Nat.beq f 72 then ct72 m args objs K else
 bif Nat.beq f 62 then ct62 m args objs K else
 bif Nat.beq f 77 then ct77 m args objs K else
 bif Nat.beq f 73 then ct73 m args objs K else
 bif Nat.beq f 79 then ct79 m args objs K else
 bif Nat.beq f 51 then ct51 m args objs K else
 bif Nat.beq f 50 then ct50 m args objs K else
 bif Nat.beq f 78 then ct78 m args objs K else
 bif Nat.beq f 46 then ct46 m args objs K else
 bif Nat.beq f 42 then ct42 m args objs K else
 bif Nat.beq f 24 then ct24 m args objs K else
 bif Nat.beq f 118 then ct118 m args objs K else
 bif Nat.beq f 119 then ct119 m args objs K else
 bif Nat.beq f 120 then ct120 m args objs K else
 bif Nat.beq f 121 then ct121 m args objs K else
 bif Nat.beq f 123 then ct123 m args objs K else
 bif Nat.beq f 117 then ct117 m args objs K else
 bif Nat.beq f 116 then ct116 m args objs K else
 bif Nat.beq f 126 then ct126 m args objs K else
 bif Nat.beq f 127 then ct127 m args objs K else
 bif Nat.beq f 128 then ct128 m args objs K else
 bif Nat.beq f 129 then ct129 m args objs K else
 bif Nat.beq f 99 then ct99 m args objs K else
 bif Nat.beq f 124 then ct124 m args objs K else
 bif Nat.beq f 125 then ct125 m args objs K else
 bif Nat.beq f 68 then ct68 m args objs K else
 bif Nat.beq f 69 then ct69 m args objs K else
 bif Nat.beq f 70 then ct70 m args objs K else
 bif Nat.beq f 163 then ct163 m args objs K else
 bif Nat.beq f 140 then ct140 m args objs K else
 bif Nat.beq f 164 then ct164 m args objs K else
 bif Nat.beq f 165 then ct165 m args objs K else
 bif Nat.beq f 166 then ct166 m args objs K else
 bif Nat.beq f 167 then ct167 m args objs K else
 bif Nat.beq f 170 then ct170 m args objs K else
 bif Nat.beq f 171 then ct171 m args objs K else
 bif Nat.beq f 172 then ct172 m args objs K else
 bif Nat.beq f 31 then ct31 m args objs K else
 bif Nat.beq f 173 then ct173 m args objs K else
 bif Nat.beq f 174 then ct174 m args objs K else
 bif Nat.beq f 82 then ct82 m args objs K else
 bif Nat.beq f 112 then ct112 m args objs K else
 bif Nat.beq f 113 then ct113 m args objs K else
 bif Nat.beq f 114 then ct114 m args objs K else
 bif Nat.beq f 115 then ct115 m args objs K else
 bif Nat.beq f 218 then ct218 m args objs K else
 bif Nat.beq f 138 then ct138 m args objs K else
 bif Nat.beq f 139 then ct139 m args objs K else
 bif Nat.beq f 219 then ct219 m args objs K else
 bif Nat.beq f 221 then ct221 m args objs K else
 bif Nat.beq f 222 then ct222 m args objs K else
 bif Nat.beq f 160 then ct160 m args objs K else
 bif Nat.beq f 161 then ct161 m args objs K else
 bif Nat.beq f 162 then ct162 m args objs K else
 bif Nat.beq f 97 then ct97 m args objs K else
 none
end Go.Proofs.YtameompfdamfpaaGreatDoor
