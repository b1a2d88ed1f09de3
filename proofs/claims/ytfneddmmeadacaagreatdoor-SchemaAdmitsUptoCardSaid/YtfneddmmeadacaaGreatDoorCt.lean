/- Generated: the functions as contracts for their callers. -/
import Derived.Test.YtfneddmmeadacaaGreatDoorSh
import Derived.Test.YtfneddmmeadacaaGreatDoorProg
set_option linter.unusedVariables false
set_option linter.unusedSimpArgs false
namespace Go.Proofs.YtfneddmmeadacaaGreatDoor
open Go.Am
def sel0 (args:List AV) (objs:List Ob):Option (Dt×Dt):=match args,objs with
 | [.dat T0 x0,.dat T1 x1],[]=>bif (Nat.beq T0 32&&Nat.beq T1 25) then some (x0,x1) else none
 |_,_=>none
theorem sel0_ok {args:List AV} {objs:List Ob} {l:Dt×Dt} (h:sel0 args objs=some l):CnA Tryz.prog args [(.dat 32 l.1),(.dat 25 l.2)]∧CnOL Tryz.prog objs []:=by
 unfold sel0 at h
 split at h
 ·obtain⟨hc,h2⟩:=bif_some h
  cases h2
  have e0:=beq_eq (and_l hc)
  have e1:=beq_eq (and_r hc)
  subst e0 e1
  exact⟨(.cons (.of .same rfl rfl) (.cons (.of .same rfl rfl) .nil)),.nil⟩
 ·cases h
def sel1 (args:List AV) (objs:List Ob):Option Dt:=match args,objs with
 | [.dat T0 x0],[]=>bif Nat.beq T0 46 then some x0 else none
 |_,_=>none
theorem sel1_ok {args:List AV} {objs:List Ob} {l:Dt} (h:sel1 args objs=some l):CnA Tryz.prog args [(.dat 46 l)]∧CnOL Tryz.prog objs []:=by
 unfold sel1 at h
 split at h
 ·obtain⟨hc,h2⟩:=bif_some h
  cases h2
  have e0:=beq_eq hc
  subst e0
  exact⟨(.cons (.of .same rfl rfl) .nil),.nil⟩
 ·cases h
def sel3 (args:List AV) (objs:List Ob):Option Unit:=match args,objs with
 | [],[]=>bif true then some () else none
 |_,_=>none
theorem sel3_ok {args:List AV} {objs:List Ob} {l:Unit} (h:sel3 args objs=some l):CnA Tryz.prog args []∧CnOL Tryz.prog objs []:=by
 unfold sel3 at h
 split at h
 ·obtain⟨hc,h2⟩:=bif_some h
  cases h2
  exact⟨.nil,.nil⟩
 ·cases h
def sel6 (args:List AV) (objs:List Ob):Option (List Dt×List Dt):=match args,objs with
 | [.dat T0 x0,.dat T1 x1],[]=>bif (Nat.beq T0 40&&Nat.beq T1 40) then some (x0.toLst,x1.toLst) else none
 |_,_=>none
theorem sel6_ok {args:List AV} {objs:List Ob} {l:List Dt×List Dt} (h:sel6 args objs=some l):CnA Tryz.prog args [(.dat 40 (.lst l.1)),(.dat 40 (.lst l.2))]∧CnOL Tryz.prog objs []:=by
 unfold sel6 at h
 split at h
 ·obtain⟨hc,h2⟩:=bif_some h
  cases h2
  have e0:=beq_eq (and_l hc)
  have e1:=beq_eq (and_r hc)
  subst e0 e1
  exact⟨(.cons (.of (.dat (.lst Tryz.underlying40)) rfl rfl) (.cons (.of (.dat (.lst Tryz.underlying40)) rfl rfl) .nil)),.nil⟩
 ·cases h
def sel7 (args:List AV) (objs:List Ob):Option (Dt×Dt×Dt):=match args,objs with
 | [.dat T0 x0,.dat T1 x1,.dat T2 x2],[]=>bif (Nat.beq T0 44&&(Nat.beq T1 25&&Nat.beq T2 25)) then some (x0,x1,x2) else none
 |_,_=>none
theorem sel7_ok {args:List AV} {objs:List Ob} {l:Dt×Dt×Dt} (h:sel7 args objs=some l):CnA Tryz.prog args [(.dat 44 l.1),(.dat 25 l.2.1),(.dat 25 l.2.2)]∧CnOL Tryz.prog objs []:=by
 unfold sel7 at h
 split at h
 ·obtain⟨hc,h2⟩:=bif_some h
  cases h2
  have e0:=beq_eq (and_l hc)
  have e1:=beq_eq (and_l (and_r hc))
  have e2:=beq_eq (and_r (and_r hc))
  subst e0 e1 e2
  exact⟨(.cons (.of .same rfl rfl) (.cons (.of .same rfl rfl) (.cons (.of .same rfl rfl) .nil))),.nil⟩
 ·cases h
def sel9 (args:List AV) (objs:List Ob):Option (Dt×Int):=match args,objs with
 | [.dat T0 x0,.dat T1 x1],[]=>bif (Nat.beq T0 32&&Nat.beq T1 3) then some (x0,x1.toInt) else none
 |_,_=>none
theorem sel9_ok {args:List AV} {objs:List Ob} {l:Dt×Int} (h:sel9 args objs=some l):CnA Tryz.prog args [(.dat 32 l.1),(.dat 3 (.int l.2))]∧CnOL Tryz.prog objs []:=by
 unfold sel9 at h
 split at h
 ·obtain⟨hc,h2⟩:=bif_some h
  cases h2
  have e0:=beq_eq (and_l hc)
  have e1:=beq_eq (and_r hc)
  subst e0 e1
  exact⟨(.cons (.of .same rfl rfl) (.cons (.of (.dat (.int Tryz.underlying3)) rfl rfl) .nil)),.nil⟩
 ·cases h
def sel10 (args:List AV) (objs:List Ob):Option (Dt×Int):=match args,objs with
 | [.dat T0 x0,.dat T1 x1],[]=>bif (Nat.beq T0 25&&Nat.beq T1 3) then some (x0,x1.toInt) else none
 |_,_=>none
theorem sel10_ok {args:List AV} {objs:List Ob} {l:Dt×Int} (h:sel10 args objs=some l):CnA Tryz.prog args [(.dat 25 l.1),(.dat 3 (.int l.2))]∧CnOL Tryz.prog objs []:=by
 unfold sel10 at h
 split at h
 ·obtain⟨hc,h2⟩:=bif_some h
  cases h2
  have e0:=beq_eq (and_l hc)
  have e1:=beq_eq (and_r hc)
  subst e0 e1
  exact⟨(.cons (.of .same rfl rfl) (.cons (.of (.dat (.int Tryz.underlying3)) rfl rfl) .nil)),.nil⟩
 ·cases h
def sel11 (args:List AV) (objs:List Ob):Option Dt:=match args,objs with
 | [.dat T0 x0],[]=>bif Nat.beq T0 32 then some x0 else none
 |_,_=>none
theorem sel11_ok {args:List AV} {objs:List Ob} {l:Dt} (h:sel11 args objs=some l):CnA Tryz.prog args [(.dat 32 l)]∧CnOL Tryz.prog objs []:=by
 unfold sel11 at h
 split at h
 ·obtain⟨hc,h2⟩:=bif_some h
  cases h2
  have e0:=beq_eq hc
  subst e0
  exact⟨(.cons (.of .same rfl rfl) .nil),.nil⟩
 ·cases h
def sel12 (args:List AV) (objs:List Ob):Option (Dt×Dt×List Dt×List Dt):=match args,objs with
 | [.row n0,.dat T1 x1,.dat T2 x2,.dat T3 x3],[.row T4 x4]=>bif (Nat.beq n0 0&&(Nat.beq T1 32&&(Nat.beq T2 25&&(Nat.beq T3 28&&Nat.beq T4 40)))) then some (x1,x2,x3.toLst,x4) else none
 |_,_=>none
theorem sel12_ok {args:List AV} {objs:List Ob} {l:Dt×Dt×List Dt×List Dt} (h:sel12 args objs=some l):CnA Tryz.prog args [(.row 0),(.dat 32 l.1),(.dat 25 l.2.1),(.dat 28 (.lst l.2.2.1))]∧CnOL Tryz.prog objs [(.row 40 l.2.2.2)]:=by
 unfold sel12 at h
 split at h
 ·obtain⟨hc,h2⟩:=bif_some h
  cases h2
  have e0:=beq_eq (and_l hc)
  have e1:=beq_eq (and_l (and_r hc))
  have e2:=beq_eq (and_l (and_r (and_r hc)))
  have e3:=beq_eq (and_l (and_r (and_r (and_r hc))))
  have e4:=beq_eq (and_r (and_r (and_r (and_r hc))))
  subst e0 e1 e2 e3 e4
  exact⟨(.cons (.of .same rfl rfl) (.cons (.of .same rfl rfl) (.cons (.of .same rfl rfl) (.cons (.of (.dat (.lst Tryz.underlying28)) rfl rfl) .nil)))),(.cons .same .nil)⟩
 ·cases h
def sel13 (args:List AV) (objs:List Ob):Option (Int×Int):=match args,objs with
 | [.dat T0 x0,.dat T1 x1],[]=>bif (Nat.beq T0 3&&Nat.beq T1 3) then some (x0.toInt,x1.toInt) else none
 |_,_=>none
theorem sel13_ok {args:List AV} {objs:List Ob} {l:Int×Int} (h:sel13 args objs=some l):CnA Tryz.prog args [(.dat 3 (.int l.1)),(.dat 3 (.int l.2))]∧CnOL Tryz.prog objs []:=by
 unfold sel13 at h
 split at h
 ·obtain⟨hc,h2⟩:=bif_some h
  cases h2
  have e0:=beq_eq (and_l hc)
  have e1:=beq_eq (and_r hc)
  subst e0 e1
  exact⟨(.cons (.of (.dat (.int Tryz.underlying3)) rfl rfl) (.cons (.of (.dat (.int Tryz.underlying3)) rfl rfl) .nil)),.nil⟩
 ·cases h
def sel14 (args:List AV) (objs:List Ob):Option (Bool×Int×List Dt×List Dt×List Dt):=match args,objs with
 | [.dat T0 x0,.dat T1 x1,.dat T2 x2,.ptr n3 p3 o3,.ptr n4 p4 o4],[.box T5 (.row n6),.row T7 x7,.box T8 (.dat T9 x9)]=>bif (Nat.beq T0 4&&(Nat.beq T1 3&&(Nat.beq T2 28&&(Nat.beq n3 0&&(natsB p3 []&&(Nat.beq o3 0&&(Nat.beq n4 2&&(natsB p4 []&&(Nat.beq o4 0&&(Nat.beq T5 40&&(Nat.beq n6 1&&(Nat.beq T7 40&&(Nat.beq T8 28&&Nat.beq T9 28))))))))))))) then some (x0.toBool,x1.toInt,x2.toLst,x7,x9.toLst) else none
 |_,_=>none
theorem sel14_ok {args:List AV} {objs:List Ob} {l:Bool×Int×List Dt×List Dt×List Dt} (h:sel14 args objs=some l):CnA Tryz.prog args [(.dat 4 (.bool l.1)),(.dat 3 (.int l.2.1)),(.dat 28 (.lst l.2.2.1)),(.ptr 0 [] 0),(.ptr 2 [] 0)]∧CnOL Tryz.prog objs [(.box 40 (.row 1)),(.row 40 l.2.2.2.1),(.box 28 (.dat 28 (.lst l.2.2.2.2)))]:=by
 unfold sel14 at h
 split at h
 ·obtain⟨hc,h2⟩:=bif_some h
  cases h2
  have e0:=beq_eq (and_l hc)
  have e1:=beq_eq (and_l (and_r hc))
  have e2:=beq_eq (and_l (and_r (and_r hc)))
  have e3:=beq_eq (and_l (and_r (and_r (and_r hc))))
  have e4:=natsB_eq (and_l (and_r (and_r (and_r (and_r hc)))))
  have e5:=beq_eq (and_l (and_r (and_r (and_r (and_r (and_r hc))))))
  have e6:=beq_eq (and_l (and_r (and_r (and_r (and_r (and_r (and_r hc)))))))
  have e7:=natsB_eq (and_l (and_r (and_r (and_r (and_r (and_r (and_r (and_r hc))))))))
  have e8:=beq_eq (and_l (and_r (and_r (and_r (and_r (and_r (and_r (and_r (and_r hc)))))))))
  have e9:=beq_eq (and_l (and_r (and_r (and_r (and_r (and_r (and_r (and_r (and_r (and_r hc))))))))))
  have e10:=beq_eq (and_l (and_r (and_r (and_r (and_r (and_r (and_r (and_r (and_r (and_r (and_r hc)))))))))))
  have e11:=beq_eq (and_l (and_r (and_r (and_r (and_r (and_r (and_r (and_r (and_r (and_r (and_r (and_r hc))))))))))))
  have e12:=beq_eq (and_l (and_r (and_r (and_r (and_r (and_r (and_r (and_r (and_r (and_r (and_r (and_r (and_r hc)))))))))))))
  have e13:=beq_eq (and_r (and_r (and_r (and_r (and_r (and_r (and_r (and_r (and_r (and_r (and_r (and_r (and_r hc)))))))))))))
  subst e0 e1 e2 e3 e4 e5 e6 e7 e8 e9 e10 e11 e12 e13
  exact⟨(.cons (.of (.dat (.bool Tryz.underlying4)) rfl rfl) (.cons (.of (.dat (.int Tryz.underlying3)) rfl rfl) (.cons (.of (.dat (.lst Tryz.underlying28)) rfl rfl) (.cons (.of .same rfl rfl) (.cons (.of .same rfl rfl) .nil))))),(.cons (.box .same) (.cons .same (.cons (.box (.dat (.lst Tryz.underlying28))) .nil)))⟩
 ·cases h
def sel15 (args:List AV) (objs:List Ob):Option (List Dt):=match args,objs with
 | [.dat T0 x0],[]=>bif Nat.beq T0 100 then some x0.toLst else none
 |_,_=>none
theorem sel15_ok {args:List AV} {objs:List Ob} {l:List Dt} (h:sel15 args objs=some l):CnA Tryz.prog args [(.dat 100 (.lst l))]∧CnOL Tryz.prog objs []:=by
 unfold sel15 at h
 split at h
 ·obtain⟨hc,h2⟩:=bif_some h
  cases h2
  have e0:=beq_eq hc
  subst e0
  exact⟨(.cons (.of (.dat (.lst Tryz.underlying100)) rfl rfl) .nil),.nil⟩
 ·cases h
def sel16 (args:List AV) (objs:List Ob):Option (List Dt×Dt):=match args,objs with
 | [.dat T0 x0,.fn T1 [.rptr T2 x2]],[]=>bif (Nat.beq T0 22&&(Nat.beq T1 46&&Nat.beq T2 25)) then some (x0.toLst,x2) else none
 |_,_=>none
theorem sel16_ok {args:List AV} {objs:List Ob} {l:List Dt×Dt} (h:sel16 args objs=some l):CnA Tryz.prog args [(.dat 22 (.lst l.1)),(.fn 46 [(.rptr 25 l.2)])]∧CnOL Tryz.prog objs []:=by
 unfold sel16 at h
 split at h
 ·obtain⟨hc,h2⟩:=bif_some h
  cases h2
  have e0:=beq_eq (and_l hc)
  have e1:=beq_eq (and_l (and_r hc))
  have e2:=beq_eq (and_r (and_r hc))
  subst e0 e1 e2
  exact⟨(.cons (.of (.dat (.lst Tryz.underlying22)) rfl rfl) (.cons (.of (.fn (.cons .same .nil)) rfl rfl) .nil)),.nil⟩
 ·cases h
def sel18 (args:List AV) (objs:List Ob):Option (Dt×Dt):=match args,objs with
 | [.dat T0 x0,.rptr T1 x1],[]=>bif (Nat.beq T0 25&&Nat.beq T1 25) then some (x0,x1) else none
 |_,_=>none
theorem sel18_ok {args:List AV} {objs:List Ob} {l:Dt×Dt} (h:sel18 args objs=some l):CnA Tryz.prog args [(.dat 25 l.1),(.rptr 25 l.2)]∧CnOL Tryz.prog objs []:=by
 unfold sel18 at h
 split at h
 ·obtain⟨hc,h2⟩:=bif_some h
  cases h2
  have e0:=beq_eq (and_l hc)
  have e1:=beq_eq (and_r hc)
  subst e0 e1
  exact⟨(.cons (.of .same rfl rfl) (.cons (.of .same rfl rfl) .nil)),.nil⟩
 ·cases h
def sel19 (args:List AV) (objs:List Ob):Option (Dt×Dt):=match args,objs with
 | [.dat T0 x0,.dat T1 x1],[]=>bif (Nat.beq T0 25&&Nat.beq T1 25) then some (x0,x1) else none
 |_,_=>none
theorem sel19_ok {args:List AV} {objs:List Ob} {l:Dt×Dt} (h:sel19 args objs=some l):CnA Tryz.prog args [(.dat 25 l.1),(.dat 25 l.2)]∧CnOL Tryz.prog objs []:=by
 unfold sel19 at h
 split at h
 ·obtain⟨hc,h2⟩:=bif_some h
  cases h2
  have e0:=beq_eq (and_l hc)
  have e1:=beq_eq (and_r hc)
  subst e0 e1
  exact⟨(.cons (.of .same rfl rfl) (.cons (.of .same rfl rfl) .nil)),.nil⟩
 ·cases h
def sel21 (args:List AV) (objs:List Ob):Option Dt:=match args,objs with
 | [.dat T0 x0],[]=>bif Nat.beq T0 25 then some x0 else none
 |_,_=>none
theorem sel21_ok {args:List AV} {objs:List Ob} {l:Dt} (h:sel21 args objs=some l):CnA Tryz.prog args [(.dat 25 l)]∧CnOL Tryz.prog objs []:=by
 unfold sel21 at h
 split at h
 ·obtain⟨hc,h2⟩:=bif_some h
  cases h2
  have e0:=beq_eq hc
  subst e0
  exact⟨(.cons (.of .same rfl rfl) .nil),.nil⟩
 ·cases h
def sel22 (args:List AV) (objs:List Ob):Option (Dt×ByteArray):=match args,objs with
 | [.dat T0 x0,.dat T1 x1],[]=>bif (Nat.beq T0 25&&Nat.beq T1 9) then some (x0,x1.toStr) else none
 |_,_=>none
theorem sel22_ok {args:List AV} {objs:List Ob} {l:Dt×ByteArray} (h:sel22 args objs=some l):CnA Tryz.prog args [(.dat 25 l.1),(.dat 9 (.str l.2))]∧CnOL Tryz.prog objs []:=by
 unfold sel22 at h
 split at h
 ·obtain⟨hc,h2⟩:=bif_some h
  cases h2
  have e0:=beq_eq (and_l hc)
  have e1:=beq_eq (and_r hc)
  subst e0 e1
  exact⟨(.cons (.of .same rfl rfl) (.cons (.of (.dat (.str Tryz.underlying9)) rfl rfl) .nil)),.nil⟩
 ·cases h
def sel23 (args:List AV) (objs:List Ob):Option (List Dt×Dt):=match args,objs with
 | [.dat T0 x0,.fn T1 [.rptr T2 x2]],[]=>bif (Nat.beq T0 29&&(Nat.beq T1 53&&Nat.beq T2 53)) then some (x0.toLst,x2) else none
 |_,_=>none
theorem sel23_ok {args:List AV} {objs:List Ob} {l:List Dt×Dt} (h:sel23 args objs=some l):CnA Tryz.prog args [(.dat 29 (.lst l.1)),(.fn 53 [(.rptr 53 l.2)])]∧CnOL Tryz.prog objs []:=by
 unfold sel23 at h
 split at h
 ·obtain⟨hc,h2⟩:=bif_some h
  cases h2
  have e0:=beq_eq (and_l hc)
  have e1:=beq_eq (and_l (and_r hc))
  have e2:=beq_eq (and_r (and_r hc))
  subst e0 e1 e2
  exact⟨(.cons (.of (.dat (.lst Tryz.underlying29)) rfl rfl) (.cons (.of (.fn (.cons .same .nil)) rfl rfl) .nil)),.nil⟩
 ·cases h
def sel25 (args:List AV) (objs:List Ob):Option (Dt×Dt):=match args,objs with
 | [.dat T0 x0,.rptr T1 x1],[]=>bif (Nat.beq T0 64&&Nat.beq T1 53) then some (x0,x1) else none
 |_,_=>none
theorem sel25_ok {args:List AV} {objs:List Ob} {l:Dt×Dt} (h:sel25 args objs=some l):CnA Tryz.prog args [(.dat 64 l.1),(.rptr 53 l.2)]∧CnOL Tryz.prog objs []:=by
 unfold sel25 at h
 split at h
 ·obtain⟨hc,h2⟩:=bif_some h
  cases h2
  have e0:=beq_eq (and_l hc)
  have e1:=beq_eq (and_r hc)
  subst e0 e1
  exact⟨(.cons (.of .same rfl rfl) (.cons (.of .same rfl rfl) .nil)),.nil⟩
 ·cases h
def sel26 (args:List AV) (objs:List Ob):Option (List Dt):=match args,objs with
 | [.dat T0 x0],[]=>bif Nat.beq T0 22 then some x0.toLst else none
 |_,_=>none
theorem sel26_ok {args:List AV} {objs:List Ob} {l:List Dt} (h:sel26 args objs=some l):CnA Tryz.prog args [(.dat 22 (.lst l))]∧CnOL Tryz.prog objs []:=by
 unfold sel26 at h
 split at h
 ·obtain⟨hc,h2⟩:=bif_some h
  cases h2
  have e0:=beq_eq hc
  subst e0
  exact⟨(.cons (.of (.dat (.lst Tryz.underlying22)) rfl rfl) .nil),.nil⟩
 ·cases h
def sel27 (args:List AV) (objs:List Ob):Option Int:=match args,objs with
 | [.dat T0 x0],[]=>bif Nat.beq T0 3 then some x0.toInt else none
 |_,_=>none
theorem sel27_ok {args:List AV} {objs:List Ob} {l:Int} (h:sel27 args objs=some l):CnA Tryz.prog args [(.dat 3 (.int l))]∧CnOL Tryz.prog objs []:=by
 unfold sel27 at h
 split at h
 ·obtain⟨hc,h2⟩:=bif_some h
  cases h2
  have e0:=beq_eq hc
  subst e0
  exact⟨(.cons (.of (.dat (.int Tryz.underlying3)) rfl rfl) .nil),.nil⟩
 ·cases h
def sel29 (args:List AV) (objs:List Ob):Option (Dt×Dt×List Dt):=match args,objs with
 | [.dat T0 x0,.dat T1 x1,.dat T2 x2],[]=>bif (Nat.beq T0 32&&(Nat.beq T1 25&&Nat.beq T2 28)) then some (x0,x1,x2.toLst) else none
 |_,_=>none
theorem sel29_ok {args:List AV} {objs:List Ob} {l:Dt×Dt×List Dt} (h:sel29 args objs=some l):CnA Tryz.prog args [(.dat 32 l.1),(.dat 25 l.2.1),(.dat 28 (.lst l.2.2))]∧CnOL Tryz.prog objs []:=by
 unfold sel29 at h
 split at h
 ·obtain⟨hc,h2⟩:=bif_some h
  cases h2
  have e0:=beq_eq (and_l hc)
  have e1:=beq_eq (and_l (and_r hc))
  have e2:=beq_eq (and_r (and_r hc))
  subst e0 e1 e2
  exact⟨(.cons (.of .same rfl rfl) (.cons (.of .same rfl rfl) (.cons (.of (.dat (.lst Tryz.underlying28)) rfl rfl) .nil))),.nil⟩
 ·cases h
def sel30 (args:List AV) (objs:List Ob):Option (List Dt×List Dt):=match args,objs with
 | [.dat T0 x0,.dat T1 x1],[]=>bif (Nat.beq T0 28&&Nat.beq T1 28) then some (x0.toLst,x1.toLst) else none
 |_,_=>none
theorem sel30_ok {args:List AV} {objs:List Ob} {l:List Dt×List Dt} (h:sel30 args objs=some l):CnA Tryz.prog args [(.dat 28 (.lst l.1)),(.dat 28 (.lst l.2))]∧CnOL Tryz.prog objs []:=by
 unfold sel30 at h
 split at h
 ·obtain⟨hc,h2⟩:=bif_some h
  cases h2
  have e0:=beq_eq (and_l hc)
  have e1:=beq_eq (and_r hc)
  subst e0 e1
  exact⟨(.cons (.of (.dat (.lst Tryz.underlying28)) rfl rfl) (.cons (.of (.dat (.lst Tryz.underlying28)) rfl rfl) .nil)),.nil⟩
 ·cases h
def sel31 (args:List AV) (objs:List Ob):Option (Dt×Int×Int):=match args,objs with
 | [.dat T0 x0,.dat T1 x1,.dat T2 x2],[]=>bif (Nat.beq T0 25&&(Nat.beq T1 3&&Nat.beq T2 3)) then some (x0,x1.toInt,x2.toInt) else none
 |_,_=>none
theorem sel31_ok {args:List AV} {objs:List Ob} {l:Dt×Int×Int} (h:sel31 args objs=some l):CnA Tryz.prog args [(.dat 25 l.1),(.dat 3 (.int l.2.1)),(.dat 3 (.int l.2.2))]∧CnOL Tryz.prog objs []:=by
 unfold sel31 at h
 split at h
 ·obtain⟨hc,h2⟩:=bif_some h
  cases h2
  have e0:=beq_eq (and_l hc)
  have e1:=beq_eq (and_l (and_r hc))
  have e2:=beq_eq (and_r (and_r hc))
  subst e0 e1 e2
  exact⟨(.cons (.of .same rfl rfl) (.cons (.of (.dat (.int Tryz.underlying3)) rfl rfl) (.cons (.of (.dat (.int Tryz.underlying3)) rfl rfl) .nil))),.nil⟩
 ·cases h
def sel32 (args:List AV) (objs:List Ob):Option (Dt×Int×Int):=match args,objs with
 | [.dat T0 x0,.dat T1 x1,.ptr n2 p2 o2],[.box T3 (.dat T4 x4)]=>bif (Nat.beq T0 32&&(Nat.beq T1 3&&(Nat.beq n2 0&&(natsB p2 []&&(Nat.beq o2 0&&(Nat.beq T3 3&&Nat.beq T4 3)))))) then some (x0,x1.toInt,x4.toInt) else none
 |_,_=>none
theorem sel32_ok {args:List AV} {objs:List Ob} {l:Dt×Int×Int} (h:sel32 args objs=some l):CnA Tryz.prog args [(.dat 32 l.1),(.dat 3 (.int l.2.1)),(.ptr 0 [] 0)]∧CnOL Tryz.prog objs [(.box 3 (.dat 3 (.int l.2.2)))]:=by
 unfold sel32 at h
 split at h
 ·obtain⟨hc,h2⟩:=bif_some h
  cases h2
  have e0:=beq_eq (and_l hc)
  have e1:=beq_eq (and_l (and_r hc))
  have e2:=beq_eq (and_l (and_r (and_r hc)))
  have e3:=natsB_eq (and_l (and_r (and_r (and_r hc))))
  have e4:=beq_eq (and_l (and_r (and_r (and_r (and_r hc)))))
  have e5:=beq_eq (and_l (and_r (and_r (and_r (and_r (and_r hc))))))
  have e6:=beq_eq (and_r (and_r (and_r (and_r (and_r (and_r hc))))))
  subst e0 e1 e2 e3 e4 e5 e6
  exact⟨(.cons (.of .same rfl rfl) (.cons (.of (.dat (.int Tryz.underlying3)) rfl rfl) (.cons (.of .same rfl rfl) .nil))),(.cons (.box (.dat (.int Tryz.underlying3))) .nil)⟩
 ·cases h
def sel34 (args:List AV) (objs:List Ob):Option Int:=match args,objs with
 | [.nils T0,.dat T1 x1],[]=>bif (Nat.beq T0 28&&Nat.beq T1 3) then some x1.toInt else none
 |_,_=>none
theorem sel34_ok {args:List AV} {objs:List Ob} {l:Int} (h:sel34 args objs=some l):CnA Tryz.prog args [(.nils 28),(.dat 3 (.int l))]∧CnOL Tryz.prog objs []:=by
 unfold sel34 at h
 split at h
 ·obtain⟨hc,h2⟩:=bif_some h
  cases h2
  have e0:=beq_eq (and_l hc)
  have e1:=beq_eq (and_r hc)
  subst e0 e1
  exact⟨(.cons (.of .same rfl rfl) (.cons (.of (.dat (.int Tryz.underlying3)) rfl rfl) .nil)),.nil⟩
 ·cases h
def sel36 (args:List AV) (objs:List Ob):Option (ByteArray×ByteArray):=match args,objs with
 | [.dat T0 x0,.dat T1 x1],[]=>bif (Nat.beq T0 9&&Nat.beq T1 9) then some (x0.toStr,x1.toStr) else none
 |_,_=>none
theorem sel36_ok {args:List AV} {objs:List Ob} {l:ByteArray×ByteArray} (h:sel36 args objs=some l):CnA Tryz.prog args [(.dat 9 (.str l.1)),(.dat 9 (.str l.2))]∧CnOL Tryz.prog objs []:=by
 unfold sel36 at h
 split at h
 ·obtain⟨hc,h2⟩:=bif_some h
  cases h2
  have e0:=beq_eq (and_l hc)
  have e1:=beq_eq (and_r hc)
  subst e0 e1
  exact⟨(.cons (.of (.dat (.str Tryz.underlying9)) rfl rfl) (.cons (.of (.dat (.str Tryz.underlying9)) rfl rfl) .nil)),.nil⟩
 ·cases h
def sel38 (args:List AV) (objs:List Ob):Option (List Dt):=match args,objs with
 | [.row n0,.fn T1 []],[.row T2 x2]=>bif (Nat.beq n0 0&&(Nat.beq T1 50&&Nat.beq T2 22)) then some x2 else none
 |_,_=>none
theorem sel38_ok {args:List AV} {objs:List Ob} {l:List Dt} (h:sel38 args objs=some l):CnA Tryz.prog args [(.row 0),(.fn 50 [])]∧CnOL Tryz.prog objs [(.row 22 l)]:=by
 unfold sel38 at h
 split at h
 ·obtain⟨hc,h2⟩:=bif_some h
  cases h2
  have e0:=beq_eq (and_l hc)
  have e1:=beq_eq (and_l (and_r hc))
  have e2:=beq_eq (and_r (and_r hc))
  subst e0 e1 e2
  exact⟨(.cons (.of .same rfl rfl) (.cons (.of (.fn .nil) rfl rfl) .nil)),(.cons .same .nil)⟩
 ·cases h
def sel39 (args:List AV) (objs:List Ob):Option (Int×List Dt):=match args,objs with
 | [.row n0,.dat T1 x1,.fn T2 []],[.row T3 x3]=>bif (Nat.beq n0 0&&(Nat.beq T1 3&&(Nat.beq T2 50&&Nat.beq T3 22))) then some (x1.toInt,x3) else none
 |_,_=>none
theorem sel39_ok {args:List AV} {objs:List Ob} {l:Int×List Dt} (h:sel39 args objs=some l):CnA Tryz.prog args [(.row 0),(.dat 3 (.int l.1)),(.fn 50 [])]∧CnOL Tryz.prog objs [(.row 22 l.2)]:=by
 unfold sel39 at h
 split at h
 ·obtain⟨hc,h2⟩:=bif_some h
  cases h2
  have e0:=beq_eq (and_l hc)
  have e1:=beq_eq (and_l (and_r hc))
  have e2:=beq_eq (and_l (and_r (and_r hc)))
  have e3:=beq_eq (and_r (and_r (and_r hc)))
  subst e0 e1 e2 e3
  exact⟨(.cons (.of .same rfl rfl) (.cons (.of (.dat (.int Tryz.underlying3)) rfl rfl) (.cons (.of (.fn .nil) rfl rfl) .nil))),(.cons .same .nil)⟩
 ·cases h
def sel40 (args:List AV) (objs:List Ob):Option (Int×Int×List Dt):=match args,objs with
 | [.row n0,.dat T1 x1,.dat T2 x2,.fn T3 []],[.row T4 x4]=>bif (Nat.beq n0 0&&(Nat.beq T1 3&&(Nat.beq T2 3&&(Nat.beq T3 50&&Nat.beq T4 22)))) then some (x1.toInt,x2.toInt,x4) else none
 |_,_=>none
theorem sel40_ok {args:List AV} {objs:List Ob} {l:Int×Int×List Dt} (h:sel40 args objs=some l):CnA Tryz.prog args [(.row 0),(.dat 3 (.int l.1)),(.dat 3 (.int l.2.1)),(.fn 50 [])]∧CnOL Tryz.prog objs [(.row 22 l.2.2)]:=by
 unfold sel40 at h
 split at h
 ·obtain⟨hc,h2⟩:=bif_some h
  cases h2
  have e0:=beq_eq (and_l hc)
  have e1:=beq_eq (and_l (and_r hc))
  have e2:=beq_eq (and_l (and_r (and_r hc)))
  have e3:=beq_eq (and_l (and_r (and_r (and_r hc))))
  have e4:=beq_eq (and_r (and_r (and_r (and_r hc))))
  subst e0 e1 e2 e3 e4
  exact⟨(.cons (.of .same rfl rfl) (.cons (.of (.dat (.int Tryz.underlying3)) rfl rfl) (.cons (.of (.dat (.int Tryz.underlying3)) rfl rfl) (.cons (.of (.fn .nil) rfl rfl) .nil)))),(.cons .same .nil)⟩
 ·cases h
def sel41 (args:List AV) (objs:List Ob):Option (Int×Int×Int×List Dt):=match args,objs with
 | [.row n0,.dat T1 x1,.dat T2 x2,.dat T3 x3,.fn T4 []],[.row T5 x5]=>bif (Nat.beq n0 0&&(Nat.beq T1 3&&(Nat.beq T2 3&&(Nat.beq T3 3&&(Nat.beq T4 50&&Nat.beq T5 22))))) then some (x1.toInt,x2.toInt,x3.toInt,x5) else none
 |_,_=>none
theorem sel41_ok {args:List AV} {objs:List Ob} {l:Int×Int×Int×List Dt} (h:sel41 args objs=some l):CnA Tryz.prog args [(.row 0),(.dat 3 (.int l.1)),(.dat 3 (.int l.2.1)),(.dat 3 (.int l.2.2.1)),(.fn 50 [])]∧CnOL Tryz.prog objs [(.row 22 l.2.2.2)]:=by
 unfold sel41 at h
 split at h
 ·obtain⟨hc,h2⟩:=bif_some h
  cases h2
  have e0:=beq_eq (and_l hc)
  have e1:=beq_eq (and_l (and_r hc))
  have e2:=beq_eq (and_l (and_r (and_r hc)))
  have e3:=beq_eq (and_l (and_r (and_r (and_r hc))))
  have e4:=beq_eq (and_l (and_r (and_r (and_r (and_r hc)))))
  have e5:=beq_eq (and_r (and_r (and_r (and_r (and_r hc)))))
  subst e0 e1 e2 e3 e4 e5
  exact⟨(.cons (.of .same rfl rfl) (.cons (.of (.dat (.int Tryz.underlying3)) rfl rfl) (.cons (.of (.dat (.int Tryz.underlying3)) rfl rfl) (.cons (.of (.dat (.int Tryz.underlying3)) rfl rfl) (.cons (.of (.fn .nil) rfl rfl) .nil))))),(.cons .same .nil)⟩
 ·cases h
def sel44 (args:List AV) (objs:List Ob):Option (Dt×Int×Int):=match args,objs with
 | [.dat T0 x0,.dat T1 x1,.dat T2 x2],[]=>bif (Nat.beq T0 32&&(Nat.beq T1 3&&Nat.beq T2 3)) then some (x0,x1.toInt,x2.toInt) else none
 |_,_=>none
theorem sel44_ok {args:List AV} {objs:List Ob} {l:Dt×Int×Int} (h:sel44 args objs=some l):CnA Tryz.prog args [(.dat 32 l.1),(.dat 3 (.int l.2.1)),(.dat 3 (.int l.2.2))]∧CnOL Tryz.prog objs []:=by
 unfold sel44 at h
 split at h
 ·obtain⟨hc,h2⟩:=bif_some h
  cases h2
  have e0:=beq_eq (and_l hc)
  have e1:=beq_eq (and_l (and_r hc))
  have e2:=beq_eq (and_r (and_r hc))
  subst e0 e1 e2
  exact⟨(.cons (.of .same rfl rfl) (.cons (.of (.dat (.int Tryz.underlying3)) rfl rfl) (.cons (.of (.dat (.int Tryz.underlying3)) rfl rfl) .nil))),.nil⟩
 ·cases h
def sel46 (args:List AV) (objs:List Ob):Option (List Dt×Dt):=match args,objs with
 | [.dat T0 x0,.dat T1 x1],[]=>bif (Nat.beq T0 22&&Nat.beq T1 25) then some (x0.toLst,x1) else none
 |_,_=>none
theorem sel46_ok {args:List AV} {objs:List Ob} {l:List Dt×Dt} (h:sel46 args objs=some l):CnA Tryz.prog args [(.dat 22 (.lst l.1)),(.dat 25 l.2)]∧CnOL Tryz.prog objs []:=by
 unfold sel46 at h
 split at h
 ·obtain⟨hc,h2⟩:=bif_some h
  cases h2
  have e0:=beq_eq (and_l hc)
  have e1:=beq_eq (and_r hc)
  subst e0 e1
  exact⟨(.cons (.of (.dat (.lst Tryz.underlying22)) rfl rfl) (.cons (.of .same rfl rfl) .nil)),.nil⟩
 ·cases h
def sel50 (args:List AV) (objs:List Ob):Option (List Dt×ByteArray):=match args,objs with
 | [.dat T0 x0,.dat T1 x1],[]=>bif (Nat.beq T0 28&&Nat.beq T1 9) then some (x0.toLst,x1.toStr) else none
 |_,_=>none
theorem sel50_ok {args:List AV} {objs:List Ob} {l:List Dt×ByteArray} (h:sel50 args objs=some l):CnA Tryz.prog args [(.dat 28 (.lst l.1)),(.dat 9 (.str l.2))]∧CnOL Tryz.prog objs []:=by
 unfold sel50 at h
 split at h
 ·obtain⟨hc,h2⟩:=bif_some h
  cases h2
  have e0:=beq_eq (and_l hc)
  have e1:=beq_eq (and_r hc)
  subst e0 e1
  exact⟨(.cons (.of (.dat (.lst Tryz.underlying28)) rfl rfl) (.cons (.of (.dat (.str Tryz.underlying9)) rfl rfl) .nil)),.nil⟩
 ·cases h
def sel51 (args:List AV) (objs:List Ob):Option (Dt×ByteArray):=match args,objs with
 | [.dat T0 x0,.dat T1 x1],[]=>bif (Nat.beq T0 32&&Nat.beq T1 9) then some (x0,x1.toStr) else none
 |_,_=>none
theorem sel51_ok {args:List AV} {objs:List Ob} {l:Dt×ByteArray} (h:sel51 args objs=some l):CnA Tryz.prog args [(.dat 32 l.1),(.dat 9 (.str l.2))]∧CnOL Tryz.prog objs []:=by
 unfold sel51 at h
 split at h
 ·obtain⟨hc,h2⟩:=bif_some h
  cases h2
  have e0:=beq_eq (and_l hc)
  have e1:=beq_eq (and_r hc)
  subst e0 e1
  exact⟨(.cons (.of .same rfl rfl) (.cons (.of (.dat (.str Tryz.underlying9)) rfl rfl) .nil)),.nil⟩
 ·cases h
def sel54 (args:List AV) (objs:List Ob):Option ByteArray:=match args,objs with
 | [.dat T0 x0],[]=>bif Nat.beq T0 9 then some x0.toStr else none
 |_,_=>none
theorem sel54_ok {args:List AV} {objs:List Ob} {l:ByteArray} (h:sel54 args objs=some l):CnA Tryz.prog args [(.dat 9 (.str l))]∧CnOL Tryz.prog objs []:=by
 unfold sel54 at h
 split at h
 ·obtain⟨hc,h2⟩:=bif_some h
  cases h2
  have e0:=beq_eq hc
  subst e0
  exact⟨(.cons (.of (.dat (.str Tryz.underlying9)) rfl rfl) .nil),.nil⟩
 ·cases h
def sel55 (args:List AV) (objs:List Ob):Option (Bool×Dt):=match args,objs with
 | [.dat T0 x0,.dat T1 x1],[]=>bif (Nat.beq T0 4&&Nat.beq T1 25) then some (x0.toBool,x1) else none
 |_,_=>none
theorem sel55_ok {args:List AV} {objs:List Ob} {l:Bool×Dt} (h:sel55 args objs=some l):CnA Tryz.prog args [(.dat 4 (.bool l.1)),(.dat 25 l.2)]∧CnOL Tryz.prog objs []:=by
 unfold sel55 at h
 split at h
 ·obtain⟨hc,h2⟩:=bif_some h
  cases h2
  have e0:=beq_eq (and_l hc)
  have e1:=beq_eq (and_r hc)
  subst e0 e1
  exact⟨(.cons (.of (.dat (.bool Tryz.underlying4)) rfl rfl) (.cons (.of .same rfl rfl) .nil)),.nil⟩
 ·cases h
def sel67 (args:List AV) (objs:List Ob):Option (List Dt):=match args,objs with
 | [.dat T0 x0],[]=>bif Nat.beq T0 28 then some x0.toLst else none
 |_,_=>none
theorem sel67_ok {args:List AV} {objs:List Ob} {l:List Dt} (h:sel67 args objs=some l):CnA Tryz.prog args [(.dat 28 (.lst l))]∧CnOL Tryz.prog objs []:=by
 unfold sel67 at h
 split at h
 ·obtain⟨hc,h2⟩:=bif_some h
  cases h2
  have e0:=beq_eq hc
  subst e0
  exact⟨(.cons (.of (.dat (.lst Tryz.underlying28)) rfl rfl) .nil),.nil⟩
 ·cases h
def sel73 (args:List AV) (objs:List Ob):Option (List Dt):=match args,objs with
 | [.dat T0 x0],[]=>bif Nat.beq T0 23 then some x0.toLst else none
 |_,_=>none
theorem sel73_ok {args:List AV} {objs:List Ob} {l:List Dt} (h:sel73 args objs=some l):CnA Tryz.prog args [(.dat 23 (.lst l))]∧CnOL Tryz.prog objs []:=by
 unfold sel73 at h
 split at h
 ·obtain⟨hc,h2⟩:=bif_some h
  cases h2
  have e0:=beq_eq hc
  subst e0
  exact⟨(.cons (.of (.dat (.lst Tryz.underlying23)) rfl rfl) .nil),.nil⟩
 ·cases h
def sel78 (args:List AV) (objs:List Ob):Option (Dt×Bool):=match args,objs with
 | [.dat T0 x0,.dat T1 x1],[]=>bif (Nat.beq T0 25&&Nat.beq T1 4) then some (x0,x1.toBool) else none
 |_,_=>none
theorem sel78_ok {args:List AV} {objs:List Ob} {l:Dt×Bool} (h:sel78 args objs=some l):CnA Tryz.prog args [(.dat 25 l.1),(.dat 4 (.bool l.2))]∧CnOL Tryz.prog objs []:=by
 unfold sel78 at h
 split at h
 ·obtain⟨hc,h2⟩:=bif_some h
  cases h2
  have e0:=beq_eq (and_l hc)
  have e1:=beq_eq (and_r hc)
  subst e0 e1
  exact⟨(.cons (.of .same rfl rfl) (.cons (.of (.dat (.bool Tryz.underlying4)) rfl rfl) .nil)),.nil⟩
 ·cases h
def sel79 (args:List AV) (objs:List Ob):Option (Dt×Int×Int):=match args,objs with
 | [.dat T0 x0,.fn T1 [.ptr n2 p2 o2,.ptr n3 p3 o3]],[.box T4 (.dat T5 x5),.box T6 (.dat T7 x7)]=>bif (Nat.beq T0 25&&(Nat.beq T1 95&&(Nat.beq n2 0&&(natsB p2 []&&(Nat.beq o2 0&&(Nat.beq n3 1&&(natsB p3 []&&(Nat.beq o3 0&&(Nat.beq T4 3&&(Nat.beq T5 3&&(Nat.beq T6 3&&Nat.beq T7 3))))))))))) then some (x0,x5.toInt,x7.toInt) else none
 |_,_=>none
theorem sel79_ok {args:List AV} {objs:List Ob} {l:Dt×Int×Int} (h:sel79 args objs=some l):CnA Tryz.prog args [(.dat 25 l.1),(.fn 95 [(.ptr 0 [] 0),(.ptr 1 [] 0)])]∧CnOL Tryz.prog objs [(.box 3 (.dat 3 (.int l.2.1))),(.box 3 (.dat 3 (.int l.2.2)))]:=by
 unfold sel79 at h
 split at h
 ·obtain⟨hc,h2⟩:=bif_some h
  cases h2
  have e0:=beq_eq (and_l hc)
  have e1:=beq_eq (and_l (and_r hc))
  have e2:=beq_eq (and_l (and_r (and_r hc)))
  have e3:=natsB_eq (and_l (and_r (and_r (and_r hc))))
  have e4:=beq_eq (and_l (and_r (and_r (and_r (and_r hc)))))
  have e5:=beq_eq (and_l (and_r (and_r (and_r (and_r (and_r hc))))))
  have e6:=natsB_eq (and_l (and_r (and_r (and_r (and_r (and_r (and_r hc)))))))
  have e7:=beq_eq (and_l (and_r (and_r (and_r (and_r (and_r (and_r (and_r hc))))))))
  have e8:=beq_eq (and_l (and_r (and_r (and_r (and_r (and_r (and_r (and_r (and_r hc)))))))))
  have e9:=beq_eq (and_l (and_r (and_r (and_r (and_r (and_r (and_r (and_r (and_r (and_r hc))))))))))
  have e10:=beq_eq (and_l (and_r (and_r (and_r (and_r (and_r (and_r (and_r (and_r (and_r (and_r hc)))))))))))
  have e11:=beq_eq (and_r (and_r (and_r (and_r (and_r (and_r (and_r (and_r (and_r (and_r (and_r hc)))))))))))
  subst e0 e1 e2 e3 e4 e5 e6 e7 e8 e9 e10 e11
  exact⟨(.cons (.of .same rfl rfl) (.cons (.of (.fn (.cons .same (.cons .same .nil))) rfl rfl) .nil)),(.cons (.box (.dat (.int Tryz.underlying3))) (.cons (.box (.dat (.int Tryz.underlying3))) .nil))⟩
 ·cases h
def sel80 (args:List AV) (objs:List Ob):Option (Dt×Int×Int):=match args,objs with
 | [.dat T0 x0,.ptr n1 p1 o1,.ptr n2 p2 o2],[.box T3 (.dat T4 x4),.box T5 (.dat T6 x6)]=>bif (Nat.beq T0 25&&(Nat.beq n1 0&&(natsB p1 []&&(Nat.beq o1 0&&(Nat.beq n2 1&&(natsB p2 []&&(Nat.beq o2 0&&(Nat.beq T3 3&&(Nat.beq T4 3&&(Nat.beq T5 3&&Nat.beq T6 3)))))))))) then some (x0,x4.toInt,x6.toInt) else none
 |_,_=>none
theorem sel80_ok {args:List AV} {objs:List Ob} {l:Dt×Int×Int} (h:sel80 args objs=some l):CnA Tryz.prog args [(.dat 25 l.1),(.ptr 0 [] 0),(.ptr 1 [] 0)]∧CnOL Tryz.prog objs [(.box 3 (.dat 3 (.int l.2.1))),(.box 3 (.dat 3 (.int l.2.2)))]:=by
 unfold sel80 at h
 split at h
 ·obtain⟨hc,h2⟩:=bif_some h
  cases h2
  have e0:=beq_eq (and_l hc)
  have e1:=beq_eq (and_l (and_r hc))
  have e2:=natsB_eq (and_l (and_r (and_r hc)))
  have e3:=beq_eq (and_l (and_r (and_r (and_r hc))))
  have e4:=beq_eq (and_l (and_r (and_r (and_r (and_r hc)))))
  have e5:=natsB_eq (and_l (and_r (and_r (and_r (and_r (and_r hc))))))
  have e6:=beq_eq (and_l (and_r (and_r (and_r (and_r (and_r (and_r hc)))))))
  have e7:=beq_eq (and_l (and_r (and_r (and_r (and_r (and_r (and_r (and_r hc))))))))
  have e8:=beq_eq (and_l (and_r (and_r (and_r (and_r (and_r (and_r (and_r (and_r hc)))))))))
  have e9:=beq_eq (and_l (and_r (and_r (and_r (and_r (and_r (and_r (and_r (and_r (and_r hc))))))))))
  have e10:=beq_eq (and_r (and_r (and_r (and_r (and_r (and_r (and_r (and_r (and_r (and_r hc))))))))))
  subst e0 e1 e2 e3 e4 e5 e6 e7 e8 e9 e10
  exact⟨(.cons (.of .same rfl rfl) (.cons (.of .same rfl rfl) (.cons (.of .same rfl rfl) .nil))),(.cons (.box (.dat (.int Tryz.underlying3))) (.cons (.box (.dat (.int Tryz.underlying3))) .nil))⟩
 ·cases h
def sel81 (args:List AV) (objs:List Ob):Option (Dt×Int×Int):=match args,objs with
 | [.dat T0 x0,.fn T1 [.ptr n2 p2 o2,.ptr n3 p3 o3]],[.box T4 (.dat T5 x5),.box T6 (.dat T7 x7)]=>bif (Nat.beq T0 25&&(Nat.beq T1 96&&(Nat.beq n2 0&&(natsB p2 []&&(Nat.beq o2 0&&(Nat.beq n3 1&&(natsB p3 []&&(Nat.beq o3 0&&(Nat.beq T4 3&&(Nat.beq T5 3&&(Nat.beq T6 3&&Nat.beq T7 3))))))))))) then some (x0,x5.toInt,x7.toInt) else none
 |_,_=>none
theorem sel81_ok {args:List AV} {objs:List Ob} {l:Dt×Int×Int} (h:sel81 args objs=some l):CnA Tryz.prog args [(.dat 25 l.1),(.fn 96 [(.ptr 0 [] 0),(.ptr 1 [] 0)])]∧CnOL Tryz.prog objs [(.box 3 (.dat 3 (.int l.2.1))),(.box 3 (.dat 3 (.int l.2.2)))]:=by
 unfold sel81 at h
 split at h
 ·obtain⟨hc,h2⟩:=bif_some h
  cases h2
  have e0:=beq_eq (and_l hc)
  have e1:=beq_eq (and_l (and_r hc))
  have e2:=beq_eq (and_l (and_r (and_r hc)))
  have e3:=natsB_eq (and_l (and_r (and_r (and_r hc))))
  have e4:=beq_eq (and_l (and_r (and_r (and_r (and_r hc)))))
  have e5:=beq_eq (and_l (and_r (and_r (and_r (and_r (and_r hc))))))
  have e6:=natsB_eq (and_l (and_r (and_r (and_r (and_r (and_r (and_r hc)))))))
  have e7:=beq_eq (and_l (and_r (and_r (and_r (and_r (and_r (and_r (and_r hc))))))))
  have e8:=beq_eq (and_l (and_r (and_r (and_r (and_r (and_r (and_r (and_r (and_r hc)))))))))
  have e9:=beq_eq (and_l (and_r (and_r (and_r (and_r (and_r (and_r (and_r (and_r (and_r hc))))))))))
  have e10:=beq_eq (and_l (and_r (and_r (and_r (and_r (and_r (and_r (and_r (and_r (and_r (and_r hc)))))))))))
  have e11:=beq_eq (and_r (and_r (and_r (and_r (and_r (and_r (and_r (and_r (and_r (and_r (and_r hc)))))))))))
  subst e0 e1 e2 e3 e4 e5 e6 e7 e8 e9 e10 e11
  exact⟨(.cons (.of .same rfl rfl) (.cons (.of (.fn (.cons .same (.cons .same .nil))) rfl rfl) .nil)),(.cons (.box (.dat (.int Tryz.underlying3))) (.cons (.box (.dat (.int Tryz.underlying3))) .nil))⟩
 ·cases h
def sel89 (args:List AV) (objs:List Ob):Option (ByteArray×Int×Int):=match args,objs with
 | [.dat T0 x0,.dat T1 x1,.dat T2 x2],[]=>bif (Nat.beq T0 9&&(Nat.beq T1 3&&Nat.beq T2 3)) then some (x0.toStr,x1.toInt,x2.toInt) else none
 |_,_=>none
theorem sel89_ok {args:List AV} {objs:List Ob} {l:ByteArray×Int×Int} (h:sel89 args objs=some l):CnA Tryz.prog args [(.dat 9 (.str l.1)),(.dat 3 (.int l.2.1)),(.dat 3 (.int l.2.2))]∧CnOL Tryz.prog objs []:=by
 unfold sel89 at h
 split at h
 ·obtain⟨hc,h2⟩:=bif_some h
  cases h2
  have e0:=beq_eq (and_l hc)
  have e1:=beq_eq (and_l (and_r hc))
  have e2:=beq_eq (and_r (and_r hc))
  subst e0 e1 e2
  exact⟨(.cons (.of (.dat (.str Tryz.underlying9)) rfl rfl) (.cons (.of (.dat (.int Tryz.underlying3)) rfl rfl) (.cons (.of (.dat (.int Tryz.underlying3)) rfl rfl) .nil))),.nil⟩
 ·cases h
noncomputable def ct4 {R:Type} (m:Nat) (args:List AV) (objs:List Ob) (K:Res→Option R):Option R:=match sel0 args objs with
 |some l=>(law14_SchemaChecks m l.1 l.2).bind fun r=>K ((.dat 4 (.bool r)),[])
 |none=>none
noncomputable def ct5 {R:Type} (m:Nat) (args:List AV) (objs:List Ob) (K:Res→Option R):Option R:=match sel1 args objs with
 |some l=>(law14_SchemaAdmits m l).bind fun r=>K ((.dat 4 (.bool r)),[])
 |none=>none
noncomputable def ct11 {R:Type} (m:Nat) (args:List AV) (objs:List Ob) (K:Res→Option R):Option R:=match sel0 args objs with
 |some l=>(law14_few m l.1 l.2).bind fun r=>K ((.dat 4 (.bool r)),[])
 |none=>none
noncomputable def ct7 {R:Type} (m:Nat) (args:List AV) (objs:List Ob) (K:Res→Option R):Option R:=match sel3 args objs with
 |some l=>(awakeC).bind fun r=>K ((.dat 4 (.bool r)),[])
 |none=>none
noncomputable def ct13 {R:Type} (m:Nat) (args:List AV) (objs:List Ob) (K:Res→Option R):Option R:=match sel0 args objs with
 |some l=>(schema_Check m l.1 l.2).bind fun r=>K ((.dat 40 (.lst r)),[])
 |none=>none
noncomputable def ct14 {R:Type} (m:Nat) (args:List AV) (objs:List Ob) (K:Res→Option R):Option R:=match sel0 args objs with
 |some l=>(ref14_Check m l.1 l.2).bind fun r=>K ((.dat 40 (.lst r)),[])
 |none=>none
noncomputable def ct12 {R:Type} (m:Nat) (args:List AV) (objs:List Ob) (K:Res→Option R):Option R:=match sel6 args objs with
 |some l=>(ref14_SameList m l.1 l.2).bind fun r=>K ((.dat 4 (.bool r)),[])
 |none=>none
noncomputable def ct15 {R:Type} (m:Nat) (args:List AV) (objs:List Ob) (K:Res→Option R):Option R:=match sel7 args objs with
 |some l=>(schema_Admit m l.1 l.2.1 l.2.2).bind fun r=>K ((.tup [(.dat 33 (.int r.1)),(.dat 40 (.lst r.2))]),[])
 |none=>none
noncomputable def ct16 {R:Type} (m:Nat) (args:List AV) (objs:List Ob) (K:Res→Option R):Option R:=match sel7 args objs with
 |some l=>(ref14_Admit m l.1 l.2.1 l.2.2).bind fun r=>K ((.tup [(.dat 33 (.int r.1)),(.dat 40 (.lst r.2))]),[])
 |none=>none
noncomputable def ct29 {R:Type} (m:Nat) (args:List AV) (objs:List Ob) (K:Res→Option R):Option R:=match sel9 args objs with
 |some l=>(ref14_Count m l.1 l.2).bind fun r=>K ((.dat 3 (.int r)),[])
 |none=>none
noncomputable def ct6 {R:Type} (m:Nat) (args:List AV) (objs:List Ob) (K:Res→Option R):Option R:=match sel10 args objs with
 |some l=>(ref02_Few m l.1 l.2).bind fun r=>K ((.dat 4 (.bool r)),[])
 |none=>none
noncomputable def ct20 {R:Type} (m:Nat) (args:List AV) (objs:List Ob) (K:Res→Option R):Option R:=match sel11 args objs with
 |some l=>(schema_Valid m l).bind fun r=>K ((.dat 33 (.int r)),[])
 |none=>none
noncomputable def ct30 {R:Type} (m:Nat) (args:List AV) (objs:List Ob) (K:Res→Option R):Option R:=match sel12 args objs with
 |some l=>(i12 m l.1 l.2.1 l.2.2.1 l.2.2.2).bind fun r=>K ((.row 1),[.gone,(.row 40 r)])
 |none=>none
noncomputable def ct48 {R:Type} (m:Nat) (args:List AV) (objs:List Ob) (K:Res→Option R):Option R:=match sel13 args objs with
 |some l=>(schema_hasKind m l.1 l.2).bind fun r=>K ((.dat 4 (.bool r)),[])
 |none=>none
noncomputable def ct44 {R:Type} (m:Nat) (args:List AV) (objs:List Ob) (K:Res→Option R):Option R:=match sel14 args objs with
 |some l=>(i14 m l.1 l.2.1 l.2.2.1 l.2.2.2.1 l.2.2.2.2).bind fun r=>K ((.tup []),[(.box 40 (.row 3)),.gone,(.box 28 (.dat 28 (.lst r.1))),(.row 40 r.2)])
 |none=>none
noncomputable def ct45 {R:Type} (m:Nat) (args:List AV) (objs:List Ob) (K:Res→Option R):Option R:=match sel15 args objs with
 |some l=>(slices_Concat m l).bind fun r=>K ((.dat 28 (.lst r)),[])
 |none=>none
noncomputable def ct49 {R:Type} (m:Nat) (args:List AV) (objs:List Ob) (K:Res→Option R):Option R:=match sel16 args objs with
 |some l=>(i16 m l.1 l.2).bind fun r=>K ((.dat 4 (.bool r)),[])
 |none=>none
noncomputable def ct79 {R:Type} (m:Nat) (args:List AV) (objs:List Ob) (K:Res→Option R):Option R:=match sel16 args objs with
 |some l=>(i17 m l.1 l.2).bind fun r=>K ((.dat 3 (.int r)),[])
 |none=>none
noncomputable def ct46 {R:Type} (m:Nat) (args:List AV) (objs:List Ob) (K:Res→Option R):Option R:=match sel18 args objs with
 |some l=>(i18 m l.1 l.2).bind fun r=>K ((.dat 4 (.bool r)),[])
 |none=>none
noncomputable def ct47 {R:Type} (m:Nat) (args:List AV) (objs:List Ob) (K:Res→Option R):Option R:=match sel19 args objs with
 |some l=>(value_Equal m l.1 l.2).bind fun r=>K ((.dat 4 (.bool r)),[])
 |none=>none
noncomputable def ct50 {R:Type} (m:Nat) (args:List AV) (objs:List Ob) (K:Res→Option R):Option R:=match sel19 args objs with
 |some l=>(value_Compare m l.1 l.2).bind fun r=>K ((.dat 3 (.int r)),[])
 |none=>none
noncomputable def ct51 {R:Type} (m:Nat) (args:List AV) (objs:List Ob) (K:Res→Option R):Option R:=match sel21 args objs with
 |some l=>(schema_length m l).bind fun r=>K ((.tup [(.dat 3 (.int r.1)),(.dat 4 (.bool r.2))]),[])
 |none=>none
noncomputable def ct52 {R:Type} (m:Nat) (args:List AV) (objs:List Ob) (K:Res→Option R):Option R:=match sel22 args objs with
 |some l=>(schema_field m l.1 l.2).bind fun r=>K ((.tup [(.dat 25 r.1),(.dat 4 (.bool r.2))]),[])
 |none=>none
noncomputable def ct54 {R:Type} (m:Nat) (args:List AV) (objs:List Ob) (K:Res→Option R):Option R:=match sel23 args objs with
 |some l=>(i23 m l.1 l.2).bind fun r=>K ((.dat 4 (.bool r)),[])
 |none=>none
noncomputable def ct82 {R:Type} (m:Nat) (args:List AV) (objs:List Ob) (K:Res→Option R):Option R:=match sel23 args objs with
 |some l=>(i24 m l.1 l.2).bind fun r=>K ((.dat 3 (.int r)),[])
 |none=>none
noncomputable def ct53 {R:Type} (m:Nat) (args:List AV) (objs:List Ob) (K:Res→Option R):Option R:=match sel25 args objs with
 |some l=>(i25 m l.1 l.2).bind fun r=>K ((.dat 4 (.bool r)),[])
 |none=>none
noncomputable def ct55 {R:Type} (m:Nat) (args:List AV) (objs:List Ob) (K:Res→Option R):Option R:=match sel26 args objs with
 |some l=>(schema_repeats m l).bind fun r=>K ((.dat 4 (.bool r)),[])
 |none=>none
noncomputable def ct56 {R:Type} (m:Nat) (args:List AV) (objs:List Ob) (K:Res→Option R):Option R:=match sel27 args objs with
 |some l=>(strconv_Itoa l).bind fun r=>K ((.dat 9 (.str r)),[])
 |none=>none
noncomputable def ct25 {R:Type} (m:Nat) (args:List AV) (objs:List Ob) (K:Res→Option R):Option R:=match sel11 args objs with
 |some l=>(ref14_Valid m l).bind fun r=>K ((.dat 33 (.int r)),[])
 |none=>none
noncomputable def ct31 {R:Type} (m:Nat) (args:List AV) (objs:List Ob) (K:Res→Option R):Option R:=match sel29 args objs with
 |some l=>(ref14_violations m l.1 l.2.1 l.2.2).bind fun r=>K ((.dat 40 (.lst r)),[])
 |none=>none
noncomputable def ct28 {R:Type} (m:Nat) (args:List AV) (objs:List Ob) (K:Res→Option R):Option R:=match sel30 args objs with
 |some l=>(ref04_Same m l.1 l.2).bind fun r=>K ((.dat 4 (.bool r)),[])
 |none=>none
noncomputable def ct17 {R:Type} (m:Nat) (args:List AV) (objs:List Ob) (K:Res→Option R):Option R:=match sel31 args objs with
 |some l=>(ref02_count m l.1 l.2.1 l.2.2).bind fun r=>K ((.dat 3 (.int r)),[])
 |none=>none
noncomputable def ct32 {R:Type} (m:Nat) (args:List AV) (objs:List Ob) (K:Res→Option R):Option R:=match sel32 args objs with
 |some l=>(i32 m l.1 l.2.1 l.2.2).bind fun r=>K ((.dat 33 (.int r.1)),[(.box 3 (.dat 3 (.int r.2)))])
 |none=>none
noncomputable def ct61 {R:Type} (m:Nat) (args:List AV) (objs:List Ob) (K:Res→Option R):Option R:=match sel11 args objs with
 |some l=>(schema_checkOne m l).bind fun r=>K ((.dat 33 (.int r)),[])
 |none=>none
noncomputable def ct78 {R:Type} (m:Nat) (args:List AV) (objs:List Ob) (K:Res→Option R):Option R:=match sel34 args objs with
 |some l=>(slices_Grow l).bind fun r=>K ((.row 0),[(.row 28 r)])
 |none=>none
noncomputable def ct80 {R:Type} (m:Nat) (args:List AV) (objs:List Ob) (K:Res→Option R):Option R:=match sel13 args objs with
 |some l=>(cmp_Compare m l.1 l.2).bind fun r=>K ((.dat 3 (.int r)),[])
 |none=>none
noncomputable def ct81 {R:Type} (m:Nat) (args:List AV) (objs:List Ob) (K:Res→Option R):Option R:=match sel36 args objs with
 |some l=>(strings_Compare l.1 l.2).bind fun r=>K ((.dat 3 (.int r)),[])
 |none=>none
noncomputable def ct83 {R:Type} (m:Nat) (args:List AV) (objs:List Ob) (K:Res→Option R):Option R:=match sel26 args objs with
 |some l=>(slices_Clone l).bind fun r=>K ((.row 0),[(.row 22 r)])
 |none=>none
noncomputable def ct84 {R:Type} (m:Nat) (args:List AV) (objs:List Ob) (K:Res→Option R):Option R:=match sel38 args objs with
 |some l=>(i38 m l).bind fun r=>K ((.tup []),[(.row 22 r)])
 |none=>none
noncomputable def ct110 {R:Type} (m:Nat) (args:List AV) (objs:List Ob) (K:Res→Option R):Option R:=match sel39 args objs with
 |some l=>(i39 m l.1 l.2).bind fun r=>K ((.tup []),[(.row 22 r)])
 |none=>none
noncomputable def ct118 {R:Type} (m:Nat) (args:List AV) (objs:List Ob) (K:Res→Option R):Option R:=match sel40 args objs with
 |some l=>(i40 m l.1 l.2.1 l.2.2).bind fun r=>K ((.tup []),[(.row 22 r)])
 |none=>none
noncomputable def ct119 {R:Type} (m:Nat) (args:List AV) (objs:List Ob) (K:Res→Option R):Option R:=match sel41 args objs with
 |some l=>(i41 m l.1 l.2.1 l.2.2.1 l.2.2.2).bind fun r=>K ((.tup []),[(.row 22 r)])
 |none=>none
noncomputable def ct124 {R:Type} (m:Nat) (args:List AV) (objs:List Ob) (K:Res→Option R):Option R:=match sel41 args objs with
 |some l=>(i42 m l.1 l.2.1 l.2.2.1 l.2.2.2).bind fun r=>K ((.tup []),[(.row 22 r)])
 |none=>none
noncomputable def ct130 {R:Type} (m:Nat) (args:List AV) (objs:List Ob) (K:Res→Option R):Option R:=match sel41 args objs with
 |some l=>(i43 m l.1 l.2.1 l.2.2.1 l.2.2.2).bind fun r=>K ((.tup []),[(.row 22 r)])
 |none=>none
noncomputable def ct42 {R:Type} (m:Nat) (args:List AV) (objs:List Ob) (K:Res→Option R):Option R:=match sel44 args objs with
 |some l=>(ref14_check m l.1 l.2.1 l.2.2).bind fun r=>K ((.tup [(.dat 3 (.int r.1)),(.dat 33 (.int r.2))]),[])
 |none=>none
noncomputable def ct57 {R:Type} (m:Nat) (args:List AV) (objs:List Ob) (K:Res→Option R):Option R:=match sel29 args objs with
 |some l=>(ref14_own m l.1 l.2.1 l.2.2).bind fun r=>K ((.row 0),[(.row 40 r)])
 |none=>none
noncomputable def ct86 {R:Type} (m:Nat) (args:List AV) (objs:List Ob) (K:Res→Option R):Option R:=match sel46 args objs with
 |some l=>(ref14_among m l.1 l.2).bind fun r=>K ((.dat 4 (.bool r)),[])
 |none=>none
noncomputable def ct87 {R:Type} (m:Nat) (args:List AV) (objs:List Ob) (K:Res→Option R):Option R:=match sel19 args objs with
 |some l=>(ref01_Compare m l.1 l.2).bind fun r=>K ((.dat 3 (.int r)),[])
 |none=>none
noncomputable def ct88 {R:Type} (m:Nat) (args:List AV) (objs:List Ob) (K:Res→Option R):Option R:=match sel21 args objs with
 |some l=>(ref14_length m l).bind fun r=>K ((.tup [(.dat 3 (.int r.1)),(.dat 4 (.bool r.2))]),[])
 |none=>none
noncomputable def ct58 {R:Type} (m:Nat) (args:List AV) (objs:List Ob) (K:Res→Option R):Option R:=match sel22 args objs with
 |some l=>(ref01_Get m l.1 l.2).bind fun r=>K ((.tup [(.dat 25 r.1),(.dat 4 (.bool r.2))]),[])
 |none=>none
noncomputable def ct59 {R:Type} (m:Nat) (args:List AV) (objs:List Ob) (K:Res→Option R):Option R:=match sel50 args objs with
 |some l=>(ref14_step m l.1 l.2).bind fun r=>K ((.dat 28 (.lst r)),[])
 |none=>none
noncomputable def ct89 {R:Type} (m:Nat) (args:List AV) (objs:List Ob) (K:Res→Option R):Option R:=match sel51 args objs with
 |some l=>(ref14_has m l.1 l.2).bind fun r=>K ((.dat 4 (.bool r)),[])
 |none=>none
noncomputable def ct60 {R:Type} (m:Nat) (args:List AV) (objs:List Ob) (K:Res→Option R):Option R:=match sel27 args objs with
 |some l=>(ref05_Decimal m l).bind fun r=>K ((.dat 9 (.str r)),[])
 |none=>none
noncomputable def ct43 {R:Type} (m:Nat) (args:List AV) (objs:List Ob) (K:Res→Option R):Option R:=match sel30 args objs with
 |some l=>(ref04_prefix m l.1 l.2).bind fun r=>K ((.dat 4 (.bool r)),[])
 |none=>none
noncomputable def ct92 {R:Type} (m:Nat) (args:List AV) (objs:List Ob) (K:Res→Option R):Option R:=match sel54 args objs with
 |some l=>(schema_isName m l).bind fun r=>K ((.dat 4 (.bool r)),[])
 |none=>none
noncomputable def ct93 {R:Type} (m:Nat) (args:List AV) (objs:List Ob) (K:Res→Option R):Option R:=match sel55 args objs with
 |some l=>(schema_bound m l.1 l.2).bind fun r=>K ((.dat 4 (.bool r)),[])
 |none=>none
noncomputable def ct36 {R:Type} (m:Nat) (args:List AV) (objs:List Ob) (K:Res→Option R):Option R:=match sel21 args objs with
 |some l=>(value_Valid m l).bind fun r=>K ((.dat 4 (.bool r)),[])
 |none=>none
noncomputable def ct108 {R:Type} (m:Nat) (args:List AV) (objs:List Ob) (K:Res→Option R):Option R:=match sel27 args objs with
 |some l=>(cmp_isNaN m l).bind fun r=>K ((.dat 4 (.bool r)),[])
 |none=>none
noncomputable def ct77 {R:Type} (m:Nat) (args:List AV) (objs:List Ob) (K:Res→Option R):Option R:=match sel11 args objs with
 |some l=>(ref14_single m l).bind fun r=>K ((.dat 33 (.int r)),[])
 |none=>none
noncomputable def ct112 {R:Type} (m:Nat) (args:List AV) (objs:List Ob) (K:Res→Option R):Option R:=match sel19 args objs with
 |some l=>(ref01_Equal m l.1 l.2).bind fun r=>K ((.dat 4 (.bool r)),[])
 |none=>none
noncomputable def ct113 {R:Type} (m:Nat) (args:List AV) (objs:List Ob) (K:Res→Option R):Option R:=match sel13 args objs with
 |some l=>(ref01_Ints m l.1 l.2).bind fun r=>K ((.dat 3 (.int r)),[])
 |none=>none
noncomputable def ct114 {R:Type} (m:Nat) (args:List AV) (objs:List Ob) (K:Res→Option R):Option R:=match sel36 args objs with
 |some l=>(ref01_Texts m l.1 l.2).bind fun r=>K ((.dat 3 (.int r)),[])
 |none=>none
noncomputable def ct90 {R:Type} (m:Nat) (args:List AV) (objs:List Ob) (K:Res→Option R):Option R:=match sel22 args objs with
 |some l=>(ref01_at m l.1 l.2).bind fun r=>K ((.dat 3 (.int r)),[])
 |none=>none
noncomputable def ct91 {R:Type} (m:Nat) (args:List AV) (objs:List Ob) (K:Res→Option R):Option R:=match sel27 args objs with
 |some l=>(ref05_digit m l).bind fun r=>K ((.dat 9 (.str r)),[])
 |none=>none
noncomputable def ct33 {R:Type} (m:Nat) (args:List AV) (objs:List Ob) (K:Res→Option R):Option R:=match sel21 args objs with
 |some l=>(value_Nodes m l).bind fun r=>K ((.dat 3 (.int r)),[])
 |none=>none
noncomputable def ct34 {R:Type} (m:Nat) (args:List AV) (objs:List Ob) (K:Res→Option R):Option R:=match sel21 args objs with
 |some l=>(value_Depth m l).bind fun r=>K ((.dat 3 (.int r)),[])
 |none=>none
noncomputable def ct65 {R:Type} (m:Nat) (args:List AV) (objs:List Ob) (K:Res→Option R):Option R:=match sel21 args objs with
 |some l=>(value_sound m l).bind fun r=>K ((.dat 4 (.bool r)),[])
 |none=>none
noncomputable def ct105 {R:Type} (m:Nat) (args:List AV) (objs:List Ob) (K:Res→Option R):Option R:=match sel67 args objs with
 |some l=>(ref14_different m l).bind fun r=>K ((.dat 4 (.bool r)),[])
 |none=>none
noncomputable def ct106 {R:Type} (m:Nat) (args:List AV) (objs:List Ob) (K:Res→Option R):Option R:=match sel55 args objs with
 |some l=>(ref14_unused m l.1 l.2).bind fun r=>K ((.dat 4 (.bool r)),[])
 |none=>none
noncomputable def ct107 {R:Type} (m:Nat) (args:List AV) (objs:List Ob) (K:Res→Option R):Option R:=match sel21 args objs with
 |some l=>(ref01_Valid m l).bind fun r=>K ((.dat 4 (.bool r)),[])
 |none=>none
noncomputable def ct62 {R:Type} (m:Nat) (args:List AV) (objs:List Ob) (K:Res→Option R):Option R:=match sel10 args objs with
 |some l=>(value_nodes m l.1 l.2).bind fun r=>K ((.dat 3 (.int r)),[])
 |none=>none
noncomputable def ct63 {R:Type} (m:Nat) (args:List AV) (objs:List Ob) (K:Res→Option R):Option R:=match sel10 args objs with
 |some l=>(value_depth m l.1 l.2).bind fun r=>K ((.dat 3 (.int r)),[])
 |none=>none
noncomputable def ct97 {R:Type} (m:Nat) (args:List AV) (objs:List Ob) (K:Res→Option R):Option R:=match sel54 args objs with
 |some l=>(utf8_ValidString l).bind fun r=>K ((.dat 4 (.bool r)),[])
 |none=>none
noncomputable def ct98 {R:Type} (m:Nat) (args:List AV) (objs:List Ob) (K:Res→Option R):Option R:=match sel73 args objs with
 |some l=>(value_soundFields m l).bind fun r=>K ((.dat 4 (.bool r)),[])
 |none=>none
noncomputable def ct102 {R:Type} (m:Nat) (args:List AV) (objs:List Ob) (K:Res→Option R):Option R:=match sel54 args objs with
 |some l=>(ref01_Name m l).bind fun r=>K ((.dat 4 (.bool r)),[])
 |none=>none
noncomputable def ct26 {R:Type} (m:Nat) (args:List AV) (objs:List Ob) (K:Res→Option R):Option R:=match sel19 args objs with
 |some l=>(ref01_Same m l.1 l.2).bind fun r=>K ((.dat 4 (.bool r)),[])
 |none=>none
noncomputable def ct38 {R:Type} (m:Nat) (args:List AV) (objs:List Ob) (K:Res→Option R):Option R:=match sel21 args objs with
 |some l=>(ref01_Depth m l).bind fun r=>K ((.dat 3 (.int r)),[])
 |none=>none
noncomputable def ct39 {R:Type} (m:Nat) (args:List AV) (objs:List Ob) (K:Res→Option R):Option R:=match sel21 args objs with
 |some l=>(ref01_Nodes m l).bind fun r=>K ((.dat 3 (.int r)),[])
 |none=>none
noncomputable def ct40 {R:Type} (m:Nat) (args:List AV) (objs:List Ob) (K:Res→Option R):Option R:=match sel78 args objs with
 |some l=>(ref01_formed m l.1 l.2).bind fun r=>K ((.dat 4 (.bool r)),[])
 |none=>none
noncomputable def ct94 {R:Type} (m:Nat) (args:List AV) (objs:List Ob) (K:Res→Option R):Option R:=match sel79 args objs with
 |some l=>(i79 m l.1 l.2.1 l.2.2).bind fun r=>K ((.tup []),[(.box 3 (.dat 3 (.int r.1))),(.box 3 (.dat 3 (.int r.2)))])
 |none=>match sel81 args objs with
 |some l=>(i81 m l.1 l.2.1 l.2.2).bind fun r=>K ((.tup []),[(.box 3 (.dat 3 (.int r.1))),(.box 3 (.dat 3 (.int r.2)))])
 |none=>none
noncomputable def ct95 {R:Type} (m:Nat) (args:List AV) (objs:List Ob) (K:Res→Option R):Option R:=match sel80 args objs with
 |some l=>(i80 m l.1 l.2.1 l.2.2).bind fun r=>K ((.dat 4 (.bool r.1)),[(.box 3 (.dat 3 (.int r.2.1))),(.box 3 (.dat 3 (.int r.2.2)))])
 |none=>none
noncomputable def ct96 {R:Type} (m:Nat) (args:List AV) (objs:List Ob) (K:Res→Option R):Option R:=match sel80 args objs with
 |some l=>(i82 m l.1 l.2.1 l.2.2).bind fun r=>K ((.dat 4 (.bool r.1)),[(.box 3 (.dat 3 (.int r.2.1))),(.box 3 (.dat 3 (.int r.2.2)))])
 |none=>none
noncomputable def ct116 {R:Type} (m:Nat) (args:List AV) (objs:List Ob) (K:Res→Option R):Option R:=match sel54 args objs with
 |some l=>(value_isName m l).bind fun r=>K ((.dat 4 (.bool r)),[])
 |none=>none
noncomputable def ct70 {R:Type} (m:Nat) (args:List AV) (objs:List Ob) (K:Res→Option R):Option R:=match sel10 args objs with
 |some l=>(ref01_levels m l.1 l.2).bind fun r=>K ((.dat 3 (.int r)),[])
 |none=>none
noncomputable def ct71 {R:Type} (m:Nat) (args:List AV) (objs:List Ob) (K:Res→Option R):Option R:=match sel10 args objs with
 |some l=>(ref01_count m l.1 l.2).bind fun r=>K ((.dat 3 (.int r)),[])
 |none=>none
noncomputable def ct72 {R:Type} (m:Nat) (args:List AV) (objs:List Ob) (K:Res→Option R):Option R:=match sel54 args objs with
 |some l=>(ref01_UTF8 m l).bind fun r=>K ((.dat 4 (.bool r)),[])
 |none=>none
noncomputable def ct73 {R:Type} (m:Nat) (args:List AV) (objs:List Ob) (K:Res→Option R):Option R:=match sel78 args objs with
 |some l=>(ref01_fields m l.1 l.2).bind fun r=>K ((.dat 4 (.bool r)),[])
 |none=>none
noncomputable def ct100 {R:Type} (m:Nat) (args:List AV) (objs:List Ob) (K:Res→Option R):Option R:=match sel21 args objs with
 |some l=>(ref01_Parts m l).bind fun r=>K ((.dat 22 (.lst r)),[])
 |none=>none
noncomputable def ct101 {R:Type} (m:Nat) (args:List AV) (objs:List Ob) (K:Res→Option R):Option R:=match sel89 args objs with
 |some l=>(ref01_tail m l.1 l.2.1 l.2.2).bind fun r=>K ((.dat 4 (.bool r)),[])
 |none=>none
noncomputable def ct103 {R:Type} (m:Nat) (args:List AV) (objs:List Ob) (K:Res→Option R):Option R:=match sel54 args objs with
 |some l=>(ref01_wide m l).bind fun r=>K ((.dat 4 (.bool r)),[])
 |none=>none
noncomputable def d9 (q:Res):Option Int:=match q with
 |(.dat T0 x0,[])=>bif Nat.beq T0 3 then some x0.toInt else none
 |_=>none
theorem d9_sim {b:Res} {r:Int} (h:d9 b=some r):Sim Tryz.prog b ((.dat 3 (.int r)),[]):=by
 unfold d9 at h
 split at h
 ·obtain⟨hc,h2⟩:=bif_some h
  cases h2
  have e0:=beq_eq hc
  subst e0
  exact Sim.of (.of (.dat (.int Tryz.underlying3)) rfl rfl) .nil
 ·cases h
noncomputable def d13 (q:Res):Option Bool:=match q with
 |(.dat T0 x0,[])=>bif Nat.beq T0 4 then some x0.toBool else none
 |_=>none
theorem d13_sim {b:Res} {r:Bool} (h:d13 b=some r):Sim Tryz.prog b ((.dat 4 (.bool r)),[]):=by
 unfold d13 at h
 split at h
 ·obtain⟨hc,h2⟩:=bif_some h
  cases h2
  have e0:=beq_eq hc
  subst e0
  exact Sim.of (.of (.dat (.bool Tryz.underlying4)) rfl rfl) .nil
 ·cases h
noncomputable def d15 (q:Res):Option (List Dt):=match q with
 |(.dat T0 x0,[])=>bif Nat.beq T0 28 then some x0.toLst else none
 |_=>none
theorem d15_sim {b:Res} {r:List Dt} (h:d15 b=some r):Sim Tryz.prog b ((.dat 28 (.lst r)),[]):=by
 unfold d15 at h
 split at h
 ·obtain⟨hc,h2⟩:=bif_some h
  cases h2
  have e0:=beq_eq hc
  subst e0
  exact Sim.of (.of (.dat (.lst Tryz.underlying28)) rfl rfl) .nil
 ·cases h
noncomputable def d14 (q:Res):Option (List Dt×List Dt):=match q with
 |(.tup [],[.box T0 (.row n1),.gone,.box T2 (.dat T3 x3),.row T4 x4])=>bif (Nat.beq T0 40&&(Nat.beq n1 3&&(Nat.beq T2 28&&(Nat.beq T3 28&&Nat.beq T4 40)))) then some (x3.toLst,x4) else none
 |_=>none
theorem d14_sim {b:Res} {r:List Dt×List Dt} (h:d14 b=some r):Sim Tryz.prog b ((.tup []),[(.box 40 (.row 3)),.gone,(.box 28 (.dat 28 (.lst r.1))),(.row 40 r.2)]):=by
 unfold d14 at h
 split at h
 ·obtain⟨hc,h2⟩:=bif_some h
  cases h2
  have e0:=beq_eq (and_l hc)
  have e1:=beq_eq (and_l (and_r hc))
  have e2:=beq_eq (and_l (and_r (and_r hc)))
  have e3:=beq_eq (and_l (and_r (and_r (and_r hc))))
  have e4:=beq_eq (and_r (and_r (and_r (and_r hc))))
  subst e0 e1 e2 e3 e4
  exact Sim.of (.tup .nil) (.cons (.box .same) (.cons .same (.cons (.box (.dat (.lst Tryz.underlying28))) (.cons .same .nil))))
 ·cases h
noncomputable def d21 (q:Res):Option (Int×Bool):=match q with
 |(.tup [.dat T0 x0,.dat T1 x1],[])=>bif (Nat.beq T0 3&&Nat.beq T1 4) then some (x0.toInt,x1.toBool) else none
 |_=>none
theorem d21_sim {b:Res} {r:Int×Bool} (h:d21 b=some r):Sim Tryz.prog b ((.tup [(.dat 3 (.int r.1)),(.dat 4 (.bool r.2))]),[]):=by
 unfold d21 at h
 split at h
 ·obtain⟨hc,h2⟩:=bif_some h
  cases h2
  have e0:=beq_eq (and_l hc)
  have e1:=beq_eq (and_r hc)
  subst e0 e1
  exact Sim.of (.tup (.cons (.dat (.int Tryz.underlying3)) (.cons (.dat (.bool Tryz.underlying4)) .nil))) .nil
 ·cases h
noncomputable def d22 (q:Res):Option (Dt×Bool):=match q with
 |(.tup [.dat T0 x0,.dat T1 x1],[])=>bif (Nat.beq T0 25&&Nat.beq T1 4) then some (x0,x1.toBool) else none
 |_=>none
theorem d22_sim {b:Res} {r:Dt×Bool} (h:d22 b=some r):Sim Tryz.prog b ((.tup [(.dat 25 r.1),(.dat 4 (.bool r.2))]),[]):=by
 unfold d22 at h
 split at h
 ·obtain⟨hc,h2⟩:=bif_some h
  cases h2
  have e0:=beq_eq (and_l hc)
  have e1:=beq_eq (and_r hc)
  subst e0 e1
  exact Sim.of (.tup (.cons .same (.cons (.dat (.bool Tryz.underlying4)) .nil))) .nil
 ·cases h
noncomputable def d43 (q:Res):Option (List Dt):=match q with
 |(.tup [],[.row T0 x0])=>bif Nat.beq T0 22 then some x0 else none
 |_=>none
theorem d43_sim {b:Res} {r:List Dt} (h:d43 b=some r):Sim Tryz.prog b ((.tup []),[(.row 22 r)]):=by
 unfold d43 at h
 split at h
 ·obtain⟨hc,h2⟩:=bif_some h
  cases h2
  have e0:=beq_eq hc
  subst e0
  exact Sim.of (.tup .nil) (.cons .same .nil)
 ·cases h
noncomputable def d12 (q:Res):Option (List Dt):=match q with
 |(.row n0,[.gone,.row T1 x1])=>bif (Nat.beq n0 1&&Nat.beq T1 40) then some x1 else none
 |_=>none
theorem d12_sim {b:Res} {r:List Dt} (h:d12 b=some r):Sim Tryz.prog b ((.row 1),[.gone,(.row 40 r)]):=by
 unfold d12 at h
 split at h
 ·obtain⟨hc,h2⟩:=bif_some h
  cases h2
  have e0:=beq_eq (and_l hc)
  have e1:=beq_eq (and_r hc)
  subst e0 e1
  exact Sim.of (.of .same rfl rfl) (.cons .same (.cons .same .nil))
 ·cases h
noncomputable def d45 (q:Res):Option (List Dt):=match q with
 |(.row n0,[.row T1 x1])=>bif (Nat.beq n0 0&&Nat.beq T1 40) then some x1 else none
 |_=>none
theorem d45_sim {b:Res} {r:List Dt} (h:d45 b=some r):Sim Tryz.prog b ((.row 0),[(.row 40 r)]):=by
 unfold d45 at h
 split at h
 ·obtain⟨hc,h2⟩:=bif_some h
  cases h2
  have e0:=beq_eq (and_l hc)
  have e1:=beq_eq (and_r hc)
  subst e0 e1
  exact Sim.of (.of .same rfl rfl) (.cons .same .nil)
 ·cases h
noncomputable def d63 (q:Res):Option ByteArray:=match q with
 |(.dat T0 x0,[])=>bif Nat.beq T0 9 then some x0.toStr else none
 |_=>none
theorem d63_sim {b:Res} {r:ByteArray} (h:d63 b=some r):Sim Tryz.prog b ((.dat 9 (.str r)),[]):=by
 unfold d63 at h
 split at h
 ·obtain⟨hc,h2⟩:=bif_some h
  cases h2
  have e0:=beq_eq hc
  subst e0
  exact Sim.of (.of (.dat (.str Tryz.underlying9)) rfl rfl) .nil
 ·cases h
noncomputable def d29 (q:Res):Option (List Dt):=match q with
 |(.dat T0 x0,[])=>bif Nat.beq T0 40 then some x0.toLst else none
 |_=>none
theorem d29_sim {b:Res} {r:List Dt} (h:d29 b=some r):Sim Tryz.prog b ((.dat 40 (.lst r)),[]):=by
 unfold d29 at h
 split at h
 ·obtain⟨hc,h2⟩:=bif_some h
  cases h2
  have e0:=beq_eq hc
  subst e0
  exact Sim.of (.of (.dat (.lst Tryz.underlying40)) rfl rfl) .nil
 ·cases h
noncomputable def d79 (q:Res):Option (Int×Int):=match q with
 |(.tup [],[.box T0 (.dat T1 x1),.box T2 (.dat T3 x3)])=>bif (Nat.beq T0 3&&(Nat.beq T1 3&&(Nat.beq T2 3&&Nat.beq T3 3))) then some (x1.toInt,x3.toInt) else none
 |_=>none
theorem d79_sim {b:Res} {r:Int×Int} (h:d79 b=some r):Sim Tryz.prog b ((.tup []),[(.box 3 (.dat 3 (.int r.1))),(.box 3 (.dat 3 (.int r.2)))]):=by
 unfold d79 at h
 split at h
 ·obtain⟨hc,h2⟩:=bif_some h
  cases h2
  have e0:=beq_eq (and_l hc)
  have e1:=beq_eq (and_l (and_r hc))
  have e2:=beq_eq (and_l (and_r (and_r hc)))
  have e3:=beq_eq (and_r (and_r (and_r hc)))
  subst e0 e1 e2 e3
  exact Sim.of (.tup .nil) (.cons (.box (.dat (.int Tryz.underlying3))) (.cons (.box (.dat (.int Tryz.underlying3))) .nil))
 ·cases h
noncomputable def d80 (q:Res):Option (Bool×Int×Int):=match q with
 |(.dat T0 x0,[.box T1 (.dat T2 x2),.box T3 (.dat T4 x4)])=>bif (Nat.beq T0 4&&(Nat.beq T1 3&&(Nat.beq T2 3&&(Nat.beq T3 3&&Nat.beq T4 3)))) then some (x0.toBool,x2.toInt,x4.toInt) else none
 |_=>none
theorem d80_sim {b:Res} {r:Bool×Int×Int} (h:d80 b=some r):Sim Tryz.prog b ((.dat 4 (.bool r.1)),[(.box 3 (.dat 3 (.int r.2.1))),(.box 3 (.dat 3 (.int r.2.2)))]):=by
 unfold d80 at h
 split at h
 ·obtain⟨hc,h2⟩:=bif_some h
  cases h2
  have e0:=beq_eq (and_l hc)
  have e1:=beq_eq (and_l (and_r hc))
  have e2:=beq_eq (and_l (and_r (and_r hc)))
  have e3:=beq_eq (and_l (and_r (and_r (and_r hc))))
  have e4:=beq_eq (and_r (and_r (and_r (and_r hc))))
  subst e0 e1 e2 e3 e4
  exact Sim.of (.of (.dat (.bool Tryz.underlying4)) rfl rfl) (.cons (.box (.dat (.int Tryz.underlying3))) (.cons (.box (.dat (.int Tryz.underlying3))) .nil))
 ·cases h
noncomputable def d33 (q:Res):Option Int:=match q with
 |(.dat T0 x0,[])=>bif Nat.beq T0 33 then some x0.toInt else none
 |_=>none
theorem d33_sim {b:Res} {r:Int} (h:d33 b=some r):Sim Tryz.prog b ((.dat 33 (.int r)),[]):=by
 unfold d33 at h
 split at h
 ·obtain⟨hc,h2⟩:=bif_some h
  cases h2
  have e0:=beq_eq hc
  subst e0
  exact Sim.of (.of (.dat (.int Tryz.underlying33)) rfl rfl) .nil
 ·cases h
noncomputable def d32 (q:Res):Option (Int×Int):=match q with
 |(.dat T0 x0,[.box T1 (.dat T2 x2)])=>bif (Nat.beq T0 33&&(Nat.beq T1 3&&Nat.beq T2 3)) then some (x0.toInt,x2.toInt) else none
 |_=>none
theorem d32_sim {b:Res} {r:Int×Int} (h:d32 b=some r):Sim Tryz.prog b ((.dat 33 (.int r.1)),[(.box 3 (.dat 3 (.int r.2)))]):=by
 unfold d32 at h
 split at h
 ·obtain⟨hc,h2⟩:=bif_some h
  cases h2
  have e0:=beq_eq (and_l hc)
  have e1:=beq_eq (and_l (and_r hc))
  have e2:=beq_eq (and_r (and_r hc))
  subst e0 e1 e2
  exact Sim.of (.of (.dat (.int Tryz.underlying33)) rfl rfl) (.cons (.box (.dat (.int Tryz.underlying3))) .nil)
 ·cases h
noncomputable def d7 (q:Res):Option (Int×List Dt):=match q with
 |(.tup [.dat T0 x0,.dat T1 x1],[])=>bif (Nat.beq T0 33&&Nat.beq T1 40) then some (x0.toInt,x1.toLst) else none
 |_=>none
theorem d7_sim {b:Res} {r:Int×List Dt} (h:d7 b=some r):Sim Tryz.prog b ((.tup [(.dat 33 (.int r.1)),(.dat 40 (.lst r.2))]),[]):=by
 unfold d7 at h
 split at h
 ·obtain⟨hc,h2⟩:=bif_some h
  cases h2
  have e0:=beq_eq (and_l hc)
  have e1:=beq_eq (and_r hc)
  subst e0 e1
  exact Sim.of (.tup (.cons (.dat (.int Tryz.underlying33)) (.cons (.dat (.lst Tryz.underlying40)) .nil))) .nil
 ·cases h
noncomputable def d88 (q:Res):Option (List Dt):=match q with
 |(.dat T0 x0,[])=>bif Nat.beq T0 22 then some x0.toLst else none
 |_=>none
theorem d88_sim {b:Res} {r:List Dt} (h:d88 b=some r):Sim Tryz.prog b ((.dat 22 (.lst r)),[]):=by
 unfold d88 at h
 split at h
 ·obtain⟨hc,h2⟩:=bif_some h
  cases h2
  have e0:=beq_eq hc
  subst e0
  exact Sim.of (.of (.dat (.lst Tryz.underlying22)) rfl rfl) .nil
 ·cases h
noncomputable def d44 (q:Res):Option (Int×Int):=match q with
 |(.tup [.dat T0 x0,.dat T1 x1],[])=>bif (Nat.beq T0 3&&Nat.beq T1 33) then some (x0.toInt,x1.toInt) else none
 |_=>none
theorem d44_sim {b:Res} {r:Int×Int} (h:d44 b=some r):Sim Tryz.prog b ((.tup [(.dat 3 (.int r.1)),(.dat 33 (.int r.2))]),[]):=by
 unfold d44 at h
 split at h
 ·obtain⟨hc,h2⟩:=bif_some h
  cases h2
  have e0:=beq_eq (and_l hc)
  have e1:=beq_eq (and_r hc)
  subst e0 e1
  exact Sim.of (.tup (.cons (.dat (.int Tryz.underlying3)) (.cons (.dat (.int Tryz.underlying33)) .nil))) .nil
 ·cases h
noncomputable def ct {R:Type} (m:Nat) (f:FuncId) (args:List AV) (objs:List Ob) (K:Res→Option R):Option R:=
 bif Nat.beq f 4 then ct4 m args objs K else
 bif Nat.beq f 5 then ct5 m args objs K else
 bif Nat.beq f 11 then ct11 m args objs K else
 bif Nat.beq f 7 then ct7 m args objs K else
 bif Nat.beq f 13 then ct13 m args objs K else
 bif Nat.beq f 14 then ct14 m args objs K else
 bif Nat.beq f 12 then ct12 m args objs K else
 bif Nat.beq f 15 then ct15 m args objs K else
 bif Nat.beq f 16 then ct16 m args objs K else
 bif Nat.beq f 29 then ct29 m args objs K else
 bif Nat.beq f 6 then ct6 m args objs K else
 bif Nat.beq f 20 then ct20 m args objs K else
 bif Nat.beq f 30 then ct30 m args objs K else
 bif Nat.beq f 48 then ct48 m args objs K else
 bif Nat.beq f 44 then ct44 m args objs K else
 bif Nat.beq f 45 then ct45 m args objs K else
 bif Nat.beq f 49 then ct49 m args objs K else
 bif Nat.beq f 79 then ct79 m args objs K else
 bif Nat.beq f 46 then ct46 m args objs K else
 bif Nat.beq f 47 then ct47 m args objs K else
 bif Nat.beq f 50 then ct50 m args objs K else
 bif Nat.beq f 51 then ct51 m args objs K else
 bif Nat.beq f 52 then ct52 m args objs K else
 bif Nat.beq f 54 then ct54 m args objs K else
 bif Nat.beq f 82 then ct82 m args objs K else
 bif Nat.beq f 53 then ct53 m args objs K else
 bif Nat.beq f 55 then ct55 m args objs K else
 bif Nat.beq f 56 then ct56 m args objs K else
 bif Nat.beq f 25 then ct25 m args objs K else
 bif Nat.beq f 31 then ct31 m args objs K else
 bif Nat.beq f 28 then ct28 m args objs K else
 bif Nat.beq f 17 then ct17 m args objs K else
 bif Nat.beq f 32 then ct32 m args objs K else
 bif Nat.beq f 61 then ct61 m args objs K else
 bif Nat.beq f 78 then ct78 m args objs K else
 bif Nat.beq f 80 then ct80 m args objs K else
 bif Nat.beq f 81 then ct81 m args objs K else
 bif Nat.beq f 83 then ct83 m args objs K else
 bif Nat.beq f 84 then ct84 m args objs K else
 bif Nat.beq f 110 then ct110 m args objs K else
 bif Nat.beq f 118 then ct118 m args objs K else
 bif Nat.beq f 119 then ct119 m args objs K else
 bif Nat.beq f 124 then ct124 m args objs K else
 bif Nat.beq f 130 then ct130 m args objs K else
 bif Nat.beq f 42 then ct42 m args objs K else
 bif Nat.beq f 57 then ct57 m args objs K else
 bif Nat.beq f 86 then ct86 m args objs K else
 bif Nat.beq f 87 then ct87 m args objs K else
 bif Nat.beq f 88 then ct88 m args objs K else
 bif Nat.beq f 58 then ct58 m args objs K else
 bif Nat.beq f 59 then ct59 m args objs K else
 bif Nat.beq f 89 then ct89 m args objs K else
 bif Nat.beq f 60 then ct60 m args objs K else
 bif Nat.beq f 43 then ct43 m args objs K else
 bif Nat.beq f 92 then ct92 m args objs K else
 bif Nat.beq f 93 then ct93 m args objs K else
 bif Nat.beq f 36 then ct36 m args objs K else
 bif Nat.beq f 108 then ct108 m args objs K else
 bif Nat.beq f 77 then ct77 m args objs K else
 bif Nat.beq f 112 then ct112 m args objs K else
 bif Nat.beq f 113 then ct113 m args objs K else
 bif Nat.beq f 114 then ct114 m args objs K else
 bif Nat.beq f 90 then ct90 m args objs K else
 bif Nat.beq f 91 then ct91 m args objs K else
 bif Nat.beq f 33 then ct33 m args objs K else
 bif Nat.beq f 34 then ct34 m args objs K else
 bif Nat.beq f 65 then ct65 m args objs K else
 bif Nat.beq f 105 then ct105 m args objs K else
 bif Nat.beq f 106 then ct106 m args objs K else
 bif Nat.beq f 107 then ct107 m args objs K else
 bif Nat.beq f 62 then ct62 m args objs K else
 bif Nat.beq f 63 then ct63 m args objs K else
 bif Nat.beq f 97 then ct97 m args objs K else
 bif Nat.beq f 98 then ct98 m args objs K else
 bif Nat.beq f 102 then ct102 m args objs K else
 bif Nat.beq f 26 then ct26 m args objs K else
 bif Nat.beq f 38 then ct38 m args objs K else
 bif Nat.beq f 39 then ct39 m args objs K else
 bif Nat.beq f 40 then ct40 m args objs K else
 bif Nat.beq f 94 then ct94 m args objs K else
 bif Nat.beq f 95 then ct95 m args objs K else
 bif Nat.beq f 96 then ct96 m args objs K else
 bif Nat.beq f 116 then ct116 m args objs K else
 bif Nat.beq f 70 then ct70 m args objs K else
 bif Nat.beq f 71 then ct71 m args objs K else
 bif Nat.beq f 72 then ct72 m args objs K else
 bif Nat.beq f 73 then ct73 m args objs K else
 bif Nat.beq f 100 then ct100 m args objs K else
 bif Nat.beq f 101 then ct101 m args objs K else
 bif Nat.beq f 103 then ct103 m args objs K else
 none
end Go.Proofs.YtfneddmmeadacaaGreatDoor
