/- Generated: the functions as contracts for their callers. -/
import Derived.Test.YtfneddmmeadacaaDoorSh
import Derived.Test.YtfneddmmeadacaaDoorProg
set_option linter.unusedVariables false
set_option linter.unusedSimpArgs false
namespace Go.Proofs.YtfneddmmeadacaaDoor
open Go.Am
def sel0 (args:List AV) (objs:List Ob):Option (Dt×Dt):=match args,objs with
 | [.dat T0 x0,.dat T1 x1],[]=>bif (Nat.beq T0 30&&Nat.beq T1 25) then some (x0,x1) else none
 |_,_=>none
theorem sel0_ok {args:List AV} {objs:List Ob} {l:Dt×Dt} (h:sel0 args objs=some l):CnA Tryd.prog args [(.dat 30 l.1),(.dat 25 l.2)]∧CnOL Tryd.prog objs []:=by
 unfold sel0 at h
 split at h
 ·obtain⟨hc,h2⟩:=bif_some h
  cases h2
  have e0:=beq_eq (and_l hc)
  have e1:=beq_eq (and_r hc)
  subst e0 e1
  exact⟨(.cons (.of .same rfl rfl) (.cons (.of .same rfl rfl) .nil)),.nil⟩
 ·cases h
def sel1 (args:List AV) (objs:List Ob):Option (Dt×Dt):=match args,objs with
 | [.dat T0 x0,.dat T1 x1],[]=>bif (Nat.beq T0 30&&Nat.beq T1 25) then some (x0,x1) else none
 |_,_=>none
theorem sel1_ok {args:List AV} {objs:List Ob} {l:Dt×Dt} (h:sel1 args objs=some l):CnA Tryd.prog args [(.dat 30 l.1),(.dat 25 l.2)]∧CnOL Tryd.prog objs []:=by
 unfold sel1 at h
 split at h
 ·obtain⟨hc,h2⟩:=bif_some h
  cases h2
  have e0:=beq_eq (and_l hc)
  have e1:=beq_eq (and_r hc)
  subst e0 e1
  exact⟨(.cons (.of .same rfl rfl) (.cons (.of .same rfl rfl) .nil)),.nil⟩
 ·cases h
def sel2 (args:List AV) (objs:List Ob):Option Unit:=match args,objs with
 | [],[]=>bif true then some () else none
 |_,_=>none
theorem sel2_ok {args:List AV} {objs:List Ob} {l:Unit} (h:sel2 args objs=some l):CnA Tryd.prog args []∧CnOL Tryd.prog objs []:=by
 unfold sel2 at h
 split at h
 ·obtain⟨hc,h2⟩:=bif_some h
  cases h2
  exact⟨.nil,.nil⟩
 ·cases h
def sel3 (args:List AV) (objs:List Ob):Option (Dt×Dt):=match args,objs with
 | [.dat T0 x0,.dat T1 x1],[]=>bif (Nat.beq T0 30&&Nat.beq T1 25) then some (x0,x1) else none
 |_,_=>none
theorem sel3_ok {args:List AV} {objs:List Ob} {l:Dt×Dt} (h:sel3 args objs=some l):CnA Tryd.prog args [(.dat 30 l.1),(.dat 25 l.2)]∧CnOL Tryd.prog objs []:=by
 unfold sel3 at h
 split at h
 ·obtain⟨hc,h2⟩:=bif_some h
  cases h2
  have e0:=beq_eq (and_l hc)
  have e1:=beq_eq (and_r hc)
  subst e0 e1
  exact⟨(.cons (.of .same rfl rfl) (.cons (.of .same rfl rfl) .nil)),.nil⟩
 ·cases h
def sel4 (args:List AV) (objs:List Ob):Option (Dt×List Dt):=match args,objs with
 | [.dat T0 x0,.dat T1 x1],[]=>bif (Nat.beq T0 25&&Nat.beq T1 26) then some (x0,x1.toLst) else none
 |_,_=>none
theorem sel4_ok {args:List AV} {objs:List Ob} {l:Dt×List Dt} (h:sel4 args objs=some l):CnA Tryd.prog args [(.dat 25 l.1),(.dat 26 (.lst l.2))]∧CnOL Tryd.prog objs []:=by
 unfold sel4 at h
 split at h
 ·obtain⟨hc,h2⟩:=bif_some h
  cases h2
  have e0:=beq_eq (and_l hc)
  have e1:=beq_eq (and_r hc)
  subst e0 e1
  exact⟨(.cons (.of .same rfl rfl) (.cons (.of (.dat (.lst Tryd.underlying26)) rfl rfl) .nil)),.nil⟩
 ·cases h
def sel5 (args:List AV) (objs:List Ob):Option Dt:=match args,objs with
 | [.dat T0 x0],[]=>bif Nat.beq T0 30 then some x0 else none
 |_,_=>none
theorem sel5_ok {args:List AV} {objs:List Ob} {l:Dt} (h:sel5 args objs=some l):CnA Tryd.prog args [(.dat 30 l)]∧CnOL Tryd.prog objs []:=by
 unfold sel5 at h
 split at h
 ·obtain⟨hc,h2⟩:=bif_some h
  cases h2
  have e0:=beq_eq hc
  subst e0
  exact⟨(.cons (.of .same rfl rfl) .nil),.nil⟩
 ·cases h
def sel6 (args:List AV) (objs:List Ob):Option Dt:=match args,objs with
 | [.dat T0 x0],[]=>bif Nat.beq T0 25 then some x0 else none
 |_,_=>none
theorem sel6_ok {args:List AV} {objs:List Ob} {l:Dt} (h:sel6 args objs=some l):CnA Tryd.prog args [(.dat 25 l)]∧CnOL Tryd.prog objs []:=by
 unfold sel6 at h
 split at h
 ·obtain⟨hc,h2⟩:=bif_some h
  cases h2
  have e0:=beq_eq hc
  subst e0
  exact⟨(.cons (.of .same rfl rfl) .nil),.nil⟩
 ·cases h
def sel7 (args:List AV) (objs:List Ob):Option (Dt×Int):=match args,objs with
 | [.dat T0 x0,.dat T1 x1],[]=>bif (Nat.beq T0 30&&Nat.beq T1 3) then some (x0,x1.toInt) else none
 |_,_=>none
theorem sel7_ok {args:List AV} {objs:List Ob} {l:Dt×Int} (h:sel7 args objs=some l):CnA Tryd.prog args [(.dat 30 l.1),(.dat 3 (.int l.2))]∧CnOL Tryd.prog objs []:=by
 unfold sel7 at h
 split at h
 ·obtain⟨hc,h2⟩:=bif_some h
  cases h2
  have e0:=beq_eq (and_l hc)
  have e1:=beq_eq (and_r hc)
  subst e0 e1
  exact⟨(.cons (.of .same rfl rfl) (.cons (.of (.dat (.int Tryd.underlying3)) rfl rfl) .nil)),.nil⟩
 ·cases h
def sel8 (args:List AV) (objs:List Ob):Option (Dt×Int):=match args,objs with
 | [.dat T0 x0,.dat T1 x1],[]=>bif (Nat.beq T0 25&&Nat.beq T1 3) then some (x0,x1.toInt) else none
 |_,_=>none
theorem sel8_ok {args:List AV} {objs:List Ob} {l:Dt×Int} (h:sel8 args objs=some l):CnA Tryd.prog args [(.dat 25 l.1),(.dat 3 (.int l.2))]∧CnOL Tryd.prog objs []:=by
 unfold sel8 at h
 split at h
 ·obtain⟨hc,h2⟩:=bif_some h
  cases h2
  have e0:=beq_eq (and_l hc)
  have e1:=beq_eq (and_r hc)
  subst e0 e1
  exact⟨(.cons (.of .same rfl rfl) (.cons (.of (.dat (.int Tryd.underlying3)) rfl rfl) .nil)),.nil⟩
 ·cases h
def sel9 (args:List AV) (objs:List Ob):Option (Dt×Dt×List Dt×List Dt):=match args,objs with
 | [.row n0,.dat T1 x1,.dat T2 x2,.row n3],[.row T4 x4,.row T5 x5]=>bif (Nat.beq n0 0&&(Nat.beq T1 30&&(Nat.beq T2 25&&(Nat.beq n3 1&&(Nat.beq T4 38&&Nat.beq T5 26))))) then some (x1,x2,x4,x5) else none
 |_,_=>none
theorem sel9_ok {args:List AV} {objs:List Ob} {l:Dt×Dt×List Dt×List Dt} (h:sel9 args objs=some l):CnA Tryd.prog args [(.row 0),(.dat 30 l.1),(.dat 25 l.2.1),(.row 1)]∧CnOL Tryd.prog objs [(.row 38 l.2.2.1),(.row 26 l.2.2.2)]:=by
 unfold sel9 at h
 split at h
 ·obtain⟨hc,h2⟩:=bif_some h
  cases h2
  have e0:=beq_eq (and_l hc)
  have e1:=beq_eq (and_l (and_r hc))
  have e2:=beq_eq (and_l (and_r (and_r hc)))
  have e3:=beq_eq (and_l (and_r (and_r (and_r hc))))
  have e4:=beq_eq (and_l (and_r (and_r (and_r (and_r hc)))))
  have e5:=beq_eq (and_r (and_r (and_r (and_r (and_r hc)))))
  subst e0 e1 e2 e3 e4 e5
  exact⟨(.cons (.of .same rfl rfl) (.cons (.of .same rfl rfl) (.cons (.of .same rfl rfl) (.cons (.of .same rfl rfl) .nil)))),(.cons .same (.cons .same .nil))⟩
 ·cases h
def sel10 (args:List AV) (objs:List Ob):Option (Int×Int):=match args,objs with
 | [.dat T0 x0,.dat T1 x1],[]=>bif (Nat.beq T0 3&&Nat.beq T1 3) then some (x0.toInt,x1.toInt) else none
 |_,_=>none
theorem sel10_ok {args:List AV} {objs:List Ob} {l:Int×Int} (h:sel10 args objs=some l):CnA Tryd.prog args [(.dat 3 (.int l.1)),(.dat 3 (.int l.2))]∧CnOL Tryd.prog objs []:=by
 unfold sel10 at h
 split at h
 ·obtain⟨hc,h2⟩:=bif_some h
  cases h2
  have e0:=beq_eq (and_l hc)
  have e1:=beq_eq (and_r hc)
  subst e0 e1
  exact⟨(.cons (.of (.dat (.int Tryd.underlying3)) rfl rfl) (.cons (.of (.dat (.int Tryd.underlying3)) rfl rfl) .nil)),.nil⟩
 ·cases h
def sel11 (args:List AV) (objs:List Ob):Option (Bool×Int×List Dt×List Dt×List Dt):=match args,objs with
 | [.dat T0 x0,.dat T1 x1,.dat T2 x2,.ptr n3 p3 o3,.ptr n4 p4 o4],[.box T5 (.row n6),.row T7 x7,.box T8 (.row n9),.row T10 x10]=>bif (Nat.beq T0 4&&(Nat.beq T1 3&&(Nat.beq T2 26&&(Nat.beq n3 0&&(natsB p3 []&&(Nat.beq o3 0&&(Nat.beq n4 2&&(natsB p4 []&&(Nat.beq o4 0&&(Nat.beq T5 38&&(Nat.beq n6 1&&(Nat.beq T7 38&&(Nat.beq T8 26&&(Nat.beq n9 3&&Nat.beq T10 26)))))))))))))) then some (x0.toBool,x1.toInt,x2.toLst,x7,x10) else none
 |_,_=>none
theorem sel11_ok {args:List AV} {objs:List Ob} {l:Bool×Int×List Dt×List Dt×List Dt} (h:sel11 args objs=some l):CnA Tryd.prog args [(.dat 4 (.bool l.1)),(.dat 3 (.int l.2.1)),(.dat 26 (.lst l.2.2.1)),(.ptr 0 [] 0),(.ptr 2 [] 0)]∧CnOL Tryd.prog objs [(.box 38 (.row 1)),(.row 38 l.2.2.2.1),(.box 26 (.row 3)),(.row 26 l.2.2.2.2)]:=by
 unfold sel11 at h
 split at h
 ·obtain⟨hc,h2⟩:=bif_some h
  cases h2
  have e0:=beq_eq (and_l hc)
  have e1:=beq_eq (and_l (and_r hc))
  have e2:=beq_eq (and_l (and_r (and_r hc)))
  have e3:=beq_eq (and_l (and_r (and_r (and_r hc))))
  have e4:=natsB_eq (and_l (and_r (and_r (and_r (and_r hc)))))
  have e5:=beq_eq (and_l (and_r (and_r (and_r (and_r (and_r hc))))))
  have e6:=beq_eq (and_l (and_r (and_r (and_r (and_r (and_r (and_r hc)))))))
  have e7:=natsB_eq (and_l (and_r (and_r (and_r (and_r (and_r (and_r (and_r hc))))))))
  have e8:=beq_eq (and_l (and_r (and_r (and_r (and_r (and_r (and_r (and_r (and_r hc)))))))))
  have e9:=beq_eq (and_l (and_r (and_r (and_r (and_r (and_r (and_r (and_r (and_r (and_r hc))))))))))
  have e10:=beq_eq (and_l (and_r (and_r (and_r (and_r (and_r (and_r (and_r (and_r (and_r (and_r hc)))))))))))
  have e11:=beq_eq (and_l (and_r (and_r (and_r (and_r (and_r (and_r (and_r (and_r (and_r (and_r (and_r hc))))))))))))
  have e12:=beq_eq (and_l (and_r (and_r (and_r (and_r (and_r (and_r (and_r (and_r (and_r (and_r (and_r (and_r hc)))))))))))))
  have e13:=beq_eq (and_l (and_r (and_r (and_r (and_r (and_r (and_r (and_r (and_r (and_r (and_r (and_r (and_r (and_r hc))))))))))))))
  have e14:=beq_eq (and_r (and_r (and_r (and_r (and_r (and_r (and_r (and_r (and_r (and_r (and_r (and_r (and_r (and_r hc))))))))))))))
  subst e0 e1 e2 e3 e4 e5 e6 e7 e8 e9 e10 e11 e12 e13 e14
  exact⟨(.cons (.of (.dat (.bool Tryd.underlying4)) rfl rfl) (.cons (.of (.dat (.int Tryd.underlying3)) rfl rfl) (.cons (.of (.dat (.lst Tryd.underlying26)) rfl rfl) (.cons (.of .same rfl rfl) (.cons (.of .same rfl rfl) .nil))))),(.cons (.box .same) (.cons .same (.cons (.box .same) (.cons .same .nil))))⟩
 ·cases h
def sel12 (args:List AV) (objs:List Ob):Option (List Dt):=match args,objs with
 | [.dat T0 x0],[]=>bif Nat.beq T0 94 then some x0.toLst else none
 |_,_=>none
theorem sel12_ok {args:List AV} {objs:List Ob} {l:List Dt} (h:sel12 args objs=some l):CnA Tryd.prog args [(.dat 94 (.lst l))]∧CnOL Tryd.prog objs []:=by
 unfold sel12 at h
 split at h
 ·obtain⟨hc,h2⟩:=bif_some h
  cases h2
  have e0:=beq_eq hc
  subst e0
  exact⟨(.cons (.of (.dat (.lst Tryd.underlying94)) rfl rfl) .nil),.nil⟩
 ·cases h
def sel13 (args:List AV) (objs:List Ob):Option (List Dt×Dt):=match args,objs with
 | [.dat T0 x0,.fn T1 [.rptr T2 x2]],[]=>bif (Nat.beq T0 22&&(Nat.beq T1 39&&Nat.beq T2 25)) then some (x0.toLst,x2) else none
 |_,_=>none
theorem sel13_ok {args:List AV} {objs:List Ob} {l:List Dt×Dt} (h:sel13 args objs=some l):CnA Tryd.prog args [(.dat 22 (.lst l.1)),(.fn 39 [(.rptr 25 l.2)])]∧CnOL Tryd.prog objs []:=by
 unfold sel13 at h
 split at h
 ·obtain⟨hc,h2⟩:=bif_some h
  cases h2
  have e0:=beq_eq (and_l hc)
  have e1:=beq_eq (and_l (and_r hc))
  have e2:=beq_eq (and_r (and_r hc))
  subst e0 e1 e2
  exact⟨(.cons (.of (.dat (.lst Tryd.underlying22)) rfl rfl) (.cons (.of (.fn (.cons .same .nil)) rfl rfl) .nil)),.nil⟩
 ·cases h
def sel14 (args:List AV) (objs:List Ob):Option (List Dt×Dt):=match args,objs with
 | [.dat T0 x0,.fn T1 [.rptr T2 x2]],[]=>bif (Nat.beq T0 22&&(Nat.beq T1 39&&Nat.beq T2 25)) then some (x0.toLst,x2) else none
 |_,_=>none
theorem sel14_ok {args:List AV} {objs:List Ob} {l:List Dt×Dt} (h:sel14 args objs=some l):CnA Tryd.prog args [(.dat 22 (.lst l.1)),(.fn 39 [(.rptr 25 l.2)])]∧CnOL Tryd.prog objs []:=by
 unfold sel14 at h
 split at h
 ·obtain⟨hc,h2⟩:=bif_some h
  cases h2
  have e0:=beq_eq (and_l hc)
  have e1:=beq_eq (and_l (and_r hc))
  have e2:=beq_eq (and_r (and_r hc))
  subst e0 e1 e2
  exact⟨(.cons (.of (.dat (.lst Tryd.underlying22)) rfl rfl) (.cons (.of (.fn (.cons .same .nil)) rfl rfl) .nil)),.nil⟩
 ·cases h
def sel15 (args:List AV) (objs:List Ob):Option (Dt×Dt):=match args,objs with
 | [.dat T0 x0,.rptr T1 x1],[]=>bif (Nat.beq T0 25&&Nat.beq T1 25) then some (x0,x1) else none
 |_,_=>none
theorem sel15_ok {args:List AV} {objs:List Ob} {l:Dt×Dt} (h:sel15 args objs=some l):CnA Tryd.prog args [(.dat 25 l.1),(.rptr 25 l.2)]∧CnOL Tryd.prog objs []:=by
 unfold sel15 at h
 split at h
 ·obtain⟨hc,h2⟩:=bif_some h
  cases h2
  have e0:=beq_eq (and_l hc)
  have e1:=beq_eq (and_r hc)
  subst e0 e1
  exact⟨(.cons (.of .same rfl rfl) (.cons (.of .same rfl rfl) .nil)),.nil⟩
 ·cases h
def sel16 (args:List AV) (objs:List Ob):Option (Dt×Dt):=match args,objs with
 | [.dat T0 x0,.dat T1 x1],[]=>bif (Nat.beq T0 25&&Nat.beq T1 25) then some (x0,x1) else none
 |_,_=>none
theorem sel16_ok {args:List AV} {objs:List Ob} {l:Dt×Dt} (h:sel16 args objs=some l):CnA Tryd.prog args [(.dat 25 l.1),(.dat 25 l.2)]∧CnOL Tryd.prog objs []:=by
 unfold sel16 at h
 split at h
 ·obtain⟨hc,h2⟩:=bif_some h
  cases h2
  have e0:=beq_eq (and_l hc)
  have e1:=beq_eq (and_r hc)
  subst e0 e1
  exact⟨(.cons (.of .same rfl rfl) (.cons (.of .same rfl rfl) .nil)),.nil⟩
 ·cases h
def sel17 (args:List AV) (objs:List Ob):Option (Bool×Int×List Dt×List Dt×List Dt):=match args,objs with
 | [.dat T0 x0,.dat T1 x1,.dat T2 x2,.ptr n3 p3 o3,.ptr n4 p4 o4],[.box T5 (.row n6),.row T7 x7,.box T8 (.dat T9 x9)]=>bif (Nat.beq T0 4&&(Nat.beq T1 3&&(Nat.beq T2 26&&(Nat.beq n3 0&&(natsB p3 []&&(Nat.beq o3 0&&(Nat.beq n4 2&&(natsB p4 []&&(Nat.beq o4 0&&(Nat.beq T5 38&&(Nat.beq n6 1&&(Nat.beq T7 38&&(Nat.beq T8 26&&Nat.beq T9 26))))))))))))) then some (x0.toBool,x1.toInt,x2.toLst,x7,x9.toLst) else none
 |_,_=>none
theorem sel17_ok {args:List AV} {objs:List Ob} {l:Bool×Int×List Dt×List Dt×List Dt} (h:sel17 args objs=some l):CnA Tryd.prog args [(.dat 4 (.bool l.1)),(.dat 3 (.int l.2.1)),(.dat 26 (.lst l.2.2.1)),(.ptr 0 [] 0),(.ptr 2 [] 0)]∧CnOL Tryd.prog objs [(.box 38 (.row 1)),(.row 38 l.2.2.2.1),(.box 26 (.dat 26 (.lst l.2.2.2.2)))]:=by
 unfold sel17 at h
 split at h
 ·obtain⟨hc,h2⟩:=bif_some h
  cases h2
  have e0:=beq_eq (and_l hc)
  have e1:=beq_eq (and_l (and_r hc))
  have e2:=beq_eq (and_l (and_r (and_r hc)))
  have e3:=beq_eq (and_l (and_r (and_r (and_r hc))))
  have e4:=natsB_eq (and_l (and_r (and_r (and_r (and_r hc)))))
  have e5:=beq_eq (and_l (and_r (and_r (and_r (and_r (and_r hc))))))
  have e6:=beq_eq (and_l (and_r (and_r (and_r (and_r (and_r (and_r hc)))))))
  have e7:=natsB_eq (and_l (and_r (and_r (and_r (and_r (and_r (and_r (and_r hc))))))))
  have e8:=beq_eq (and_l (and_r (and_r (and_r (and_r (and_r (and_r (and_r (and_r hc)))))))))
  have e9:=beq_eq (and_l (and_r (and_r (and_r (and_r (and_r (and_r (and_r (and_r (and_r hc))))))))))
  have e10:=beq_eq (and_l (and_r (and_r (and_r (and_r (and_r (and_r (and_r (and_r (and_r (and_r hc)))))))))))
  have e11:=beq_eq (and_l (and_r (and_r (and_r (and_r (and_r (and_r (and_r (and_r (and_r (and_r (and_r hc))))))))))))
  have e12:=beq_eq (and_l (and_r (and_r (and_r (and_r (and_r (and_r (and_r (and_r (and_r (and_r (and_r (and_r hc)))))))))))))
  have e13:=beq_eq (and_r (and_r (and_r (and_r (and_r (and_r (and_r (and_r (and_r (and_r (and_r (and_r (and_r hc)))))))))))))
  subst e0 e1 e2 e3 e4 e5 e6 e7 e8 e9 e10 e11 e12 e13
  exact⟨(.cons (.of (.dat (.bool Tryd.underlying4)) rfl rfl) (.cons (.of (.dat (.int Tryd.underlying3)) rfl rfl) (.cons (.of (.dat (.lst Tryd.underlying26)) rfl rfl) (.cons (.of .same rfl rfl) (.cons (.of .same rfl rfl) .nil))))),(.cons (.box .same) (.cons .same (.cons (.box (.dat (.lst Tryd.underlying26))) .nil)))⟩
 ·cases h
def sel18 (args:List AV) (objs:List Ob):Option (Dt×Dt):=match args,objs with
 | [.dat T0 x0,.dat T1 x1],[]=>bif (Nat.beq T0 25&&Nat.beq T1 25) then some (x0,x1) else none
 |_,_=>none
theorem sel18_ok {args:List AV} {objs:List Ob} {l:Dt×Dt} (h:sel18 args objs=some l):CnA Tryd.prog args [(.dat 25 l.1),(.dat 25 l.2)]∧CnOL Tryd.prog objs []:=by
 unfold sel18 at h
 split at h
 ·obtain⟨hc,h2⟩:=bif_some h
  cases h2
  have e0:=beq_eq (and_l hc)
  have e1:=beq_eq (and_r hc)
  subst e0 e1
  exact⟨(.cons (.of .same rfl rfl) (.cons (.of .same rfl rfl) .nil)),.nil⟩
 ·cases h
def sel19 (args:List AV) (objs:List Ob):Option Dt:=match args,objs with
 | [.dat T0 x0],[]=>bif Nat.beq T0 25 then some x0 else none
 |_,_=>none
theorem sel19_ok {args:List AV} {objs:List Ob} {l:Dt} (h:sel19 args objs=some l):CnA Tryd.prog args [(.dat 25 l)]∧CnOL Tryd.prog objs []:=by
 unfold sel19 at h
 split at h
 ·obtain⟨hc,h2⟩:=bif_some h
  cases h2
  have e0:=beq_eq hc
  subst e0
  exact⟨(.cons (.of .same rfl rfl) .nil),.nil⟩
 ·cases h
def sel20 (args:List AV) (objs:List Ob):Option (Dt×ByteArray):=match args,objs with
 | [.dat T0 x0,.dat T1 x1],[]=>bif (Nat.beq T0 25&&Nat.beq T1 9) then some (x0,x1.toStr) else none
 |_,_=>none
theorem sel20_ok {args:List AV} {objs:List Ob} {l:Dt×ByteArray} (h:sel20 args objs=some l):CnA Tryd.prog args [(.dat 25 l.1),(.dat 9 (.str l.2))]∧CnOL Tryd.prog objs []:=by
 unfold sel20 at h
 split at h
 ·obtain⟨hc,h2⟩:=bif_some h
  cases h2
  have e0:=beq_eq (and_l hc)
  have e1:=beq_eq (and_r hc)
  subst e0 e1
  exact⟨(.cons (.of .same rfl rfl) (.cons (.of (.dat (.str Tryd.underlying9)) rfl rfl) .nil)),.nil⟩
 ·cases h
def sel21 (args:List AV) (objs:List Ob):Option (List Dt×Dt):=match args,objs with
 | [.dat T0 x0,.fn T1 [.rptr T2 x2]],[]=>bif (Nat.beq T0 27&&(Nat.beq T1 46&&Nat.beq T2 56)) then some (x0.toLst,x2) else none
 |_,_=>none
theorem sel21_ok {args:List AV} {objs:List Ob} {l:List Dt×Dt} (h:sel21 args objs=some l):CnA Tryd.prog args [(.dat 27 (.lst l.1)),(.fn 46 [(.rptr 56 l.2)])]∧CnOL Tryd.prog objs []:=by
 unfold sel21 at h
 split at h
 ·obtain⟨hc,h2⟩:=bif_some h
  cases h2
  have e0:=beq_eq (and_l hc)
  have e1:=beq_eq (and_l (and_r hc))
  have e2:=beq_eq (and_r (and_r hc))
  subst e0 e1 e2
  exact⟨(.cons (.of (.dat (.lst Tryd.underlying27)) rfl rfl) (.cons (.of (.fn (.cons .same .nil)) rfl rfl) .nil)),.nil⟩
 ·cases h
def sel22 (args:List AV) (objs:List Ob):Option (List Dt×Dt):=match args,objs with
 | [.dat T0 x0,.fn T1 [.rptr T2 x2]],[]=>bif (Nat.beq T0 27&&(Nat.beq T1 46&&Nat.beq T2 56)) then some (x0.toLst,x2) else none
 |_,_=>none
theorem sel22_ok {args:List AV} {objs:List Ob} {l:List Dt×Dt} (h:sel22 args objs=some l):CnA Tryd.prog args [(.dat 27 (.lst l.1)),(.fn 46 [(.rptr 56 l.2)])]∧CnOL Tryd.prog objs []:=by
 unfold sel22 at h
 split at h
 ·obtain⟨hc,h2⟩:=bif_some h
  cases h2
  have e0:=beq_eq (and_l hc)
  have e1:=beq_eq (and_l (and_r hc))
  have e2:=beq_eq (and_r (and_r hc))
  subst e0 e1 e2
  exact⟨(.cons (.of (.dat (.lst Tryd.underlying27)) rfl rfl) (.cons (.of (.fn (.cons .same .nil)) rfl rfl) .nil)),.nil⟩
 ·cases h
def sel23 (args:List AV) (objs:List Ob):Option (Dt×Dt):=match args,objs with
 | [.dat T0 x0,.rptr T1 x1],[]=>bif (Nat.beq T0 51&&Nat.beq T1 56) then some (x0,x1) else none
 |_,_=>none
theorem sel23_ok {args:List AV} {objs:List Ob} {l:Dt×Dt} (h:sel23 args objs=some l):CnA Tryd.prog args [(.dat 51 l.1),(.rptr 56 l.2)]∧CnOL Tryd.prog objs []:=by
 unfold sel23 at h
 split at h
 ·obtain⟨hc,h2⟩:=bif_some h
  cases h2
  have e0:=beq_eq (and_l hc)
  have e1:=beq_eq (and_r hc)
  subst e0 e1
  exact⟨(.cons (.of .same rfl rfl) (.cons (.of .same rfl rfl) .nil)),.nil⟩
 ·cases h
def sel24 (args:List AV) (objs:List Ob):Option (Dt×Dt×List Dt×List Dt):=match args,objs with
 | [.row n0,.dat T1 x1,.dat T2 x2,.dat T3 x3],[.row T4 x4]=>bif (Nat.beq n0 0&&(Nat.beq T1 30&&(Nat.beq T2 25&&(Nat.beq T3 26&&Nat.beq T4 38)))) then some (x1,x2,x3.toLst,x4) else none
 |_,_=>none
theorem sel24_ok {args:List AV} {objs:List Ob} {l:Dt×Dt×List Dt×List Dt} (h:sel24 args objs=some l):CnA Tryd.prog args [(.row 0),(.dat 30 l.1),(.dat 25 l.2.1),(.dat 26 (.lst l.2.2.1))]∧CnOL Tryd.prog objs [(.row 38 l.2.2.2)]:=by
 unfold sel24 at h
 split at h
 ·obtain⟨hc,h2⟩:=bif_some h
  cases h2
  have e0:=beq_eq (and_l hc)
  have e1:=beq_eq (and_l (and_r hc))
  have e2:=beq_eq (and_l (and_r (and_r hc)))
  have e3:=beq_eq (and_l (and_r (and_r (and_r hc))))
  have e4:=beq_eq (and_r (and_r (and_r (and_r hc))))
  subst e0 e1 e2 e3 e4
  exact⟨(.cons (.of .same rfl rfl) (.cons (.of .same rfl rfl) (.cons (.of .same rfl rfl) (.cons (.of (.dat (.lst Tryd.underlying26)) rfl rfl) .nil)))),(.cons .same .nil)⟩
 ·cases h
def sel25 (args:List AV) (objs:List Ob):Option (List Dt):=match args,objs with
 | [.dat T0 x0],[]=>bif Nat.beq T0 22 then some x0.toLst else none
 |_,_=>none
theorem sel25_ok {args:List AV} {objs:List Ob} {l:List Dt} (h:sel25 args objs=some l):CnA Tryd.prog args [(.dat 22 (.lst l))]∧CnOL Tryd.prog objs []:=by
 unfold sel25 at h
 split at h
 ·obtain⟨hc,h2⟩:=bif_some h
  cases h2
  have e0:=beq_eq hc
  subst e0
  exact⟨(.cons (.of (.dat (.lst Tryd.underlying22)) rfl rfl) .nil),.nil⟩
 ·cases h
def sel26 (args:List AV) (objs:List Ob):Option Int:=match args,objs with
 | [.dat T0 x0],[]=>bif Nat.beq T0 3 then some x0.toInt else none
 |_,_=>none
theorem sel26_ok {args:List AV} {objs:List Ob} {l:Int} (h:sel26 args objs=some l):CnA Tryd.prog args [(.dat 3 (.int l))]∧CnOL Tryd.prog objs []:=by
 unfold sel26 at h
 split at h
 ·obtain⟨hc,h2⟩:=bif_some h
  cases h2
  have e0:=beq_eq hc
  subst e0
  exact⟨(.cons (.of (.dat (.int Tryd.underlying3)) rfl rfl) .nil),.nil⟩
 ·cases h
def sel27 (args:List AV) (objs:List Ob):Option (ByteArray×Int):=match args,objs with
 | [.dat T0 x0,.dat T1 x1],[]=>bif (Nat.beq T0 9&&Nat.beq T1 3) then some (x0.toStr,x1.toInt) else none
 |_,_=>none
theorem sel27_ok {args:List AV} {objs:List Ob} {l:ByteArray×Int} (h:sel27 args objs=some l):CnA Tryd.prog args [(.dat 9 (.str l.1)),(.dat 3 (.int l.2))]∧CnOL Tryd.prog objs []:=by
 unfold sel27 at h
 split at h
 ·obtain⟨hc,h2⟩:=bif_some h
  cases h2
  have e0:=beq_eq (and_l hc)
  have e1:=beq_eq (and_r hc)
  subst e0 e1
  exact⟨(.cons (.of (.dat (.str Tryd.underlying9)) rfl rfl) (.cons (.of (.dat (.int Tryd.underlying3)) rfl rfl) .nil)),.nil⟩
 ·cases h
def sel28 (args:List AV) (objs:List Ob):Option (Dt×ByteArray):=match args,objs with
 | [.dat T0 x0,.dat T1 x1],[]=>bif (Nat.beq T0 25&&Nat.beq T1 9) then some (x0,x1.toStr) else none
 |_,_=>none
theorem sel28_ok {args:List AV} {objs:List Ob} {l:Dt×ByteArray} (h:sel28 args objs=some l):CnA Tryd.prog args [(.dat 25 l.1),(.dat 9 (.str l.2))]∧CnOL Tryd.prog objs []:=by
 unfold sel28 at h
 split at h
 ·obtain⟨hc,h2⟩:=bif_some h
  cases h2
  have e0:=beq_eq (and_l hc)
  have e1:=beq_eq (and_r hc)
  subst e0 e1
  exact⟨(.cons (.of .same rfl rfl) (.cons (.of (.dat (.str Tryd.underlying9)) rfl rfl) .nil)),.nil⟩
 ·cases h
def sel29 (args:List AV) (objs:List Ob):Option (Dt×Int×Int):=match args,objs with
 | [.dat T0 x0,.dat T1 x1,.ptr n2 p2 o2],[.box T3 (.dat T4 x4)]=>bif (Nat.beq T0 30&&(Nat.beq T1 3&&(Nat.beq n2 0&&(natsB p2 []&&(Nat.beq o2 0&&(Nat.beq T3 3&&Nat.beq T4 3)))))) then some (x0,x1.toInt,x4.toInt) else none
 |_,_=>none
theorem sel29_ok {args:List AV} {objs:List Ob} {l:Dt×Int×Int} (h:sel29 args objs=some l):CnA Tryd.prog args [(.dat 30 l.1),(.dat 3 (.int l.2.1)),(.ptr 0 [] 0)]∧CnOL Tryd.prog objs [(.box 3 (.dat 3 (.int l.2.2)))]:=by
 unfold sel29 at h
 split at h
 ·obtain⟨hc,h2⟩:=bif_some h
  cases h2
  have e0:=beq_eq (and_l hc)
  have e1:=beq_eq (and_l (and_r hc))
  have e2:=beq_eq (and_l (and_r (and_r hc)))
  have e3:=natsB_eq (and_l (and_r (and_r (and_r hc))))
  have e4:=beq_eq (and_l (and_r (and_r (and_r (and_r hc)))))
  have e5:=beq_eq (and_l (and_r (and_r (and_r (and_r (and_r hc))))))
  have e6:=beq_eq (and_r (and_r (and_r (and_r (and_r (and_r hc))))))
  subst e0 e1 e2 e3 e4 e5 e6
  exact⟨(.cons (.of .same rfl rfl) (.cons (.of (.dat (.int Tryd.underlying3)) rfl rfl) (.cons (.of .same rfl rfl) .nil))),(.cons (.box (.dat (.int Tryd.underlying3))) .nil)⟩
 ·cases h
def sel30 (args:List AV) (objs:List Ob):Option Dt:=match args,objs with
 | [.dat T0 x0],[]=>bif Nat.beq T0 30 then some x0 else none
 |_,_=>none
theorem sel30_ok {args:List AV} {objs:List Ob} {l:Dt} (h:sel30 args objs=some l):CnA Tryd.prog args [(.dat 30 l)]∧CnOL Tryd.prog objs []:=by
 unfold sel30 at h
 split at h
 ·obtain⟨hc,h2⟩:=bif_some h
  cases h2
  have e0:=beq_eq hc
  subst e0
  exact⟨(.cons (.of .same rfl rfl) .nil),.nil⟩
 ·cases h
def sel31 (args:List AV) (objs:List Ob):Option Dt:=match args,objs with
 | [.dat T0 x0],[]=>bif Nat.beq T0 25 then some x0 else none
 |_,_=>none
theorem sel31_ok {args:List AV} {objs:List Ob} {l:Dt} (h:sel31 args objs=some l):CnA Tryd.prog args [(.dat 25 l)]∧CnOL Tryd.prog objs []:=by
 unfold sel31 at h
 split at h
 ·obtain⟨hc,h2⟩:=bif_some h
  cases h2
  have e0:=beq_eq hc
  subst e0
  exact⟨(.cons (.of .same rfl rfl) .nil),.nil⟩
 ·cases h
def sel32 (args:List AV) (objs:List Ob):Option Dt:=match args,objs with
 | [.dat T0 x0],[]=>bif Nat.beq T0 25 then some x0 else none
 |_,_=>none
theorem sel32_ok {args:List AV} {objs:List Ob} {l:Dt} (h:sel32 args objs=some l):CnA Tryd.prog args [(.dat 25 l)]∧CnOL Tryd.prog objs []:=by
 unfold sel32 at h
 split at h
 ·obtain⟨hc,h2⟩:=bif_some h
  cases h2
  have e0:=beq_eq hc
  subst e0
  exact⟨(.cons (.of .same rfl rfl) .nil),.nil⟩
 ·cases h
def sel33 (args:List AV) (objs:List Ob):Option (Dt×Bool):=match args,objs with
 | [.dat T0 x0,.dat T1 x1],[]=>bif (Nat.beq T0 25&&Nat.beq T1 4) then some (x0,x1.toBool) else none
 |_,_=>none
theorem sel33_ok {args:List AV} {objs:List Ob} {l:Dt×Bool} (h:sel33 args objs=some l):CnA Tryd.prog args [(.dat 25 l.1),(.dat 4 (.bool l.2))]∧CnOL Tryd.prog objs []:=by
 unfold sel33 at h
 split at h
 ·obtain⟨hc,h2⟩:=bif_some h
  cases h2
  have e0:=beq_eq (and_l hc)
  have e1:=beq_eq (and_r hc)
  subst e0 e1
  exact⟨(.cons (.of .same rfl rfl) (.cons (.of (.dat (.bool Tryd.underlying4)) rfl rfl) .nil)),.nil⟩
 ·cases h
def sel34 (args:List AV) (objs:List Ob):Option (Dt×Int×Int):=match args,objs with
 | [.dat T0 x0,.dat T1 x1,.dat T2 x2],[]=>bif (Nat.beq T0 25&&(Nat.beq T1 3&&Nat.beq T2 3)) then some (x0,x1.toInt,x2.toInt) else none
 |_,_=>none
theorem sel34_ok {args:List AV} {objs:List Ob} {l:Dt×Int×Int} (h:sel34 args objs=some l):CnA Tryd.prog args [(.dat 25 l.1),(.dat 3 (.int l.2.1)),(.dat 3 (.int l.2.2))]∧CnOL Tryd.prog objs []:=by
 unfold sel34 at h
 split at h
 ·obtain⟨hc,h2⟩:=bif_some h
  cases h2
  have e0:=beq_eq (and_l hc)
  have e1:=beq_eq (and_l (and_r hc))
  have e2:=beq_eq (and_r (and_r hc))
  subst e0 e1 e2
  exact⟨(.cons (.of .same rfl rfl) (.cons (.of (.dat (.int Tryd.underlying3)) rfl rfl) (.cons (.of (.dat (.int Tryd.underlying3)) rfl rfl) .nil))),.nil⟩
 ·cases h
def sel35 (args:List AV) (objs:List Ob):Option Int:=match args,objs with
 | [.nils T0,.dat T1 x1],[]=>bif (Nat.beq T0 26&&Nat.beq T1 3) then some x1.toInt else none
 |_,_=>none
theorem sel35_ok {args:List AV} {objs:List Ob} {l:Int} (h:sel35 args objs=some l):CnA Tryd.prog args [(.nils 26),(.dat 3 (.int l))]∧CnOL Tryd.prog objs []:=by
 unfold sel35 at h
 split at h
 ·obtain⟨hc,h2⟩:=bif_some h
  cases h2
  have e0:=beq_eq (and_l hc)
  have e1:=beq_eq (and_r hc)
  subst e0 e1
  exact⟨(.cons (.of .same rfl rfl) (.cons (.of (.dat (.int Tryd.underlying3)) rfl rfl) .nil)),.nil⟩
 ·cases h
def sel36 (args:List AV) (objs:List Ob):Option (Int×Int):=match args,objs with
 | [.dat T0 x0,.dat T1 x1],[]=>bif (Nat.beq T0 3&&Nat.beq T1 3) then some (x0.toInt,x1.toInt) else none
 |_,_=>none
theorem sel36_ok {args:List AV} {objs:List Ob} {l:Int×Int} (h:sel36 args objs=some l):CnA Tryd.prog args [(.dat 3 (.int l.1)),(.dat 3 (.int l.2))]∧CnOL Tryd.prog objs []:=by
 unfold sel36 at h
 split at h
 ·obtain⟨hc,h2⟩:=bif_some h
  cases h2
  have e0:=beq_eq (and_l hc)
  have e1:=beq_eq (and_r hc)
  subst e0 e1
  exact⟨(.cons (.of (.dat (.int Tryd.underlying3)) rfl rfl) (.cons (.of (.dat (.int Tryd.underlying3)) rfl rfl) .nil)),.nil⟩
 ·cases h
def sel37 (args:List AV) (objs:List Ob):Option (ByteArray×ByteArray):=match args,objs with
 | [.dat T0 x0,.dat T1 x1],[]=>bif (Nat.beq T0 9&&Nat.beq T1 9) then some (x0.toStr,x1.toStr) else none
 |_,_=>none
theorem sel37_ok {args:List AV} {objs:List Ob} {l:ByteArray×ByteArray} (h:sel37 args objs=some l):CnA Tryd.prog args [(.dat 9 (.str l.1)),(.dat 9 (.str l.2))]∧CnOL Tryd.prog objs []:=by
 unfold sel37 at h
 split at h
 ·obtain⟨hc,h2⟩:=bif_some h
  cases h2
  have e0:=beq_eq (and_l hc)
  have e1:=beq_eq (and_r hc)
  subst e0 e1
  exact⟨(.cons (.of (.dat (.str Tryd.underlying9)) rfl rfl) (.cons (.of (.dat (.str Tryd.underlying9)) rfl rfl) .nil)),.nil⟩
 ·cases h
def sel38 (args:List AV) (objs:List Ob):Option (List Dt):=match args,objs with
 | [.dat T0 x0],[]=>bif Nat.beq T0 22 then some x0.toLst else none
 |_,_=>none
theorem sel38_ok {args:List AV} {objs:List Ob} {l:List Dt} (h:sel38 args objs=some l):CnA Tryd.prog args [(.dat 22 (.lst l))]∧CnOL Tryd.prog objs []:=by
 unfold sel38 at h
 split at h
 ·obtain⟨hc,h2⟩:=bif_some h
  cases h2
  have e0:=beq_eq hc
  subst e0
  exact⟨(.cons (.of (.dat (.lst Tryd.underlying22)) rfl rfl) .nil),.nil⟩
 ·cases h
def sel39 (args:List AV) (objs:List Ob):Option (List Dt):=match args,objs with
 | [.row n0,.fn T1 []],[.row T2 x2]=>bif (Nat.beq n0 0&&(Nat.beq T1 43&&Nat.beq T2 22)) then some x2 else none
 |_,_=>none
theorem sel39_ok {args:List AV} {objs:List Ob} {l:List Dt} (h:sel39 args objs=some l):CnA Tryd.prog args [(.row 0),(.fn 43 [])]∧CnOL Tryd.prog objs [(.row 22 l)]:=by
 unfold sel39 at h
 split at h
 ·obtain⟨hc,h2⟩:=bif_some h
  cases h2
  have e0:=beq_eq (and_l hc)
  have e1:=beq_eq (and_l (and_r hc))
  have e2:=beq_eq (and_r (and_r hc))
  subst e0 e1 e2
  exact⟨(.cons (.of .same rfl rfl) (.cons (.of (.fn .nil) rfl rfl) .nil)),(.cons .same .nil)⟩
 ·cases h
def sel40 (args:List AV) (objs:List Ob):Option (Int×List Dt):=match args,objs with
 | [.row n0,.dat T1 x1,.fn T2 []],[.row T3 x3]=>bif (Nat.beq n0 0&&(Nat.beq T1 3&&(Nat.beq T2 43&&Nat.beq T3 22))) then some (x1.toInt,x3) else none
 |_,_=>none
theorem sel40_ok {args:List AV} {objs:List Ob} {l:Int×List Dt} (h:sel40 args objs=some l):CnA Tryd.prog args [(.row 0),(.dat 3 (.int l.1)),(.fn 43 [])]∧CnOL Tryd.prog objs [(.row 22 l.2)]:=by
 unfold sel40 at h
 split at h
 ·obtain⟨hc,h2⟩:=bif_some h
  cases h2
  have e0:=beq_eq (and_l hc)
  have e1:=beq_eq (and_l (and_r hc))
  have e2:=beq_eq (and_l (and_r (and_r hc)))
  have e3:=beq_eq (and_r (and_r (and_r hc)))
  subst e0 e1 e2 e3
  exact⟨(.cons (.of .same rfl rfl) (.cons (.of (.dat (.int Tryd.underlying3)) rfl rfl) (.cons (.of (.fn .nil) rfl rfl) .nil))),(.cons .same .nil)⟩
 ·cases h
def sel41 (args:List AV) (objs:List Ob):Option (Int×Int×List Dt):=match args,objs with
 | [.row n0,.dat T1 x1,.dat T2 x2,.fn T3 []],[.row T4 x4]=>bif (Nat.beq n0 0&&(Nat.beq T1 3&&(Nat.beq T2 3&&(Nat.beq T3 43&&Nat.beq T4 22)))) then some (x1.toInt,x2.toInt,x4) else none
 |_,_=>none
theorem sel41_ok {args:List AV} {objs:List Ob} {l:Int×Int×List Dt} (h:sel41 args objs=some l):CnA Tryd.prog args [(.row 0),(.dat 3 (.int l.1)),(.dat 3 (.int l.2.1)),(.fn 43 [])]∧CnOL Tryd.prog objs [(.row 22 l.2.2)]:=by
 unfold sel41 at h
 split at h
 ·obtain⟨hc,h2⟩:=bif_some h
  cases h2
  have e0:=beq_eq (and_l hc)
  have e1:=beq_eq (and_l (and_r hc))
  have e2:=beq_eq (and_l (and_r (and_r hc)))
  have e3:=beq_eq (and_l (and_r (and_r (and_r hc))))
  have e4:=beq_eq (and_r (and_r (and_r (and_r hc))))
  subst e0 e1 e2 e3 e4
  exact⟨(.cons (.of .same rfl rfl) (.cons (.of (.dat (.int Tryd.underlying3)) rfl rfl) (.cons (.of (.dat (.int Tryd.underlying3)) rfl rfl) (.cons (.of (.fn .nil) rfl rfl) .nil)))),(.cons .same .nil)⟩
 ·cases h
def sel42 (args:List AV) (objs:List Ob):Option (Int×Int×Int×List Dt):=match args,objs with
 | [.row n0,.dat T1 x1,.dat T2 x2,.dat T3 x3,.fn T4 []],[.row T5 x5]=>bif (Nat.beq n0 0&&(Nat.beq T1 3&&(Nat.beq T2 3&&(Nat.beq T3 3&&(Nat.beq T4 43&&Nat.beq T5 22))))) then some (x1.toInt,x2.toInt,x3.toInt,x5) else none
 |_,_=>none
theorem sel42_ok {args:List AV} {objs:List Ob} {l:Int×Int×Int×List Dt} (h:sel42 args objs=some l):CnA Tryd.prog args [(.row 0),(.dat 3 (.int l.1)),(.dat 3 (.int l.2.1)),(.dat 3 (.int l.2.2.1)),(.fn 43 [])]∧CnOL Tryd.prog objs [(.row 22 l.2.2.2)]:=by
 unfold sel42 at h
 split at h
 ·obtain⟨hc,h2⟩:=bif_some h
  cases h2
  have e0:=beq_eq (and_l hc)
  have e1:=beq_eq (and_l (and_r hc))
  have e2:=beq_eq (and_l (and_r (and_r hc)))
  have e3:=beq_eq (and_l (and_r (and_r (and_r hc))))
  have e4:=beq_eq (and_l (and_r (and_r (and_r (and_r hc)))))
  have e5:=beq_eq (and_r (and_r (and_r (and_r (and_r hc)))))
  subst e0 e1 e2 e3 e4 e5
  exact⟨(.cons (.of .same rfl rfl) (.cons (.of (.dat (.int Tryd.underlying3)) rfl rfl) (.cons (.of (.dat (.int Tryd.underlying3)) rfl rfl) (.cons (.of (.dat (.int Tryd.underlying3)) rfl rfl) (.cons (.of (.fn .nil) rfl rfl) .nil))))),(.cons .same .nil)⟩
 ·cases h
def sel43 (args:List AV) (objs:List Ob):Option (Int×Int×Int×List Dt):=match args,objs with
 | [.row n0,.dat T1 x1,.dat T2 x2,.dat T3 x3,.fn T4 []],[.row T5 x5]=>bif (Nat.beq n0 0&&(Nat.beq T1 3&&(Nat.beq T2 3&&(Nat.beq T3 3&&(Nat.beq T4 43&&Nat.beq T5 22))))) then some (x1.toInt,x2.toInt,x3.toInt,x5) else none
 |_,_=>none
theorem sel43_ok {args:List AV} {objs:List Ob} {l:Int×Int×Int×List Dt} (h:sel43 args objs=some l):CnA Tryd.prog args [(.row 0),(.dat 3 (.int l.1)),(.dat 3 (.int l.2.1)),(.dat 3 (.int l.2.2.1)),(.fn 43 [])]∧CnOL Tryd.prog objs [(.row 22 l.2.2.2)]:=by
 unfold sel43 at h
 split at h
 ·obtain⟨hc,h2⟩:=bif_some h
  cases h2
  have e0:=beq_eq (and_l hc)
  have e1:=beq_eq (and_l (and_r hc))
  have e2:=beq_eq (and_l (and_r (and_r hc)))
  have e3:=beq_eq (and_l (and_r (and_r (and_r hc))))
  have e4:=beq_eq (and_l (and_r (and_r (and_r (and_r hc)))))
  have e5:=beq_eq (and_r (and_r (and_r (and_r (and_r hc)))))
  subst e0 e1 e2 e3 e4 e5
  exact⟨(.cons (.of .same rfl rfl) (.cons (.of (.dat (.int Tryd.underlying3)) rfl rfl) (.cons (.of (.dat (.int Tryd.underlying3)) rfl rfl) (.cons (.of (.dat (.int Tryd.underlying3)) rfl rfl) (.cons (.of (.fn .nil) rfl rfl) .nil))))),(.cons .same .nil)⟩
 ·cases h
def sel44 (args:List AV) (objs:List Ob):Option (Int×Int×Int×List Dt):=match args,objs with
 | [.row n0,.dat T1 x1,.dat T2 x2,.dat T3 x3,.fn T4 []],[.row T5 x5]=>bif (Nat.beq n0 0&&(Nat.beq T1 3&&(Nat.beq T2 3&&(Nat.beq T3 3&&(Nat.beq T4 43&&Nat.beq T5 22))))) then some (x1.toInt,x2.toInt,x3.toInt,x5) else none
 |_,_=>none
theorem sel44_ok {args:List AV} {objs:List Ob} {l:Int×Int×Int×List Dt} (h:sel44 args objs=some l):CnA Tryd.prog args [(.row 0),(.dat 3 (.int l.1)),(.dat 3 (.int l.2.1)),(.dat 3 (.int l.2.2.1)),(.fn 43 [])]∧CnOL Tryd.prog objs [(.row 22 l.2.2.2)]:=by
 unfold sel44 at h
 split at h
 ·obtain⟨hc,h2⟩:=bif_some h
  cases h2
  have e0:=beq_eq (and_l hc)
  have e1:=beq_eq (and_l (and_r hc))
  have e2:=beq_eq (and_l (and_r (and_r hc)))
  have e3:=beq_eq (and_l (and_r (and_r (and_r hc))))
  have e4:=beq_eq (and_l (and_r (and_r (and_r (and_r hc)))))
  have e5:=beq_eq (and_r (and_r (and_r (and_r (and_r hc)))))
  subst e0 e1 e2 e3 e4 e5
  exact⟨(.cons (.of .same rfl rfl) (.cons (.of (.dat (.int Tryd.underlying3)) rfl rfl) (.cons (.of (.dat (.int Tryd.underlying3)) rfl rfl) (.cons (.of (.dat (.int Tryd.underlying3)) rfl rfl) (.cons (.of (.fn .nil) rfl rfl) .nil))))),(.cons .same .nil)⟩
 ·cases h
def sel45 (args:List AV) (objs:List Ob):Option (Dt×ByteArray):=match args,objs with
 | [.dat T0 x0,.dat T1 x1],[]=>bif (Nat.beq T0 25&&Nat.beq T1 9) then some (x0,x1.toStr) else none
 |_,_=>none
theorem sel45_ok {args:List AV} {objs:List Ob} {l:Dt×ByteArray} (h:sel45 args objs=some l):CnA Tryd.prog args [(.dat 25 l.1),(.dat 9 (.str l.2))]∧CnOL Tryd.prog objs []:=by
 unfold sel45 at h
 split at h
 ·obtain⟨hc,h2⟩:=bif_some h
  cases h2
  have e0:=beq_eq (and_l hc)
  have e1:=beq_eq (and_r hc)
  subst e0 e1
  exact⟨(.cons (.of .same rfl rfl) (.cons (.of (.dat (.str Tryd.underlying9)) rfl rfl) .nil)),.nil⟩
 ·cases h
def sel46 (args:List AV) (objs:List Ob):Option ByteArray:=match args,objs with
 | [.dat T0 x0],[]=>bif Nat.beq T0 9 then some x0.toStr else none
 |_,_=>none
theorem sel46_ok {args:List AV} {objs:List Ob} {l:ByteArray} (h:sel46 args objs=some l):CnA Tryd.prog args [(.dat 9 (.str l))]∧CnOL Tryd.prog objs []:=by
 unfold sel46 at h
 split at h
 ·obtain⟨hc,h2⟩:=bif_some h
  cases h2
  have e0:=beq_eq hc
  subst e0
  exact⟨(.cons (.of (.dat (.str Tryd.underlying9)) rfl rfl) .nil),.nil⟩
 ·cases h
def sel47 (args:List AV) (objs:List Ob):Option (Bool×Dt):=match args,objs with
 | [.dat T0 x0,.dat T1 x1],[]=>bif (Nat.beq T0 4&&Nat.beq T1 25) then some (x0.toBool,x1) else none
 |_,_=>none
theorem sel47_ok {args:List AV} {objs:List Ob} {l:Bool×Dt} (h:sel47 args objs=some l):CnA Tryd.prog args [(.dat 4 (.bool l.1)),(.dat 25 l.2)]∧CnOL Tryd.prog objs []:=by
 unfold sel47 at h
 split at h
 ·obtain⟨hc,h2⟩:=bif_some h
  cases h2
  have e0:=beq_eq (and_l hc)
  have e1:=beq_eq (and_r hc)
  subst e0 e1
  exact⟨(.cons (.of (.dat (.bool Tryd.underlying4)) rfl rfl) (.cons (.of .same rfl rfl) .nil)),.nil⟩
 ·cases h
def sel48 (args:List AV) (objs:List Ob):Option Dt:=match args,objs with
 | [.dat T0 x0],[]=>bif Nat.beq T0 25 then some x0 else none
 |_,_=>none
theorem sel48_ok {args:List AV} {objs:List Ob} {l:Dt} (h:sel48 args objs=some l):CnA Tryd.prog args [(.dat 25 l)]∧CnOL Tryd.prog objs []:=by
 unfold sel48 at h
 split at h
 ·obtain⟨hc,h2⟩:=bif_some h
  cases h2
  have e0:=beq_eq hc
  subst e0
  exact⟨(.cons (.of .same rfl rfl) .nil),.nil⟩
 ·cases h
def sel49 (args:List AV) (objs:List Ob):Option (Dt×Int):=match args,objs with
 | [.dat T0 x0,.dat T1 x1],[]=>bif (Nat.beq T0 25&&Nat.beq T1 3) then some (x0,x1.toInt) else none
 |_,_=>none
theorem sel49_ok {args:List AV} {objs:List Ob} {l:Dt×Int} (h:sel49 args objs=some l):CnA Tryd.prog args [(.dat 25 l.1),(.dat 3 (.int l.2))]∧CnOL Tryd.prog objs []:=by
 unfold sel49 at h
 split at h
 ·obtain⟨hc,h2⟩:=bif_some h
  cases h2
  have e0:=beq_eq (and_l hc)
  have e1:=beq_eq (and_r hc)
  subst e0 e1
  exact⟨(.cons (.of .same rfl rfl) (.cons (.of (.dat (.int Tryd.underlying3)) rfl rfl) .nil)),.nil⟩
 ·cases h
def sel50 (args:List AV) (objs:List Ob):Option (Dt×Int):=match args,objs with
 | [.dat T0 x0,.dat T1 x1],[]=>bif (Nat.beq T0 25&&Nat.beq T1 3) then some (x0,x1.toInt) else none
 |_,_=>none
theorem sel50_ok {args:List AV} {objs:List Ob} {l:Dt×Int} (h:sel50 args objs=some l):CnA Tryd.prog args [(.dat 25 l.1),(.dat 3 (.int l.2))]∧CnOL Tryd.prog objs []:=by
 unfold sel50 at h
 split at h
 ·obtain⟨hc,h2⟩:=bif_some h
  cases h2
  have e0:=beq_eq (and_l hc)
  have e1:=beq_eq (and_r hc)
  subst e0 e1
  exact⟨(.cons (.of .same rfl rfl) (.cons (.of (.dat (.int Tryd.underlying3)) rfl rfl) .nil)),.nil⟩
 ·cases h
def sel51 (args:List AV) (objs:List Ob):Option ByteArray:=match args,objs with
 | [.dat T0 x0],[]=>bif Nat.beq T0 9 then some x0.toStr else none
 |_,_=>none
theorem sel51_ok {args:List AV} {objs:List Ob} {l:ByteArray} (h:sel51 args objs=some l):CnA Tryd.prog args [(.dat 9 (.str l))]∧CnOL Tryd.prog objs []:=by
 unfold sel51 at h
 split at h
 ·obtain⟨hc,h2⟩:=bif_some h
  cases h2
  have e0:=beq_eq hc
  subst e0
  exact⟨(.cons (.of (.dat (.str Tryd.underlying9)) rfl rfl) .nil),.nil⟩
 ·cases h
def sel52 (args:List AV) (objs:List Ob):Option (Dt×Bool):=match args,objs with
 | [.dat T0 x0,.dat T1 x1],[]=>bif (Nat.beq T0 25&&Nat.beq T1 4) then some (x0,x1.toBool) else none
 |_,_=>none
theorem sel52_ok {args:List AV} {objs:List Ob} {l:Dt×Bool} (h:sel52 args objs=some l):CnA Tryd.prog args [(.dat 25 l.1),(.dat 4 (.bool l.2))]∧CnOL Tryd.prog objs []:=by
 unfold sel52 at h
 split at h
 ·obtain⟨hc,h2⟩:=bif_some h
  cases h2
  have e0:=beq_eq (and_l hc)
  have e1:=beq_eq (and_r hc)
  subst e0 e1
  exact⟨(.cons (.of .same rfl rfl) (.cons (.of (.dat (.bool Tryd.underlying4)) rfl rfl) .nil)),.nil⟩
 ·cases h
def sel53 (args:List AV) (objs:List Ob):Option Int:=match args,objs with
 | [.dat T0 x0],[]=>bif Nat.beq T0 3 then some x0.toInt else none
 |_,_=>none
theorem sel53_ok {args:List AV} {objs:List Ob} {l:Int} (h:sel53 args objs=some l):CnA Tryd.prog args [(.dat 3 (.int l))]∧CnOL Tryd.prog objs []:=by
 unfold sel53 at h
 split at h
 ·obtain⟨hc,h2⟩:=bif_some h
  cases h2
  have e0:=beq_eq hc
  subst e0
  exact⟨(.cons (.of (.dat (.int Tryd.underlying3)) rfl rfl) .nil),.nil⟩
 ·cases h
def sel54 (args:List AV) (objs:List Ob):Option Dt:=match args,objs with
 | [.dat T0 x0],[]=>bif Nat.beq T0 25 then some x0 else none
 |_,_=>none
theorem sel54_ok {args:List AV} {objs:List Ob} {l:Dt} (h:sel54 args objs=some l):CnA Tryd.prog args [(.dat 25 l)]∧CnOL Tryd.prog objs []:=by
 unfold sel54 at h
 split at h
 ·obtain⟨hc,h2⟩:=bif_some h
  cases h2
  have e0:=beq_eq hc
  subst e0
  exact⟨(.cons (.of .same rfl rfl) .nil),.nil⟩
 ·cases h
def sel55 (args:List AV) (objs:List Ob):Option Dt:=match args,objs with
 | [.dat T0 x0],[]=>bif Nat.beq T0 25 then some x0 else none
 |_,_=>none
theorem sel55_ok {args:List AV} {objs:List Ob} {l:Dt} (h:sel55 args objs=some l):CnA Tryd.prog args [(.dat 25 l)]∧CnOL Tryd.prog objs []:=by
 unfold sel55 at h
 split at h
 ·obtain⟨hc,h2⟩:=bif_some h
  cases h2
  have e0:=beq_eq hc
  subst e0
  exact⟨(.cons (.of .same rfl rfl) .nil),.nil⟩
 ·cases h
def sel56 (args:List AV) (objs:List Ob):Option Dt:=match args,objs with
 | [.dat T0 x0],[]=>bif Nat.beq T0 25 then some x0 else none
 |_,_=>none
theorem sel56_ok {args:List AV} {objs:List Ob} {l:Dt} (h:sel56 args objs=some l):CnA Tryd.prog args [(.dat 25 l)]∧CnOL Tryd.prog objs []:=by
 unfold sel56 at h
 split at h
 ·obtain⟨hc,h2⟩:=bif_some h
  cases h2
  have e0:=beq_eq hc
  subst e0
  exact⟨(.cons (.of .same rfl rfl) .nil),.nil⟩
 ·cases h
def sel57 (args:List AV) (objs:List Ob):Option Dt:=match args,objs with
 | [.dat T0 x0],[]=>bif Nat.beq T0 25 then some x0 else none
 |_,_=>none
theorem sel57_ok {args:List AV} {objs:List Ob} {l:Dt} (h:sel57 args objs=some l):CnA Tryd.prog args [(.dat 25 l)]∧CnOL Tryd.prog objs []:=by
 unfold sel57 at h
 split at h
 ·obtain⟨hc,h2⟩:=bif_some h
  cases h2
  have e0:=beq_eq hc
  subst e0
  exact⟨(.cons (.of .same rfl rfl) .nil),.nil⟩
 ·cases h
def sel58 (args:List AV) (objs:List Ob):Option (ByteArray×Int×Int):=match args,objs with
 | [.dat T0 x0,.dat T1 x1,.dat T2 x2],[]=>bif (Nat.beq T0 9&&(Nat.beq T1 3&&Nat.beq T2 3)) then some (x0.toStr,x1.toInt,x2.toInt) else none
 |_,_=>none
theorem sel58_ok {args:List AV} {objs:List Ob} {l:ByteArray×Int×Int} (h:sel58 args objs=some l):CnA Tryd.prog args [(.dat 9 (.str l.1)),(.dat 3 (.int l.2.1)),(.dat 3 (.int l.2.2))]∧CnOL Tryd.prog objs []:=by
 unfold sel58 at h
 split at h
 ·obtain⟨hc,h2⟩:=bif_some h
  cases h2
  have e0:=beq_eq (and_l hc)
  have e1:=beq_eq (and_l (and_r hc))
  have e2:=beq_eq (and_r (and_r hc))
  subst e0 e1 e2
  exact⟨(.cons (.of (.dat (.str Tryd.underlying9)) rfl rfl) (.cons (.of (.dat (.int Tryd.underlying3)) rfl rfl) (.cons (.of (.dat (.int Tryd.underlying3)) rfl rfl) .nil))),.nil⟩
 ·cases h
def sel59 (args:List AV) (objs:List Ob):Option ByteArray:=match args,objs with
 | [.dat T0 x0],[]=>bif Nat.beq T0 9 then some x0.toStr else none
 |_,_=>none
theorem sel59_ok {args:List AV} {objs:List Ob} {l:ByteArray} (h:sel59 args objs=some l):CnA Tryd.prog args [(.dat 9 (.str l))]∧CnOL Tryd.prog objs []:=by
 unfold sel59 at h
 split at h
 ·obtain⟨hc,h2⟩:=bif_some h
  cases h2
  have e0:=beq_eq hc
  subst e0
  exact⟨(.cons (.of (.dat (.str Tryd.underlying9)) rfl rfl) .nil),.nil⟩
 ·cases h
def sel60 (args:List AV) (objs:List Ob):Option ByteArray:=match args,objs with
 | [.dat T0 x0],[]=>bif Nat.beq T0 9 then some x0.toStr else none
 |_,_=>none
theorem sel60_ok {args:List AV} {objs:List Ob} {l:ByteArray} (h:sel60 args objs=some l):CnA Tryd.prog args [(.dat 9 (.str l))]∧CnOL Tryd.prog objs []:=by
 unfold sel60 at h
 split at h
 ·obtain⟨hc,h2⟩:=bif_some h
  cases h2
  have e0:=beq_eq hc
  subst e0
  exact⟨(.cons (.of (.dat (.str Tryd.underlying9)) rfl rfl) .nil),.nil⟩
 ·cases h
def sel61 (args:List AV) (objs:List Ob):Option (Dt×Int):=match args,objs with
 | [.dat T0 x0,.dat T1 x1],[]=>bif (Nat.beq T0 25&&Nat.beq T1 3) then some (x0,x1.toInt) else none
 |_,_=>none
theorem sel61_ok {args:List AV} {objs:List Ob} {l:Dt×Int} (h:sel61 args objs=some l):CnA Tryd.prog args [(.dat 25 l.1),(.dat 3 (.int l.2))]∧CnOL Tryd.prog objs []:=by
 unfold sel61 at h
 split at h
 ·obtain⟨hc,h2⟩:=bif_some h
  cases h2
  have e0:=beq_eq (and_l hc)
  have e1:=beq_eq (and_r hc)
  subst e0 e1
  exact⟨(.cons (.of .same rfl rfl) (.cons (.of (.dat (.int Tryd.underlying3)) rfl rfl) .nil)),.nil⟩
 ·cases h
def sel62 (args:List AV) (objs:List Ob):Option (Dt×Int):=match args,objs with
 | [.dat T0 x0,.dat T1 x1],[]=>bif (Nat.beq T0 25&&Nat.beq T1 3) then some (x0,x1.toInt) else none
 |_,_=>none
theorem sel62_ok {args:List AV} {objs:List Ob} {l:Dt×Int} (h:sel62 args objs=some l):CnA Tryd.prog args [(.dat 25 l.1),(.dat 3 (.int l.2))]∧CnOL Tryd.prog objs []:=by
 unfold sel62 at h
 split at h
 ·obtain⟨hc,h2⟩:=bif_some h
  cases h2
  have e0:=beq_eq (and_l hc)
  have e1:=beq_eq (and_r hc)
  subst e0 e1
  exact⟨(.cons (.of .same rfl rfl) (.cons (.of (.dat (.int Tryd.underlying3)) rfl rfl) .nil)),.nil⟩
 ·cases h
def sel63 (args:List AV) (objs:List Ob):Option ByteArray:=match args,objs with
 | [.dat T0 x0],[]=>bif Nat.beq T0 9 then some x0.toStr else none
 |_,_=>none
theorem sel63_ok {args:List AV} {objs:List Ob} {l:ByteArray} (h:sel63 args objs=some l):CnA Tryd.prog args [(.dat 9 (.str l))]∧CnOL Tryd.prog objs []:=by
 unfold sel63 at h
 split at h
 ·obtain⟨hc,h2⟩:=bif_some h
  cases h2
  have e0:=beq_eq hc
  subst e0
  exact⟨(.cons (.of (.dat (.str Tryd.underlying9)) rfl rfl) .nil),.nil⟩
 ·cases h
def sel64 (args:List AV) (objs:List Ob):Option (List Dt):=match args,objs with
 | [.dat T0 x0],[]=>bif Nat.beq T0 23 then some x0.toLst else none
 |_,_=>none
theorem sel64_ok {args:List AV} {objs:List Ob} {l:List Dt} (h:sel64 args objs=some l):CnA Tryd.prog args [(.dat 23 (.lst l))]∧CnOL Tryd.prog objs []:=by
 unfold sel64 at h
 split at h
 ·obtain⟨hc,h2⟩:=bif_some h
  cases h2
  have e0:=beq_eq hc
  subst e0
  exact⟨(.cons (.of (.dat (.lst Tryd.underlying23)) rfl rfl) .nil),.nil⟩
 ·cases h
def sel65 (args:List AV) (objs:List Ob):Option (Dt×Int×Int):=match args,objs with
 | [.dat T0 x0,.fn T1 [.ptr n2 p2 o2,.ptr n3 p3 o3]],[.box T4 (.dat T5 x5),.box T6 (.dat T7 x7)]=>bif (Nat.beq T0 25&&(Nat.beq T1 86&&(Nat.beq n2 0&&(natsB p2 []&&(Nat.beq o2 0&&(Nat.beq n3 1&&(natsB p3 []&&(Nat.beq o3 0&&(Nat.beq T4 3&&(Nat.beq T5 3&&(Nat.beq T6 3&&Nat.beq T7 3))))))))))) then some (x0,x5.toInt,x7.toInt) else none
 |_,_=>none
theorem sel65_ok {args:List AV} {objs:List Ob} {l:Dt×Int×Int} (h:sel65 args objs=some l):CnA Tryd.prog args [(.dat 25 l.1),(.fn 86 [(.ptr 0 [] 0),(.ptr 1 [] 0)])]∧CnOL Tryd.prog objs [(.box 3 (.dat 3 (.int l.2.1))),(.box 3 (.dat 3 (.int l.2.2)))]:=by
 unfold sel65 at h
 split at h
 ·obtain⟨hc,h2⟩:=bif_some h
  cases h2
  have e0:=beq_eq (and_l hc)
  have e1:=beq_eq (and_l (and_r hc))
  have e2:=beq_eq (and_l (and_r (and_r hc)))
  have e3:=natsB_eq (and_l (and_r (and_r (and_r hc))))
  have e4:=beq_eq (and_l (and_r (and_r (and_r (and_r hc)))))
  have e5:=beq_eq (and_l (and_r (and_r (and_r (and_r (and_r hc))))))
  have e6:=natsB_eq (and_l (and_r (and_r (and_r (and_r (and_r (and_r hc)))))))
  have e7:=beq_eq (and_l (and_r (and_r (and_r (and_r (and_r (and_r (and_r hc))))))))
  have e8:=beq_eq (and_l (and_r (and_r (and_r (and_r (and_r (and_r (and_r (and_r hc)))))))))
  have e9:=beq_eq (and_l (and_r (and_r (and_r (and_r (and_r (and_r (and_r (and_r (and_r hc))))))))))
  have e10:=beq_eq (and_l (and_r (and_r (and_r (and_r (and_r (and_r (and_r (and_r (and_r (and_r hc)))))))))))
  have e11:=beq_eq (and_r (and_r (and_r (and_r (and_r (and_r (and_r (and_r (and_r (and_r (and_r hc)))))))))))
  subst e0 e1 e2 e3 e4 e5 e6 e7 e8 e9 e10 e11
  exact⟨(.cons (.of .same rfl rfl) (.cons (.of (.fn (.cons .same (.cons .same .nil))) rfl rfl) .nil)),(.cons (.box (.dat (.int Tryd.underlying3))) (.cons (.box (.dat (.int Tryd.underlying3))) .nil))⟩
 ·cases h
def sel66 (args:List AV) (objs:List Ob):Option (Dt×Int×Int):=match args,objs with
 | [.dat T0 x0,.ptr n1 p1 o1,.ptr n2 p2 o2],[.box T3 (.dat T4 x4),.box T5 (.dat T6 x6)]=>bif (Nat.beq T0 25&&(Nat.beq n1 0&&(natsB p1 []&&(Nat.beq o1 0&&(Nat.beq n2 1&&(natsB p2 []&&(Nat.beq o2 0&&(Nat.beq T3 3&&(Nat.beq T4 3&&(Nat.beq T5 3&&Nat.beq T6 3)))))))))) then some (x0,x4.toInt,x6.toInt) else none
 |_,_=>none
theorem sel66_ok {args:List AV} {objs:List Ob} {l:Dt×Int×Int} (h:sel66 args objs=some l):CnA Tryd.prog args [(.dat 25 l.1),(.ptr 0 [] 0),(.ptr 1 [] 0)]∧CnOL Tryd.prog objs [(.box 3 (.dat 3 (.int l.2.1))),(.box 3 (.dat 3 (.int l.2.2)))]:=by
 unfold sel66 at h
 split at h
 ·obtain⟨hc,h2⟩:=bif_some h
  cases h2
  have e0:=beq_eq (and_l hc)
  have e1:=beq_eq (and_l (and_r hc))
  have e2:=natsB_eq (and_l (and_r (and_r hc)))
  have e3:=beq_eq (and_l (and_r (and_r (and_r hc))))
  have e4:=beq_eq (and_l (and_r (and_r (and_r (and_r hc)))))
  have e5:=natsB_eq (and_l (and_r (and_r (and_r (and_r (and_r hc))))))
  have e6:=beq_eq (and_l (and_r (and_r (and_r (and_r (and_r (and_r hc)))))))
  have e7:=beq_eq (and_l (and_r (and_r (and_r (and_r (and_r (and_r (and_r hc))))))))
  have e8:=beq_eq (and_l (and_r (and_r (and_r (and_r (and_r (and_r (and_r (and_r hc)))))))))
  have e9:=beq_eq (and_l (and_r (and_r (and_r (and_r (and_r (and_r (and_r (and_r (and_r hc))))))))))
  have e10:=beq_eq (and_r (and_r (and_r (and_r (and_r (and_r (and_r (and_r (and_r (and_r hc))))))))))
  subst e0 e1 e2 e3 e4 e5 e6 e7 e8 e9 e10
  exact⟨(.cons (.of .same rfl rfl) (.cons (.of .same rfl rfl) (.cons (.of .same rfl rfl) .nil))),(.cons (.box (.dat (.int Tryd.underlying3))) (.cons (.box (.dat (.int Tryd.underlying3))) .nil))⟩
 ·cases h
def sel67 (args:List AV) (objs:List Ob):Option (Dt×Int×Int):=match args,objs with
 | [.dat T0 x0,.fn T1 [.ptr n2 p2 o2,.ptr n3 p3 o3]],[.box T4 (.dat T5 x5),.box T6 (.dat T7 x7)]=>bif (Nat.beq T0 25&&(Nat.beq T1 87&&(Nat.beq n2 0&&(natsB p2 []&&(Nat.beq o2 0&&(Nat.beq n3 1&&(natsB p3 []&&(Nat.beq o3 0&&(Nat.beq T4 3&&(Nat.beq T5 3&&(Nat.beq T6 3&&Nat.beq T7 3))))))))))) then some (x0,x5.toInt,x7.toInt) else none
 |_,_=>none
theorem sel67_ok {args:List AV} {objs:List Ob} {l:Dt×Int×Int} (h:sel67 args objs=some l):CnA Tryd.prog args [(.dat 25 l.1),(.fn 87 [(.ptr 0 [] 0),(.ptr 1 [] 0)])]∧CnOL Tryd.prog objs [(.box 3 (.dat 3 (.int l.2.1))),(.box 3 (.dat 3 (.int l.2.2)))]:=by
 unfold sel67 at h
 split at h
 ·obtain⟨hc,h2⟩:=bif_some h
  cases h2
  have e0:=beq_eq (and_l hc)
  have e1:=beq_eq (and_l (and_r hc))
  have e2:=beq_eq (and_l (and_r (and_r hc)))
  have e3:=natsB_eq (and_l (and_r (and_r (and_r hc))))
  have e4:=beq_eq (and_l (and_r (and_r (and_r (and_r hc)))))
  have e5:=beq_eq (and_l (and_r (and_r (and_r (and_r (and_r hc))))))
  have e6:=natsB_eq (and_l (and_r (and_r (and_r (and_r (and_r (and_r hc)))))))
  have e7:=beq_eq (and_l (and_r (and_r (and_r (and_r (and_r (and_r (and_r hc))))))))
  have e8:=beq_eq (and_l (and_r (and_r (and_r (and_r (and_r (and_r (and_r (and_r hc)))))))))
  have e9:=beq_eq (and_l (and_r (and_r (and_r (and_r (and_r (and_r (and_r (and_r (and_r hc))))))))))
  have e10:=beq_eq (and_l (and_r (and_r (and_r (and_r (and_r (and_r (and_r (and_r (and_r (and_r hc)))))))))))
  have e11:=beq_eq (and_r (and_r (and_r (and_r (and_r (and_r (and_r (and_r (and_r (and_r (and_r hc)))))))))))
  subst e0 e1 e2 e3 e4 e5 e6 e7 e8 e9 e10 e11
  exact⟨(.cons (.of .same rfl rfl) (.cons (.of (.fn (.cons .same (.cons .same .nil))) rfl rfl) .nil)),(.cons (.box (.dat (.int Tryd.underlying3))) (.cons (.box (.dat (.int Tryd.underlying3))) .nil))⟩
 ·cases h
def sel68 (args:List AV) (objs:List Ob):Option (Dt×Int×Int):=match args,objs with
 | [.dat T0 x0,.ptr n1 p1 o1,.ptr n2 p2 o2],[.box T3 (.dat T4 x4),.box T5 (.dat T6 x6)]=>bif (Nat.beq T0 25&&(Nat.beq n1 0&&(natsB p1 []&&(Nat.beq o1 0&&(Nat.beq n2 1&&(natsB p2 []&&(Nat.beq o2 0&&(Nat.beq T3 3&&(Nat.beq T4 3&&(Nat.beq T5 3&&Nat.beq T6 3)))))))))) then some (x0,x4.toInt,x6.toInt) else none
 |_,_=>none
theorem sel68_ok {args:List AV} {objs:List Ob} {l:Dt×Int×Int} (h:sel68 args objs=some l):CnA Tryd.prog args [(.dat 25 l.1),(.ptr 0 [] 0),(.ptr 1 [] 0)]∧CnOL Tryd.prog objs [(.box 3 (.dat 3 (.int l.2.1))),(.box 3 (.dat 3 (.int l.2.2)))]:=by
 unfold sel68 at h
 split at h
 ·obtain⟨hc,h2⟩:=bif_some h
  cases h2
  have e0:=beq_eq (and_l hc)
  have e1:=beq_eq (and_l (and_r hc))
  have e2:=natsB_eq (and_l (and_r (and_r hc)))
  have e3:=beq_eq (and_l (and_r (and_r (and_r hc))))
  have e4:=beq_eq (and_l (and_r (and_r (and_r (and_r hc)))))
  have e5:=natsB_eq (and_l (and_r (and_r (and_r (and_r (and_r hc))))))
  have e6:=beq_eq (and_l (and_r (and_r (and_r (and_r (and_r (and_r hc)))))))
  have e7:=beq_eq (and_l (and_r (and_r (and_r (and_r (and_r (and_r (and_r hc))))))))
  have e8:=beq_eq (and_l (and_r (and_r (and_r (and_r (and_r (and_r (and_r (and_r hc)))))))))
  have e9:=beq_eq (and_l (and_r (and_r (and_r (and_r (and_r (and_r (and_r (and_r (and_r hc))))))))))
  have e10:=beq_eq (and_r (and_r (and_r (and_r (and_r (and_r (and_r (and_r (and_r (and_r hc))))))))))
  subst e0 e1 e2 e3 e4 e5 e6 e7 e8 e9 e10
  exact⟨(.cons (.of .same rfl rfl) (.cons (.of .same rfl rfl) (.cons (.of .same rfl rfl) .nil))),(.cons (.box (.dat (.int Tryd.underlying3))) (.cons (.box (.dat (.int Tryd.underlying3))) .nil))⟩
 ·cases h
def sel69 (args:List AV) (objs:List Ob):Option ByteArray:=match args,objs with
 | [.dat T0 x0],[]=>bif Nat.beq T0 9 then some x0.toStr else none
 |_,_=>none
theorem sel69_ok {args:List AV} {objs:List Ob} {l:ByteArray} (h:sel69 args objs=some l):CnA Tryd.prog args [(.dat 9 (.str l))]∧CnOL Tryd.prog objs []:=by
 unfold sel69 at h
 split at h
 ·obtain⟨hc,h2⟩:=bif_some h
  cases h2
  have e0:=beq_eq hc
  subst e0
  exact⟨(.cons (.of (.dat (.str Tryd.underlying9)) rfl rfl) .nil),.nil⟩
 ·cases h
noncomputable def ct4 {R:Type} (m:Nat) (args:List AV) (objs:List Ob) (K:Res→Option R):Option R:=match sel0 args objs with
 |some l=>(law14_SchemaPaths m l.1 l.2).bind fun r=>K ((.dat 4 (.bool r)),[])
 |none=>none
noncomputable def ct11 {R:Type} (m:Nat) (args:List AV) (objs:List Ob) (K:Res→Option R):Option R:=match sel1 args objs with
 |some l=>(law14_few m l.1 l.2).bind fun r=>K ((.dat 4 (.bool r)),[])
 |none=>none
noncomputable def ct8 {R:Type} (m:Nat) (args:List AV) (objs:List Ob) (K:Res→Option R):Option R:=match sel2 args objs with
 |some l=>(awakeC).bind fun r=>K ((.dat 4 (.bool r)),[])
 |none=>none
noncomputable def ct13 {R:Type} (m:Nat) (args:List AV) (objs:List Ob) (K:Res→Option R):Option R:=match sel3 args objs with
 |some l=>(schema_Check m l.1 l.2).bind fun r=>K ((.dat 38 (.lst r)),[])
 |none=>none
noncomputable def ct14 {R:Type} (m:Nat) (args:List AV) (objs:List Ob) (K:Res→Option R):Option R:=match sel4 args objs with
 |some l=>(law14_walk m l.1 l.2).bind fun r=>K ((.dat 4 (.bool r)),[])
 |none=>none
noncomputable def ct9 {R:Type} (m:Nat) (args:List AV) (objs:List Ob) (K:Res→Option R):Option R:=match sel5 args objs with
 |some l=>(schema_Valid m l).bind fun r=>K ((.dat 33 (.int r)),[])
 |none=>none
noncomputable def ct12 {R:Type} (m:Nat) (args:List AV) (objs:List Ob) (K:Res→Option R):Option R:=match sel6 args objs with
 |some l=>(ref01_Valid m l).bind fun r=>K ((.dat 4 (.bool r)),[])
 |none=>none
noncomputable def ct7 {R:Type} (m:Nat) (args:List AV) (objs:List Ob) (K:Res→Option R):Option R:=match sel7 args objs with
 |some l=>(ref14_Count m l.1 l.2).bind fun r=>K ((.dat 3 (.int r)),[])
 |none=>none
noncomputable def ct15 {R:Type} (m:Nat) (args:List AV) (objs:List Ob) (K:Res→Option R):Option R:=match sel8 args objs with
 |some l=>(ref02_Few m l.1 l.2).bind fun r=>K ((.dat 4 (.bool r)),[])
 |none=>none
noncomputable def ct25 {R:Type} (m:Nat) (args:List AV) (objs:List Ob) (K:Res→Option R):Option R:=match sel9 args objs with
 |some l=>(i9 m l.1 l.2.1 l.2.2.1 l.2.2.2).bind fun r=>K ((.row 2),[.gone,(.frz 26 r.1),(.row 38 r.2)])
 |none=>match sel24 args objs with
 |some l=>(i24 m l.1 l.2.1 l.2.2.1 l.2.2.2).bind fun r=>K ((.row 1),[.gone,(.row 38 r)])
 |none=>none
noncomputable def ct41 {R:Type} (m:Nat) (args:List AV) (objs:List Ob) (K:Res→Option R):Option R:=match sel10 args objs with
 |some l=>(schema_hasKind m l.1 l.2).bind fun r=>K ((.dat 4 (.bool r)),[])
 |none=>none
noncomputable def ct37 {R:Type} (m:Nat) (args:List AV) (objs:List Ob) (K:Res→Option R):Option R:=match sel11 args objs with
 |some l=>(i11 m l.1 l.2.1 l.2.2.1 l.2.2.2.1 l.2.2.2.2).bind fun r=>K ((.tup []),[(.box 38 (.row 4)),.gone,(.box 26 (.dat 26 (.lst r.1))),(.frz 26 r.2.1),(.row 38 r.2.2)])
 |none=>match sel17 args objs with
 |some l=>(i17 m l.1 l.2.1 l.2.2.1 l.2.2.2.1 l.2.2.2.2).bind fun r=>K ((.tup []),[(.box 38 (.row 3)),.gone,(.box 26 (.dat 26 (.lst r.1))),(.row 38 r.2)])
 |none=>none
noncomputable def ct38 {R:Type} (m:Nat) (args:List AV) (objs:List Ob) (K:Res→Option R):Option R:=match sel12 args objs with
 |some l=>(slices_Concat m l).bind fun r=>K ((.dat 26 (.lst r)),[])
 |none=>none
noncomputable def ct42 {R:Type} (m:Nat) (args:List AV) (objs:List Ob) (K:Res→Option R):Option R:=match sel13 args objs with
 |some l=>(i13 m l.1 l.2).bind fun r=>K ((.dat 4 (.bool r)),[])
 |none=>none
noncomputable def ct65 {R:Type} (m:Nat) (args:List AV) (objs:List Ob) (K:Res→Option R):Option R:=match sel14 args objs with
 |some l=>(i14 m l.1 l.2).bind fun r=>K ((.dat 3 (.int r)),[])
 |none=>none
noncomputable def ct39 {R:Type} (m:Nat) (args:List AV) (objs:List Ob) (K:Res→Option R):Option R:=match sel15 args objs with
 |some l=>(i15 m l.1 l.2).bind fun r=>K ((.dat 4 (.bool r)),[])
 |none=>none
noncomputable def ct40 {R:Type} (m:Nat) (args:List AV) (objs:List Ob) (K:Res→Option R):Option R:=match sel16 args objs with
 |some l=>(value_Equal m l.1 l.2).bind fun r=>K ((.dat 4 (.bool r)),[])
 |none=>none
noncomputable def ct43 {R:Type} (m:Nat) (args:List AV) (objs:List Ob) (K:Res→Option R):Option R:=match sel18 args objs with
 |some l=>(value_Compare m l.1 l.2).bind fun r=>K ((.dat 3 (.int r)),[])
 |none=>none
noncomputable def ct44 {R:Type} (m:Nat) (args:List AV) (objs:List Ob) (K:Res→Option R):Option R:=match sel19 args objs with
 |some l=>(schema_length m l).bind fun r=>K ((.tup [(.dat 3 (.int r.1)),(.dat 4 (.bool r.2))]),[])
 |none=>none
noncomputable def ct45 {R:Type} (m:Nat) (args:List AV) (objs:List Ob) (K:Res→Option R):Option R:=match sel20 args objs with
 |some l=>(schema_field m l.1 l.2).bind fun r=>K ((.tup [(.dat 25 r.1),(.dat 4 (.bool r.2))]),[])
 |none=>none
noncomputable def ct47 {R:Type} (m:Nat) (args:List AV) (objs:List Ob) (K:Res→Option R):Option R:=match sel21 args objs with
 |some l=>(i21 m l.1 l.2).bind fun r=>K ((.dat 4 (.bool r)),[])
 |none=>none
noncomputable def ct68 {R:Type} (m:Nat) (args:List AV) (objs:List Ob) (K:Res→Option R):Option R:=match sel22 args objs with
 |some l=>(i22 m l.1 l.2).bind fun r=>K ((.dat 3 (.int r)),[])
 |none=>none
noncomputable def ct46 {R:Type} (m:Nat) (args:List AV) (objs:List Ob) (K:Res→Option R):Option R:=match sel23 args objs with
 |some l=>(i23 m l.1 l.2).bind fun r=>K ((.dat 4 (.bool r)),[])
 |none=>none
noncomputable def ct48 {R:Type} (m:Nat) (args:List AV) (objs:List Ob) (K:Res→Option R):Option R:=match sel25 args objs with
 |some l=>(schema_repeats m l).bind fun r=>K ((.dat 4 (.bool r)),[])
 |none=>none
noncomputable def ct49 {R:Type} (m:Nat) (args:List AV) (objs:List Ob) (K:Res→Option R):Option R:=match sel26 args objs with
 |some l=>(strconv_Itoa l).bind fun r=>K ((.dat 9 (.str r)),[])
 |none=>none
noncomputable def ct26 {R:Type} (m:Nat) (args:List AV) (objs:List Ob) (K:Res→Option R):Option R:=match sel27 args objs with
 |some l=>(law14_index m l.1 l.2).bind fun r=>K ((.dat 3 (.int r)),[])
 |none=>none
noncomputable def ct27 {R:Type} (m:Nat) (args:List AV) (objs:List Ob) (K:Res→Option R):Option R:=match sel28 args objs with
 |some l=>(ref01_Get m l.1 l.2).bind fun r=>K ((.tup [(.dat 25 r.1),(.dat 4 (.bool r.2))]),[])
 |none=>none
noncomputable def ct20 {R:Type} (m:Nat) (args:List AV) (objs:List Ob) (K:Res→Option R):Option R:=match sel29 args objs with
 |some l=>(i29 m l.1 l.2.1 l.2.2).bind fun r=>K ((.dat 33 (.int r.1)),[(.box 3 (.dat 3 (.int r.2)))])
 |none=>none
noncomputable def ct31 {R:Type} (m:Nat) (args:List AV) (objs:List Ob) (K:Res→Option R):Option R:=match sel30 args objs with
 |some l=>(schema_checkOne m l).bind fun r=>K ((.dat 33 (.int r)),[])
 |none=>none
noncomputable def ct22 {R:Type} (m:Nat) (args:List AV) (objs:List Ob) (K:Res→Option R):Option R:=match sel31 args objs with
 |some l=>(ref01_Depth m l).bind fun r=>K ((.dat 3 (.int r)),[])
 |none=>none
noncomputable def ct23 {R:Type} (m:Nat) (args:List AV) (objs:List Ob) (K:Res→Option R):Option R:=match sel32 args objs with
 |some l=>(ref01_Nodes m l).bind fun r=>K ((.dat 3 (.int r)),[])
 |none=>none
noncomputable def ct24 {R:Type} (m:Nat) (args:List AV) (objs:List Ob) (K:Res→Option R):Option R:=match sel33 args objs with
 |some l=>(ref01_formed m l.1 l.2).bind fun r=>K ((.dat 4 (.bool r)),[])
 |none=>none
noncomputable def ct28 {R:Type} (m:Nat) (args:List AV) (objs:List Ob) (K:Res→Option R):Option R:=match sel34 args objs with
 |some l=>(ref02_count m l.1 l.2.1 l.2.2).bind fun r=>K ((.dat 3 (.int r)),[])
 |none=>none
noncomputable def ct64 {R:Type} (m:Nat) (args:List AV) (objs:List Ob) (K:Res→Option R):Option R:=match sel35 args objs with
 |some l=>(slices_Grow l).bind fun r=>K ((.row 0),[(.row 26 r)])
 |none=>none
noncomputable def ct66 {R:Type} (m:Nat) (args:List AV) (objs:List Ob) (K:Res→Option R):Option R:=match sel36 args objs with
 |some l=>(cmp_Compare m l.1 l.2).bind fun r=>K ((.dat 3 (.int r)),[])
 |none=>none
noncomputable def ct67 {R:Type} (m:Nat) (args:List AV) (objs:List Ob) (K:Res→Option R):Option R:=match sel37 args objs with
 |some l=>(strings_Compare l.1 l.2).bind fun r=>K ((.dat 3 (.int r)),[])
 |none=>none
noncomputable def ct69 {R:Type} (m:Nat) (args:List AV) (objs:List Ob) (K:Res→Option R):Option R:=match sel38 args objs with
 |some l=>(slices_Clone l).bind fun r=>K ((.row 0),[(.row 22 r)])
 |none=>none
noncomputable def ct70 {R:Type} (m:Nat) (args:List AV) (objs:List Ob) (K:Res→Option R):Option R:=match sel39 args objs with
 |some l=>(i39 m l).bind fun r=>K ((.tup []),[(.row 22 r)])
 |none=>none
noncomputable def ct83 {R:Type} (m:Nat) (args:List AV) (objs:List Ob) (K:Res→Option R):Option R:=match sel40 args objs with
 |some l=>(i40 m l.1 l.2).bind fun r=>K ((.tup []),[(.row 22 r)])
 |none=>none
noncomputable def ct92 {R:Type} (m:Nat) (args:List AV) (objs:List Ob) (K:Res→Option R):Option R:=match sel41 args objs with
 |some l=>(i41 m l.1 l.2.1 l.2.2).bind fun r=>K ((.tup []),[(.row 22 r)])
 |none=>none
noncomputable def ct93 {R:Type} (m:Nat) (args:List AV) (objs:List Ob) (K:Res→Option R):Option R:=match sel42 args objs with
 |some l=>(i42 m l.1 l.2.1 l.2.2.1 l.2.2.2).bind fun r=>K ((.tup []),[(.row 22 r)])
 |none=>none
noncomputable def ct100 {R:Type} (m:Nat) (args:List AV) (objs:List Ob) (K:Res→Option R):Option R:=match sel43 args objs with
 |some l=>(i43 m l.1 l.2.1 l.2.2.1 l.2.2.2).bind fun r=>K ((.tup []),[(.row 22 r)])
 |none=>none
noncomputable def ct106 {R:Type} (m:Nat) (args:List AV) (objs:List Ob) (K:Res→Option R):Option R:=match sel44 args objs with
 |some l=>(i44 m l.1 l.2.1 l.2.2.1 l.2.2.2).bind fun r=>K ((.tup []),[(.row 22 r)])
 |none=>none
noncomputable def ct50 {R:Type} (m:Nat) (args:List AV) (objs:List Ob) (K:Res→Option R):Option R:=match sel45 args objs with
 |some l=>(ref01_at m l.1 l.2).bind fun r=>K ((.dat 3 (.int r)),[])
 |none=>none
noncomputable def ct56 {R:Type} (m:Nat) (args:List AV) (objs:List Ob) (K:Res→Option R):Option R:=match sel46 args objs with
 |some l=>(schema_isName m l).bind fun r=>K ((.dat 4 (.bool r)),[])
 |none=>none
noncomputable def ct57 {R:Type} (m:Nat) (args:List AV) (objs:List Ob) (K:Res→Option R):Option R:=match sel47 args objs with
 |some l=>(schema_bound m l.1 l.2).bind fun r=>K ((.dat 4 (.bool r)),[])
 |none=>none
noncomputable def ct54 {R:Type} (m:Nat) (args:List AV) (objs:List Ob) (K:Res→Option R):Option R:=match sel48 args objs with
 |some l=>(value_Valid m l).bind fun r=>K ((.dat 4 (.bool r)),[])
 |none=>none
noncomputable def ct33 {R:Type} (m:Nat) (args:List AV) (objs:List Ob) (K:Res→Option R):Option R:=match sel49 args objs with
 |some l=>(ref01_levels m l.1 l.2).bind fun r=>K ((.dat 3 (.int r)),[])
 |none=>none
noncomputable def ct34 {R:Type} (m:Nat) (args:List AV) (objs:List Ob) (K:Res→Option R):Option R:=match sel50 args objs with
 |some l=>(ref01_count m l.1 l.2).bind fun r=>K ((.dat 3 (.int r)),[])
 |none=>none
noncomputable def ct35 {R:Type} (m:Nat) (args:List AV) (objs:List Ob) (K:Res→Option R):Option R:=match sel51 args objs with
 |some l=>(ref01_UTF8 m l).bind fun r=>K ((.dat 4 (.bool r)),[])
 |none=>none
noncomputable def ct36 {R:Type} (m:Nat) (args:List AV) (objs:List Ob) (K:Res→Option R):Option R:=match sel52 args objs with
 |some l=>(ref01_fields m l.1 l.2).bind fun r=>K ((.dat 4 (.bool r)),[])
 |none=>none
noncomputable def ct81 {R:Type} (m:Nat) (args:List AV) (objs:List Ob) (K:Res→Option R):Option R:=match sel53 args objs with
 |some l=>(cmp_isNaN m l).bind fun r=>K ((.dat 4 (.bool r)),[])
 |none=>none
noncomputable def ct51 {R:Type} (m:Nat) (args:List AV) (objs:List Ob) (K:Res→Option R):Option R:=match sel54 args objs with
 |some l=>(value_Nodes m l).bind fun r=>K ((.dat 3 (.int r)),[])
 |none=>none
noncomputable def ct52 {R:Type} (m:Nat) (args:List AV) (objs:List Ob) (K:Res→Option R):Option R:=match sel55 args objs with
 |some l=>(value_Depth m l).bind fun r=>K ((.dat 3 (.int r)),[])
 |none=>none
noncomputable def ct75 {R:Type} (m:Nat) (args:List AV) (objs:List Ob) (K:Res→Option R):Option R:=match sel56 args objs with
 |some l=>(value_sound m l).bind fun r=>K ((.dat 4 (.bool r)),[])
 |none=>none
noncomputable def ct60 {R:Type} (m:Nat) (args:List AV) (objs:List Ob) (K:Res→Option R):Option R:=match sel57 args objs with
 |some l=>(ref01_Parts m l).bind fun r=>K ((.dat 22 (.lst r)),[])
 |none=>none
noncomputable def ct61 {R:Type} (m:Nat) (args:List AV) (objs:List Ob) (K:Res→Option R):Option R:=match sel58 args objs with
 |some l=>(ref01_tail m l.1 l.2.1 l.2.2).bind fun r=>K ((.dat 4 (.bool r)),[])
 |none=>none
noncomputable def ct62 {R:Type} (m:Nat) (args:List AV) (objs:List Ob) (K:Res→Option R):Option R:=match sel59 args objs with
 |some l=>(ref01_Name m l).bind fun r=>K ((.dat 4 (.bool r)),[])
 |none=>none
noncomputable def ct63 {R:Type} (m:Nat) (args:List AV) (objs:List Ob) (K:Res→Option R):Option R:=match sel60 args objs with
 |some l=>(ref01_wide m l).bind fun r=>K ((.dat 4 (.bool r)),[])
 |none=>none
noncomputable def ct72 {R:Type} (m:Nat) (args:List AV) (objs:List Ob) (K:Res→Option R):Option R:=match sel61 args objs with
 |some l=>(value_nodes m l.1 l.2).bind fun r=>K ((.dat 3 (.int r)),[])
 |none=>none
noncomputable def ct73 {R:Type} (m:Nat) (args:List AV) (objs:List Ob) (K:Res→Option R):Option R:=match sel62 args objs with
 |some l=>(value_depth m l.1 l.2).bind fun r=>K ((.dat 3 (.int r)),[])
 |none=>none
noncomputable def ct88 {R:Type} (m:Nat) (args:List AV) (objs:List Ob) (K:Res→Option R):Option R:=match sel63 args objs with
 |some l=>(utf8_ValidString l).bind fun r=>K ((.dat 4 (.bool r)),[])
 |none=>none
noncomputable def ct89 {R:Type} (m:Nat) (args:List AV) (objs:List Ob) (K:Res→Option R):Option R:=match sel64 args objs with
 |some l=>(value_soundFields m l).bind fun r=>K ((.dat 4 (.bool r)),[])
 |none=>none
noncomputable def ct85 {R:Type} (m:Nat) (args:List AV) (objs:List Ob) (K:Res→Option R):Option R:=match sel65 args objs with
 |some l=>(i65 m l.1 l.2.1 l.2.2).bind fun r=>K ((.tup []),[(.box 3 (.dat 3 (.int r.1))),(.box 3 (.dat 3 (.int r.2)))])
 |none=>match sel67 args objs with
 |some l=>(i67 m l.1 l.2.1 l.2.2).bind fun r=>K ((.tup []),[(.box 3 (.dat 3 (.int r.1))),(.box 3 (.dat 3 (.int r.2)))])
 |none=>none
noncomputable def ct86 {R:Type} (m:Nat) (args:List AV) (objs:List Ob) (K:Res→Option R):Option R:=match sel66 args objs with
 |some l=>(i66 m l.1 l.2.1 l.2.2).bind fun r=>K ((.dat 4 (.bool r.1)),[(.box 3 (.dat 3 (.int r.2.1))),(.box 3 (.dat 3 (.int r.2.2)))])
 |none=>none
noncomputable def ct87 {R:Type} (m:Nat) (args:List AV) (objs:List Ob) (K:Res→Option R):Option R:=match sel68 args objs with
 |some l=>(i68 m l.1 l.2.1 l.2.2).bind fun r=>K ((.dat 4 (.bool r.1)),[(.box 3 (.dat 3 (.int r.2.1))),(.box 3 (.dat 3 (.int r.2.2)))])
 |none=>none
noncomputable def ct99 {R:Type} (m:Nat) (args:List AV) (objs:List Ob) (K:Res→Option R):Option R:=match sel69 args objs with
 |some l=>(value_isName m l).bind fun r=>K ((.dat 4 (.bool r)),[])
 |none=>none
noncomputable def ct {R:Type} (m:Nat) (f:FuncId) (args:List AV) (objs:List Ob) (K:Res→Option R):Option R:=
 bif Nat.beq f 4 then ct4 m args objs K else
 bif Nat.beq f 11 then ct11 m args objs K else
 bif Nat.beq f 8 then ct8 m args objs K else
 bif Nat.beq f 13 then ct13 m args objs K else
 bif Nat.beq f 14 then ct14 m args objs K else
 bif Nat.beq f 9 then ct9 m args objs K else
 bif Nat.beq f 12 then ct12 m args objs K else
 bif Nat.beq f 7 then ct7 m args objs K else
 bif Nat.beq f 15 then ct15 m args objs K else
 bif Nat.beq f 25 then ct25 m args objs K else
 bif Nat.beq f 41 then ct41 m args objs K else
 bif Nat.beq f 37 then ct37 m args objs K else
 bif Nat.beq f 38 then ct38 m args objs K else
 bif Nat.beq f 42 then ct42 m args objs K else
 bif Nat.beq f 65 then ct65 m args objs K else
 bif Nat.beq f 39 then ct39 m args objs K else
 bif Nat.beq f 40 then ct40 m args objs K else
 bif Nat.beq f 43 then ct43 m args objs K else
 bif Nat.beq f 44 then ct44 m args objs K else
 bif Nat.beq f 45 then ct45 m args objs K else
 bif Nat.beq f 47 then ct47 m args objs K else
 bif Nat.beq f 68 then ct68 m args objs K else
 bif Nat.beq f 46 then ct46 m args objs K else
 bif Nat.beq f 48 then ct48 m args objs K else
 bif Nat.beq f 49 then ct49 m args objs K else
 bif Nat.beq f 26 then ct26 m args objs K else
 bif Nat.beq f 27 then ct27 m args objs K else
 bif Nat.beq f 20 then ct20 m args objs K else
 bif Nat.beq f 31 then ct31 m args objs K else
 bif Nat.beq f 22 then ct22 m args objs K else
 bif Nat.beq f 23 then ct23 m args objs K else
 bif Nat.beq f 24 then ct24 m args objs K else
 bif Nat.beq f 28 then ct28 m args objs K else
 bif Nat.beq f 64 then ct64 m args objs K else
 bif Nat.beq f 66 then ct66 m args objs K else
 bif Nat.beq f 67 then ct67 m args objs K else
 bif Nat.beq f 69 then ct69 m args objs K else
 bif Nat.beq f 70 then ct70 m args objs K else
 bif Nat.beq f 83 then ct83 m args objs K else
 bif Nat.beq f 92 then ct92 m args objs K else
 bif Nat.beq f 93 then ct93 m args objs K else
 bif Nat.beq f 100 then ct100 m args objs K else
 bif Nat.beq f 106 then ct106 m args objs K else
 bif Nat.beq f 50 then ct50 m args objs K else
 bif Nat.beq f 56 then ct56 m args objs K else
 bif Nat.beq f 57 then ct57 m args objs K else
 bif Nat.beq f 54 then ct54 m args objs K else
 bif Nat.beq f 33 then ct33 m args objs K else
 bif Nat.beq f 34 then ct34 m args objs K else
 bif Nat.beq f 35 then ct35 m args objs K else
 bif Nat.beq f 36 then ct36 m args objs K else
 bif Nat.beq f 81 then ct81 m args objs K else
 bif Nat.beq f 51 then ct51 m args objs K else
 bif Nat.beq f 52 then ct52 m args objs K else
 bif Nat.beq f 75 then ct75 m args objs K else
 bif Nat.beq f 60 then ct60 m args objs K else
 bif Nat.beq f 61 then ct61 m args objs K else
 bif Nat.beq f 62 then ct62 m args objs K else
 bif Nat.beq f 63 then ct63 m args objs K else
 bif Nat.beq f 72 then ct72 m args objs K else
 bif Nat.beq f 73 then ct73 m args objs K else
 bif Nat.beq f 88 then ct88 m args objs K else
 bif Nat.beq f 89 then ct89 m args objs K else
 bif Nat.beq f 85 then ct85 m args objs K else
 bif Nat.beq f 86 then ct86 m args objs K else
 bif Nat.beq f 87 then ct87 m args objs K else
 bif Nat.beq f 99 then ct99 m args objs K else
 none
end Go.Proofs.YtfneddmmeadacaaDoor
