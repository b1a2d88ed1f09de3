/- Generated: the functions as contracts for their callers. -/
import Derived.Test.YtpifchdngodgjaaGreatDoorSh
import Derived.Test.YtpifchdngodgjaaGreatDoorProg
import Derived.KernelRfl
set_option linter.unusedVariables false
set_option linter.unusedSimpArgs false
namespace Go.Proofs.YtpifchdngodgjaaGreatDoor
open Go.Am
def sel0 (args:List AV) (objs:List Ob):Option (List Dt×Int×Int):=match args,objs with
 | [.dat T0 x0,.dat T1 x1,.dat T2 x2],[]=>bif (Nat.beq T0 23&&(Nat.beq T1 3&&Nat.beq T2 3)) then some (x0.toLst,x1.toInt,x2.toInt) else none
 |_,_=>none
theorem sel0_ok {args:List AV} {objs:List Ob} {l:List Dt×Int×Int} (h:sel0 args objs=some l):CnA Tryz.prog args [(.dat 23 (.lst l.1)),(.dat 3 (.int l.2.1)),(.dat 3 (.int l.2.2))]∧CnOL Tryz.prog objs []:=by
 unfold sel0 at h
 split at h
 ·obtain⟨hc,h2⟩:=bif_some h
  cases h2
  have e0:=beq_eq (and_l hc)
  have e1:=beq_eq (and_l (and_r hc))
  have e2:=beq_eq (and_r (and_r hc))
  subst e0 e1 e2
  exact⟨(.cons (.of (.dat (.lst Tryz.underlying23)) rfl rfl) (.cons (.of (.dat (.int Tryz.underlying3)) rfl rfl) (.cons (.of (.dat (.int Tryz.underlying3)) rfl rfl) .nil))),.nil⟩
 ·cases h
def sel1 (args:List AV) (objs:List Ob):Option (List Dt):=match args,objs with
 | [.dat T0 x0],[]=>bif Nat.beq T0 23 then some x0.toLst else none
 |_,_=>none
theorem sel1_ok {args:List AV} {objs:List Ob} {l:List Dt} (h:sel1 args objs=some l):CnA Tryz.prog args [(.dat 23 (.lst l))]∧CnOL Tryz.prog objs []:=by
 unfold sel1 at h
 split at h
 ·obtain⟨hc,h2⟩:=bif_some h
  cases h2
  have e0:=beq_eq hc
  subst e0
  exact⟨(.cons (.of (.dat (.lst Tryz.underlying23)) rfl rfl) .nil),.nil⟩
 ·cases h
def sel2 (args:List AV) (objs:List Ob):Option Unit:=match args,objs with
 | [],[]=>bif true then some () else none
 |_,_=>none
theorem sel2_ok {args:List AV} {objs:List Ob} {l:Unit} (h:sel2 args objs=some l):CnA Tryz.prog args []∧CnOL Tryz.prog objs []:=by
 unfold sel2 at h
 split at h
 ·obtain⟨hc,h2⟩:=bif_some h
  cases h2
  exact⟨.nil,.nil⟩
 ·cases h
def sel3 (args:List AV) (objs:List Ob):Option Int:=match args,objs with
 | [.dat T0 x0],[]=>bif Nat.beq T0 3 then some x0.toInt else none
 |_,_=>none
theorem sel3_ok {args:List AV} {objs:List Ob} {l:Int} (h:sel3 args objs=some l):CnA Tryz.prog args [(.dat 3 (.int l))]∧CnOL Tryz.prog objs []:=by
 unfold sel3 at h
 split at h
 ·obtain⟨hc,h2⟩:=bif_some h
  cases h2
  have e0:=beq_eq hc
  subst e0
  exact⟨(.cons (.of (.dat (.int Tryz.underlying3)) rfl rfl) .nil),.nil⟩
 ·cases h
def sel4 (args:List AV) (objs:List Ob):Option (List Dt×List Dt×Int×Bool):=match args,objs with
 | [.dat T0 x0,.dat T1 x1,.dat T2 x2,.dat T3 x3],[]=>bif (Nat.beq T0 22&&(Nat.beq T1 23&&(Nat.beq T2 3&&Nat.beq T3 4))) then some (x0.toLst,x1.toLst,x2.toInt,x3.toBool) else none
 |_,_=>none
theorem sel4_ok {args:List AV} {objs:List Ob} {l:List Dt×List Dt×Int×Bool} (h:sel4 args objs=some l):CnA Tryz.prog args [(.dat 22 (.lst l.1)),(.dat 23 (.lst l.2.1)),(.dat 3 (.int l.2.2.1)),(.dat 4 (.bool l.2.2.2))]∧CnOL Tryz.prog objs []:=by
 unfold sel4 at h
 split at h
 ·obtain⟨hc,h2⟩:=bif_some h
  cases h2
  have e0:=beq_eq (and_l hc)
  have e1:=beq_eq (and_l (and_r hc))
  have e2:=beq_eq (and_l (and_r (and_r hc)))
  have e3:=beq_eq (and_r (and_r (and_r hc)))
  subst e0 e1 e2 e3
  exact⟨(.cons (.of (.dat (.lst Tryz.underlying22)) rfl rfl) (.cons (.of (.dat (.lst Tryz.underlying23)) rfl rfl) (.cons (.of (.dat (.int Tryz.underlying3)) rfl rfl) (.cons (.of (.dat (.bool Tryz.underlying4)) rfl rfl) .nil)))),.nil⟩
 ·cases h
def sel5 (args:List AV) (objs:List Ob):Option (Dt×List Dt×Int×Bool):=match args,objs with
 | [.dat T0 x0,.dat T1 x1,.dat T2 x2,.dat T3 x3],[]=>bif (Nat.beq T0 44&&(Nat.beq T1 23&&(Nat.beq T2 3&&Nat.beq T3 4))) then some (x0,x1.toLst,x2.toInt,x3.toBool) else none
 |_,_=>none
theorem sel5_ok {args:List AV} {objs:List Ob} {l:Dt×List Dt×Int×Bool} (h:sel5 args objs=some l):CnA Tryz.prog args [(.dat 44 l.1),(.dat 23 (.lst l.2.1)),(.dat 3 (.int l.2.2.1)),(.dat 4 (.bool l.2.2.2))]∧CnOL Tryz.prog objs []:=by
 unfold sel5 at h
 split at h
 ·obtain⟨hc,h2⟩:=bif_some h
  cases h2
  have e0:=beq_eq (and_l hc)
  have e1:=beq_eq (and_l (and_r hc))
  have e2:=beq_eq (and_l (and_r (and_r hc)))
  have e3:=beq_eq (and_r (and_r (and_r hc)))
  subst e0 e1 e2 e3
  exact⟨(.cons (.of .same rfl rfl) (.cons (.of (.dat (.lst Tryz.underlying23)) rfl rfl) (.cons (.of (.dat (.int Tryz.underlying3)) rfl rfl) (.cons (.of (.dat (.bool Tryz.underlying4)) rfl rfl) .nil)))),.nil⟩
 ·cases h
def sel6 (args:List AV) (objs:List Ob):Option (List Dt×List Dt):=match args,objs with
 | [.dat T0 x0,.dat T1 x1],[]=>bif (Nat.beq T0 23&&Nat.beq T1 23) then some (x0.toLst,x1.toLst) else none
 |_,_=>none
theorem sel6_ok {args:List AV} {objs:List Ob} {l:List Dt×List Dt} (h:sel6 args objs=some l):CnA Tryz.prog args [(.dat 23 (.lst l.1)),(.dat 23 (.lst l.2))]∧CnOL Tryz.prog objs []:=by
 unfold sel6 at h
 split at h
 ·obtain⟨hc,h2⟩:=bif_some h
  cases h2
  have e0:=beq_eq (and_l hc)
  have e1:=beq_eq (and_r hc)
  subst e0 e1
  exact⟨(.cons (.of (.dat (.lst Tryz.underlying23)) rfl rfl) (.cons (.of (.dat (.lst Tryz.underlying23)) rfl rfl) .nil)),.nil⟩
 ·cases h
def sel7 (args:List AV) (objs:List Ob):Option Dt:=match args,objs with
 | [.dat T0 x0],[]=>bif Nat.beq T0 36 then some x0 else none
 |_,_=>none
theorem sel7_ok {args:List AV} {objs:List Ob} {l:Dt} (h:sel7 args objs=some l):CnA Tryz.prog args [(.dat 36 l)]∧CnOL Tryz.prog objs []:=by
 unfold sel7 at h
 split at h
 ·obtain⟨hc,h2⟩:=bif_some h
  cases h2
  have e0:=beq_eq hc
  subst e0
  exact⟨(.cons (.of .same rfl rfl) .nil),.nil⟩
 ·cases h
def sel8 (args:List AV) (objs:List Ob):Option (List Dt×Int×Bool):=match args,objs with
 | [.dat T0 x0,.dat T1 x1,.dat T2 x2],[]=>bif (Nat.beq T0 23&&(Nat.beq T1 3&&Nat.beq T2 4)) then some (x0.toLst,x1.toInt,x2.toBool) else none
 |_,_=>none
theorem sel8_ok {args:List AV} {objs:List Ob} {l:List Dt×Int×Bool} (h:sel8 args objs=some l):CnA Tryz.prog args [(.dat 23 (.lst l.1)),(.dat 3 (.int l.2.1)),(.dat 4 (.bool l.2.2))]∧CnOL Tryz.prog objs []:=by
 unfold sel8 at h
 split at h
 ·obtain⟨hc,h2⟩:=bif_some h
  cases h2
  have e0:=beq_eq (and_l hc)
  have e1:=beq_eq (and_l (and_r hc))
  have e2:=beq_eq (and_r (and_r hc))
  subst e0 e1 e2
  exact⟨(.cons (.of (.dat (.lst Tryz.underlying23)) rfl rfl) (.cons (.of (.dat (.int Tryz.underlying3)) rfl rfl) (.cons (.of (.dat (.bool Tryz.underlying4)) rfl rfl) .nil))),.nil⟩
 ·cases h
def sel9 (args:List AV) (objs:List Ob):Option (List Dt×List Dt):=match args,objs with
 | [.dat T0 x0,.dat T1 x1],[]=>bif (Nat.beq T0 22&&Nat.beq T1 23) then some (x0.toLst,x1.toLst) else none
 |_,_=>none
theorem sel9_ok {args:List AV} {objs:List Ob} {l:List Dt×List Dt} (h:sel9 args objs=some l):CnA Tryz.prog args [(.dat 22 (.lst l.1)),(.dat 23 (.lst l.2))]∧CnOL Tryz.prog objs []:=by
 unfold sel9 at h
 split at h
 ·obtain⟨hc,h2⟩:=bif_some h
  cases h2
  have e0:=beq_eq (and_l hc)
  have e1:=beq_eq (and_r hc)
  subst e0 e1
  exact⟨(.cons (.of (.dat (.lst Tryz.underlying22)) rfl rfl) (.cons (.of (.dat (.lst Tryz.underlying23)) rfl rfl) .nil)),.nil⟩
 ·cases h
def sel10 (args:List AV) (objs:List Ob):Option (List Dt×List Dt×List Dt):=match args,objs with
 | [.dat T0 x0,.dat T1 x1,.dat T2 x2],[]=>bif (Nat.beq T0 22&&(Nat.beq T1 23&&Nat.beq T2 23)) then some (x0.toLst,x1.toLst,x2.toLst) else none
 |_,_=>none
theorem sel10_ok {args:List AV} {objs:List Ob} {l:List Dt×List Dt×List Dt} (h:sel10 args objs=some l):CnA Tryz.prog args [(.dat 22 (.lst l.1)),(.dat 23 (.lst l.2.1)),(.dat 23 (.lst l.2.2))]∧CnOL Tryz.prog objs []:=by
 unfold sel10 at h
 split at h
 ·obtain⟨hc,h2⟩:=bif_some h
  cases h2
  have e0:=beq_eq (and_l hc)
  have e1:=beq_eq (and_l (and_r hc))
  have e2:=beq_eq (and_r (and_r hc))
  subst e0 e1 e2
  exact⟨(.cons (.of (.dat (.lst Tryz.underlying22)) rfl rfl) (.cons (.of (.dat (.lst Tryz.underlying23)) rfl rfl) (.cons (.of (.dat (.lst Tryz.underlying23)) rfl rfl) .nil))),.nil⟩
 ·cases h
def sel11 (args:List AV) (objs:List Ob):Option (Dt×List Dt):=match args,objs with
 | [.dat T0 x0,.dat T1 x1],[]=>bif (Nat.beq T0 44&&Nat.beq T1 23) then some (x0,x1.toLst) else none
 |_,_=>none
theorem sel11_ok {args:List AV} {objs:List Ob} {l:Dt×List Dt} (h:sel11 args objs=some l):CnA Tryz.prog args [(.dat 44 l.1),(.dat 23 (.lst l.2))]∧CnOL Tryz.prog objs []:=by
 unfold sel11 at h
 split at h
 ·obtain⟨hc,h2⟩:=bif_some h
  cases h2
  have e0:=beq_eq (and_l hc)
  have e1:=beq_eq (and_r hc)
  subst e0 e1
  exact⟨(.cons (.of .same rfl rfl) (.cons (.of (.dat (.lst Tryz.underlying23)) rfl rfl) .nil)),.nil⟩
 ·cases h
def sel14 (args:List AV) (objs:List Ob):Option (Dt×Dt):=match args,objs with
 | [.dat T0 x0,.dat T1 x1],[]=>bif (Nat.beq T0 36&&Nat.beq T1 36) then some (x0,x1) else none
 |_,_=>none
theorem sel14_ok {args:List AV} {objs:List Ob} {l:Dt×Dt} (h:sel14 args objs=some l):CnA Tryz.prog args [(.dat 36 l.1),(.dat 36 l.2)]∧CnOL Tryz.prog objs []:=by
 unfold sel14 at h
 split at h
 ·obtain⟨hc,h2⟩:=bif_some h
  cases h2
  have e0:=beq_eq (and_l hc)
  have e1:=beq_eq (and_r hc)
  subst e0 e1
  exact⟨(.cons (.of .same rfl rfl) (.cons (.of .same rfl rfl) .nil)),.nil⟩
 ·cases h
def sel17 (args:List AV) (objs:List Ob):Option (Dt×Bool):=match args,objs with
 | [.dat T0 x0,.dat T1 x1],[]=>bif (Nat.beq T0 36&&Nat.beq T1 4) then some (x0,x1.toBool) else none
 |_,_=>none
theorem sel17_ok {args:List AV} {objs:List Ob} {l:Dt×Bool} (h:sel17 args objs=some l):CnA Tryz.prog args [(.dat 36 l.1),(.dat 4 (.bool l.2))]∧CnOL Tryz.prog objs []:=by
 unfold sel17 at h
 split at h
 ·obtain⟨hc,h2⟩:=bif_some h
  cases h2
  have e0:=beq_eq (and_l hc)
  have e1:=beq_eq (and_r hc)
  subst e0 e1
  exact⟨(.cons (.of .same rfl rfl) (.cons (.of (.dat (.bool Tryz.underlying4)) rfl rfl) .nil)),.nil⟩
 ·cases h
def sel19 (args:List AV) (objs:List Ob):Option (List Dt×List Dt×Int):=match args,objs with
 | [.dat T0 x0,.dat T1 x1,.dat T2 x2],[]=>bif (Nat.beq T0 22&&(Nat.beq T1 23&&Nat.beq T2 3)) then some (x0.toLst,x1.toLst,x2.toInt) else none
 |_,_=>none
theorem sel19_ok {args:List AV} {objs:List Ob} {l:List Dt×List Dt×Int} (h:sel19 args objs=some l):CnA Tryz.prog args [(.dat 22 (.lst l.1)),(.dat 23 (.lst l.2.1)),(.dat 3 (.int l.2.2))]∧CnOL Tryz.prog objs []:=by
 unfold sel19 at h
 split at h
 ·obtain⟨hc,h2⟩:=bif_some h
  cases h2
  have e0:=beq_eq (and_l hc)
  have e1:=beq_eq (and_l (and_r hc))
  have e2:=beq_eq (and_r (and_r hc))
  subst e0 e1 e2
  exact⟨(.cons (.of (.dat (.lst Tryz.underlying22)) rfl rfl) (.cons (.of (.dat (.lst Tryz.underlying23)) rfl rfl) (.cons (.of (.dat (.int Tryz.underlying3)) rfl rfl) .nil))),.nil⟩
 ·cases h
def sel20 (args:List AV) (objs:List Ob):Option (List Dt×Dt×Dt):=match args,objs with
 | [.dat T0 x0,.dat T1 x1,.dat T2 x2],[]=>bif (Nat.beq T0 22&&(Nat.beq T1 36&&Nat.beq T2 36)) then some (x0.toLst,x1,x2) else none
 |_,_=>none
theorem sel20_ok {args:List AV} {objs:List Ob} {l:List Dt×Dt×Dt} (h:sel20 args objs=some l):CnA Tryz.prog args [(.dat 22 (.lst l.1)),(.dat 36 l.2.1),(.dat 36 l.2.2)]∧CnOL Tryz.prog objs []:=by
 unfold sel20 at h
 split at h
 ·obtain⟨hc,h2⟩:=bif_some h
  cases h2
  have e0:=beq_eq (and_l hc)
  have e1:=beq_eq (and_l (and_r hc))
  have e2:=beq_eq (and_r (and_r hc))
  subst e0 e1 e2
  exact⟨(.cons (.of (.dat (.lst Tryz.underlying22)) rfl rfl) (.cons (.of .same rfl rfl) (.cons (.of .same rfl rfl) .nil))),.nil⟩
 ·cases h
def sel22 (args:List AV) (objs:List Ob):Option (Dt×Dt):=match args,objs with
 | [.dat T0 x0,.dat T1 x1],[]=>bif (Nat.beq T0 41&&Nat.beq T1 36) then some (x0,x1) else none
 |_,_=>none
theorem sel22_ok {args:List AV} {objs:List Ob} {l:Dt×Dt} (h:sel22 args objs=some l):CnA Tryz.prog args [(.dat 41 l.1),(.dat 36 l.2)]∧CnOL Tryz.prog objs []:=by
 unfold sel22 at h
 split at h
 ·obtain⟨hc,h2⟩:=bif_some h
  cases h2
  have e0:=beq_eq (and_l hc)
  have e1:=beq_eq (and_r hc)
  subst e0 e1
  exact⟨(.cons (.of .same rfl rfl) (.cons (.of .same rfl rfl) .nil)),.nil⟩
 ·cases h
def sel23 (args:List AV) (objs:List Ob):Option (Dt×Dt×Dt):=match args,objs with
 | [.dat T0 x0,.dat T1 x1,.dat T2 x2],[]=>bif (Nat.beq T0 83&&(Nat.beq T1 85&&Nat.beq T2 36)) then some (x0,x1,x2) else none
 |_,_=>none
theorem sel23_ok {args:List AV} {objs:List Ob} {l:Dt×Dt×Dt} (h:sel23 args objs=some l):CnA Tryz.prog args [(.dat 83 l.1),(.dat 85 l.2.1),(.dat 36 l.2.2)]∧CnOL Tryz.prog objs []:=by
 unfold sel23 at h
 split at h
 ·obtain⟨hc,h2⟩:=bif_some h
  cases h2
  have e0:=beq_eq (and_l hc)
  have e1:=beq_eq (and_l (and_r hc))
  have e2:=beq_eq (and_r (and_r hc))
  subst e0 e1 e2
  exact⟨(.cons (.of .same rfl rfl) (.cons (.of .same rfl rfl) (.cons (.of .same rfl rfl) .nil))),.nil⟩
 ·cases h
def sel24 (args:List AV) (objs:List Ob):Option (Dt×List Dt×List Dt×List Dt):=match args,objs with
 | [.ptr n0 p0 o0,.dat T1 x1,.fn T2 []],[.box T3 (.agg T4 [.row n5,.row n6,.row n7]),.row T8 x8,.row T9 x9,.row T10 x10]=>bif (Nat.beq n0 0&&(natsB p0 []&&(Nat.beq o0 0&&(Nat.beq T1 44&&(Nat.beq T2 36&&(Nat.beq T3 79&&(Nat.beq T4 79&&(Nat.beq n5 1&&(Nat.beq n6 2&&(Nat.beq n7 3&&(Nat.beq T8 23&&(Nat.beq T9 76&&Nat.beq T10 77)))))))))))) then some (x1,x8,x9,x10) else none
 |_,_=>none
theorem sel24_ok {args:List AV} {objs:List Ob} {l:Dt×List Dt×List Dt×List Dt} (h:sel24 args objs=some l):CnA Tryz.prog args [(.ptr 0 [] 0),(.dat 44 l.1),(.fn 36 [])]∧CnOL Tryz.prog objs [(.box 79 (.agg 79 [(.row 1),(.row 2),(.row 3)])),(.row 23 l.2.1),(.row 76 l.2.2.1),(.row 77 l.2.2.2)]:=by
 unfold sel24 at h
 split at h
 ·obtain⟨hc,h2⟩:=bif_some h
  cases h2
  have e0:=beq_eq (and_l hc)
  have e1:=natsB_eq (and_l (and_r hc))
  have e2:=beq_eq (and_l (and_r (and_r hc)))
  have e3:=beq_eq (and_l (and_r (and_r (and_r hc))))
  have e4:=beq_eq (and_l (and_r (and_r (and_r (and_r hc)))))
  have e5:=beq_eq (and_l (and_r (and_r (and_r (and_r (and_r hc))))))
  have e6:=beq_eq (and_l (and_r (and_r (and_r (and_r (and_r (and_r hc)))))))
  have e7:=beq_eq (and_l (and_r (and_r (and_r (and_r (and_r (and_r (and_r hc))))))))
  have e8:=beq_eq (and_l (and_r (and_r (and_r (and_r (and_r (and_r (and_r (and_r hc)))))))))
  have e9:=beq_eq (and_l (and_r (and_r (and_r (and_r (and_r (and_r (and_r (and_r (and_r hc))))))))))
  have e10:=beq_eq (and_l (and_r (and_r (and_r (and_r (and_r (and_r (and_r (and_r (and_r (and_r hc)))))))))))
  have e11:=beq_eq (and_l (and_r (and_r (and_r (and_r (and_r (and_r (and_r (and_r (and_r (and_r (and_r hc))))))))))))
  have e12:=beq_eq (and_r (and_r (and_r (and_r (and_r (and_r (and_r (and_r (and_r (and_r (and_r (and_r hc))))))))))))
  subst e0 e1 e2 e3 e4 e5 e6 e7 e8 e9 e10 e11 e12
  exact⟨(.cons (.of .same rfl rfl) (.cons (.of .same rfl rfl) (.cons (.of (.fn .nil) rfl rfl) .nil))),(.cons (.box (.agg (.cons .same (.cons .same (.cons .same .nil))))) (.cons .same (.cons .same (.cons .same .nil))))⟩
 ·cases h
def sel26 (args:List AV) (objs:List Ob):Option (Dt×Dt):=match args,objs with
 | [.dat T0 x0,.dat T1 x1],[]=>bif (Nat.beq T0 83&&Nat.beq T1 85) then some (x0,x1) else none
 |_,_=>none
theorem sel26_ok {args:List AV} {objs:List Ob} {l:Dt×Dt} (h:sel26 args objs=some l):CnA Tryz.prog args [(.dat 83 l.1),(.dat 85 l.2)]∧CnOL Tryz.prog objs []:=by
 unfold sel26 at h
 split at h
 ·obtain⟨hc,h2⟩:=bif_some h
  cases h2
  have e0:=beq_eq (and_l hc)
  have e1:=beq_eq (and_r hc)
  subst e0 e1
  exact⟨(.cons (.of .same rfl rfl) (.cons (.of .same rfl rfl) .nil)),.nil⟩
 ·cases h
def sel27 (args:List AV) (objs:List Ob):Option (Dt×List Dt×List Dt×List Dt):=match args,objs with
 | [.ptr n0 p0 o0,.dat T1 x1,.fn T2 []],[.box T3 (.agg T4 [.row n5,.row n6,.row n7]),.row T8 x8,.row T9 x9,.row T10 x10]=>bif (Nat.beq n0 0&&(natsB p0 []&&(Nat.beq o0 0&&(Nat.beq T1 44&&(Nat.beq T2 37&&(Nat.beq T3 79&&(Nat.beq T4 79&&(Nat.beq n5 1&&(Nat.beq n6 2&&(Nat.beq n7 3&&(Nat.beq T8 23&&(Nat.beq T9 76&&Nat.beq T10 77)))))))))))) then some (x1,x8,x9,x10) else none
 |_,_=>none
theorem sel27_ok {args:List AV} {objs:List Ob} {l:Dt×List Dt×List Dt×List Dt} (h:sel27 args objs=some l):CnA Tryz.prog args [(.ptr 0 [] 0),(.dat 44 l.1),(.fn 37 [])]∧CnOL Tryz.prog objs [(.box 79 (.agg 79 [(.row 1),(.row 2),(.row 3)])),(.row 23 l.2.1),(.row 76 l.2.2.1),(.row 77 l.2.2.2)]:=by
 unfold sel27 at h
 split at h
 ·obtain⟨hc,h2⟩:=bif_some h
  cases h2
  have e0:=beq_eq (and_l hc)
  have e1:=natsB_eq (and_l (and_r hc))
  have e2:=beq_eq (and_l (and_r (and_r hc)))
  have e3:=beq_eq (and_l (and_r (and_r (and_r hc))))
  have e4:=beq_eq (and_l (and_r (and_r (and_r (and_r hc)))))
  have e5:=beq_eq (and_l (and_r (and_r (and_r (and_r (and_r hc))))))
  have e6:=beq_eq (and_l (and_r (and_r (and_r (and_r (and_r (and_r hc)))))))
  have e7:=beq_eq (and_l (and_r (and_r (and_r (and_r (and_r (and_r (and_r hc))))))))
  have e8:=beq_eq (and_l (and_r (and_r (and_r (and_r (and_r (and_r (and_r (and_r hc)))))))))
  have e9:=beq_eq (and_l (and_r (and_r (and_r (and_r (and_r (and_r (and_r (and_r (and_r hc))))))))))
  have e10:=beq_eq (and_l (and_r (and_r (and_r (and_r (and_r (and_r (and_r (and_r (and_r (and_r hc)))))))))))
  have e11:=beq_eq (and_l (and_r (and_r (and_r (and_r (and_r (and_r (and_r (and_r (and_r (and_r (and_r hc))))))))))))
  have e12:=beq_eq (and_r (and_r (and_r (and_r (and_r (and_r (and_r (and_r (and_r (and_r (and_r (and_r hc))))))))))))
  subst e0 e1 e2 e3 e4 e5 e6 e7 e8 e9 e10 e11 e12
  exact⟨(.cons (.of .same rfl rfl) (.cons (.of .same rfl rfl) (.cons (.of (.fn .nil) rfl rfl) .nil))),(.cons (.box (.agg (.cons .same (.cons .same (.cons .same .nil))))) (.cons .same (.cons .same (.cons .same .nil))))⟩
 ·cases h
def sel29 (args:List AV) (objs:List Ob):Option (Dt×Dt):=match args,objs with
 | [.dat T0 x0,.dat T1 x1],[]=>bif (Nat.beq T0 44&&Nat.beq T1 36) then some (x0,x1) else none
 |_,_=>none
theorem sel29_ok {args:List AV} {objs:List Ob} {l:Dt×Dt} (h:sel29 args objs=some l):CnA Tryz.prog args [(.dat 44 l.1),(.dat 36 l.2)]∧CnOL Tryz.prog objs []:=by
 unfold sel29 at h
 split at h
 ·obtain⟨hc,h2⟩:=bif_some h
  cases h2
  have e0:=beq_eq (and_l hc)
  have e1:=beq_eq (and_r hc)
  subst e0 e1
  exact⟨(.cons (.of .same rfl rfl) (.cons (.of .same rfl rfl) .nil)),.nil⟩
 ·cases h
def sel31 (args:List AV) (objs:List Ob):Option (Dt×Dt×Dt):=match args,objs with
 | [.dat T0 x0,.dat T1 x1,.dat T2 x2],[]=>bif (Nat.beq T0 83&&(Nat.beq T1 85&&Nat.beq T2 85)) then some (x0,x1,x2) else none
 |_,_=>none
theorem sel31_ok {args:List AV} {objs:List Ob} {l:Dt×Dt×Dt} (h:sel31 args objs=some l):CnA Tryz.prog args [(.dat 83 l.1),(.dat 85 l.2.1),(.dat 85 l.2.2)]∧CnOL Tryz.prog objs []:=by
 unfold sel31 at h
 split at h
 ·obtain⟨hc,h2⟩:=bif_some h
  cases h2
  have e0:=beq_eq (and_l hc)
  have e1:=beq_eq (and_l (and_r hc))
  have e2:=beq_eq (and_r (and_r hc))
  subst e0 e1 e2
  exact⟨(.cons (.of .same rfl rfl) (.cons (.of .same rfl rfl) (.cons (.of .same rfl rfl) .nil))),.nil⟩
 ·cases h
def sel32 (args:List AV) (objs:List Ob):Option (Dt×Int):=match args,objs with
 | [.dat T0 x0,.dat T1 x1],[]=>bif (Nat.beq T0 36&&Nat.beq T1 3) then some (x0,x1.toInt) else none
 |_,_=>none
theorem sel32_ok {args:List AV} {objs:List Ob} {l:Dt×Int} (h:sel32 args objs=some l):CnA Tryz.prog args [(.dat 36 l.1),(.dat 3 (.int l.2))]∧CnOL Tryz.prog objs []:=by
 unfold sel32 at h
 split at h
 ·obtain⟨hc,h2⟩:=bif_some h
  cases h2
  have e0:=beq_eq (and_l hc)
  have e1:=beq_eq (and_r hc)
  subst e0 e1
  exact⟨(.cons (.of .same rfl rfl) (.cons (.of (.dat (.int Tryz.underlying3)) rfl rfl) .nil)),.nil⟩
 ·cases h
def sel34 (args:List AV) (objs:List Ob):Option ByteArray:=match args,objs with
 | [.dat T0 x0],[]=>bif Nat.beq T0 9 then some x0.toStr else none
 |_,_=>none
theorem sel34_ok {args:List AV} {objs:List Ob} {l:ByteArray} (h:sel34 args objs=some l):CnA Tryz.prog args [(.dat 9 (.str l))]∧CnOL Tryz.prog objs []:=by
 unfold sel34 at h
 split at h
 ·obtain⟨hc,h2⟩:=bif_some h
  cases h2
  have e0:=beq_eq hc
  subst e0
  exact⟨(.cons (.of (.dat (.str Tryz.underlying9)) rfl rfl) .nil),.nil⟩
 ·cases h
def sel38 (args:List AV) (objs:List Ob):Option (List Dt×Dt):=match args,objs with
 | [.dat T0 x0,.dat T1 x1],[]=>bif (Nat.beq T0 22&&Nat.beq T1 36) then some (x0.toLst,x1) else none
 |_,_=>none
theorem sel38_ok {args:List AV} {objs:List Ob} {l:List Dt×Dt} (h:sel38 args objs=some l):CnA Tryz.prog args [(.dat 22 (.lst l.1)),(.dat 36 l.2)]∧CnOL Tryz.prog objs []:=by
 unfold sel38 at h
 split at h
 ·obtain⟨hc,h2⟩:=bif_some h
  cases h2
  have e0:=beq_eq (and_l hc)
  have e1:=beq_eq (and_r hc)
  subst e0 e1
  exact⟨(.cons (.of (.dat (.lst Tryz.underlying22)) rfl rfl) (.cons (.of .same rfl rfl) .nil)),.nil⟩
 ·cases h
def sel39 (args:List AV) (objs:List Ob):Option (List Dt×List Dt):=match args,objs with
 | [.row n0,.fn T1 [.ptr n2 p2 o2]],[.row T3 x3,.box T4 (.dat T5 x5)]=>bif (Nat.beq n0 0&&(Nat.beq T1 50&&(Nat.beq n2 1&&(natsB p2 []&&(Nat.beq o2 0&&(Nat.beq T3 91&&(Nat.beq T4 22&&Nat.beq T5 22))))))) then some (x3,x5.toLst) else none
 |_,_=>none
theorem sel39_ok {args:List AV} {objs:List Ob} {l:List Dt×List Dt} (h:sel39 args objs=some l):CnA Tryz.prog args [(.row 0),(.fn 50 [(.ptr 1 [] 0)])]∧CnOL Tryz.prog objs [(.row 91 l.1),(.box 22 (.dat 22 (.lst l.2)))]:=by
 unfold sel39 at h
 split at h
 ·obtain⟨hc,h2⟩:=bif_some h
  cases h2
  have e0:=beq_eq (and_l hc)
  have e1:=beq_eq (and_l (and_r hc))
  have e2:=beq_eq (and_l (and_r (and_r hc)))
  have e3:=natsB_eq (and_l (and_r (and_r (and_r hc))))
  have e4:=beq_eq (and_l (and_r (and_r (and_r (and_r hc)))))
  have e5:=beq_eq (and_l (and_r (and_r (and_r (and_r (and_r hc))))))
  have e6:=beq_eq (and_l (and_r (and_r (and_r (and_r (and_r (and_r hc)))))))
  have e7:=beq_eq (and_r (and_r (and_r (and_r (and_r (and_r (and_r hc)))))))
  subst e0 e1 e2 e3 e4 e5 e6 e7
  exact⟨(.cons (.of .same rfl rfl) (.cons (.of (.fn (.cons .same .nil)) rfl rfl) .nil)),(.cons .same (.cons (.box (.dat (.lst Tryz.underlying22))) .nil))⟩
 ·cases h
def sel40 (args:List AV) (objs:List Ob):Option (Int×List Dt×List Dt):=match args,objs with
 | [.row n0,.dat T1 x1,.fn T2 [.ptr n3 p3 o3]],[.row T4 x4,.box T5 (.dat T6 x6)]=>bif (Nat.beq n0 0&&(Nat.beq T1 3&&(Nat.beq T2 50&&(Nat.beq n3 1&&(natsB p3 []&&(Nat.beq o3 0&&(Nat.beq T4 91&&(Nat.beq T5 22&&Nat.beq T6 22)))))))) then some (x1.toInt,x4,x6.toLst) else none
 |_,_=>none
theorem sel40_ok {args:List AV} {objs:List Ob} {l:Int×List Dt×List Dt} (h:sel40 args objs=some l):CnA Tryz.prog args [(.row 0),(.dat 3 (.int l.1)),(.fn 50 [(.ptr 1 [] 0)])]∧CnOL Tryz.prog objs [(.row 91 l.2.1),(.box 22 (.dat 22 (.lst l.2.2)))]:=by
 unfold sel40 at h
 split at h
 ·obtain⟨hc,h2⟩:=bif_some h
  cases h2
  have e0:=beq_eq (and_l hc)
  have e1:=beq_eq (and_l (and_r hc))
  have e2:=beq_eq (and_l (and_r (and_r hc)))
  have e3:=beq_eq (and_l (and_r (and_r (and_r hc))))
  have e4:=natsB_eq (and_l (and_r (and_r (and_r (and_r hc)))))
  have e5:=beq_eq (and_l (and_r (and_r (and_r (and_r (and_r hc))))))
  have e6:=beq_eq (and_l (and_r (and_r (and_r (and_r (and_r (and_r hc)))))))
  have e7:=beq_eq (and_l (and_r (and_r (and_r (and_r (and_r (and_r (and_r hc))))))))
  have e8:=beq_eq (and_r (and_r (and_r (and_r (and_r (and_r (and_r (and_r hc))))))))
  subst e0 e1 e2 e3 e4 e5 e6 e7 e8
  exact⟨(.cons (.of .same rfl rfl) (.cons (.of (.dat (.int Tryz.underlying3)) rfl rfl) (.cons (.of (.fn (.cons .same .nil)) rfl rfl) .nil))),(.cons .same (.cons (.box (.dat (.lst Tryz.underlying22))) .nil))⟩
 ·cases h
def sel41 (args:List AV) (objs:List Ob):Option (Int×Int×List Dt×List Dt):=match args,objs with
 | [.row n0,.dat T1 x1,.dat T2 x2,.fn T3 [.ptr n4 p4 o4]],[.row T5 x5,.box T6 (.dat T7 x7)]=>bif (Nat.beq n0 0&&(Nat.beq T1 3&&(Nat.beq T2 3&&(Nat.beq T3 50&&(Nat.beq n4 1&&(natsB p4 []&&(Nat.beq o4 0&&(Nat.beq T5 91&&(Nat.beq T6 22&&Nat.beq T7 22))))))))) then some (x1.toInt,x2.toInt,x5,x7.toLst) else none
 |_,_=>none
theorem sel41_ok {args:List AV} {objs:List Ob} {l:Int×Int×List Dt×List Dt} (h:sel41 args objs=some l):CnA Tryz.prog args [(.row 0),(.dat 3 (.int l.1)),(.dat 3 (.int l.2.1)),(.fn 50 [(.ptr 1 [] 0)])]∧CnOL Tryz.prog objs [(.row 91 l.2.2.1),(.box 22 (.dat 22 (.lst l.2.2.2)))]:=by
 unfold sel41 at h
 split at h
 ·obtain⟨hc,h2⟩:=bif_some h
  cases h2
  have e0:=beq_eq (and_l hc)
  have e1:=beq_eq (and_l (and_r hc))
  have e2:=beq_eq (and_l (and_r (and_r hc)))
  have e3:=beq_eq (and_l (and_r (and_r (and_r hc))))
  have e4:=beq_eq (and_l (and_r (and_r (and_r (and_r hc)))))
  have e5:=natsB_eq (and_l (and_r (and_r (and_r (and_r (and_r hc))))))
  have e6:=beq_eq (and_l (and_r (and_r (and_r (and_r (and_r (and_r hc)))))))
  have e7:=beq_eq (and_l (and_r (and_r (and_r (and_r (and_r (and_r (and_r hc))))))))
  have e8:=beq_eq (and_l (and_r (and_r (and_r (and_r (and_r (and_r (and_r (and_r hc)))))))))
  have e9:=beq_eq (and_r (and_r (and_r (and_r (and_r (and_r (and_r (and_r (and_r hc)))))))))
  subst e0 e1 e2 e3 e4 e5 e6 e7 e8 e9
  exact⟨(.cons (.of .same rfl rfl) (.cons (.of (.dat (.int Tryz.underlying3)) rfl rfl) (.cons (.of (.dat (.int Tryz.underlying3)) rfl rfl) (.cons (.of (.fn (.cons .same .nil)) rfl rfl) .nil)))),(.cons .same (.cons (.box (.dat (.lst Tryz.underlying22))) .nil))⟩
 ·cases h
def sel42 (args:List AV) (objs:List Ob):Option (Dt×Dt×List Dt):=match args,objs with
 | [.dat T0 x0,.dat T1 x1,.ptr n2 p2 o2],[.box T3 (.dat T4 x4)]=>bif (Nat.beq T0 94&&(Nat.beq T1 94&&(Nat.beq n2 0&&(natsB p2 []&&(Nat.beq o2 0&&(Nat.beq T3 22&&Nat.beq T4 22)))))) then some (x0,x1,x4.toLst) else none
 |_,_=>none
theorem sel42_ok {args:List AV} {objs:List Ob} {l:Dt×Dt×List Dt} (h:sel42 args objs=some l):CnA Tryz.prog args [(.dat 94 l.1),(.dat 94 l.2.1),(.ptr 0 [] 0)]∧CnOL Tryz.prog objs [(.box 22 (.dat 22 (.lst l.2.2)))]:=by
 unfold sel42 at h
 split at h
 ·obtain⟨hc,h2⟩:=bif_some h
  cases h2
  have e0:=beq_eq (and_l hc)
  have e1:=beq_eq (and_l (and_r hc))
  have e2:=beq_eq (and_l (and_r (and_r hc)))
  have e3:=natsB_eq (and_l (and_r (and_r (and_r hc))))
  have e4:=beq_eq (and_l (and_r (and_r (and_r (and_r hc)))))
  have e5:=beq_eq (and_l (and_r (and_r (and_r (and_r (and_r hc))))))
  have e6:=beq_eq (and_r (and_r (and_r (and_r (and_r (and_r hc))))))
  subst e0 e1 e2 e3 e4 e5 e6
  exact⟨(.cons (.of .same rfl rfl) (.cons (.of .same rfl rfl) (.cons (.of .same rfl rfl) .nil))),(.cons (.box (.dat (.lst Tryz.underlying22))) .nil)⟩
 ·cases h
def sel44 (args:List AV) (objs:List Ob):Option (Int×Int×Int×List Dt×List Dt):=match args,objs with
 | [.row n0,.dat T1 x1,.dat T2 x2,.dat T3 x3,.fn T4 [.ptr n5 p5 o5]],[.row T6 x6,.box T7 (.dat T8 x8)]=>bif (Nat.beq n0 0&&(Nat.beq T1 3&&(Nat.beq T2 3&&(Nat.beq T3 3&&(Nat.beq T4 50&&(Nat.beq n5 1&&(natsB p5 []&&(Nat.beq o5 0&&(Nat.beq T6 91&&(Nat.beq T7 22&&Nat.beq T8 22)))))))))) then some (x1.toInt,x2.toInt,x3.toInt,x6,x8.toLst) else none
 |_,_=>none
theorem sel44_ok {args:List AV} {objs:List Ob} {l:Int×Int×Int×List Dt×List Dt} (h:sel44 args objs=some l):CnA Tryz.prog args [(.row 0),(.dat 3 (.int l.1)),(.dat 3 (.int l.2.1)),(.dat 3 (.int l.2.2.1)),(.fn 50 [(.ptr 1 [] 0)])]∧CnOL Tryz.prog objs [(.row 91 l.2.2.2.1),(.box 22 (.dat 22 (.lst l.2.2.2.2)))]:=by
 unfold sel44 at h
 split at h
 ·obtain⟨hc,h2⟩:=bif_some h
  cases h2
  have e0:=beq_eq (and_l hc)
  have e1:=beq_eq (and_l (and_r hc))
  have e2:=beq_eq (and_l (and_r (and_r hc)))
  have e3:=beq_eq (and_l (and_r (and_r (and_r hc))))
  have e4:=beq_eq (and_l (and_r (and_r (and_r (and_r hc)))))
  have e5:=beq_eq (and_l (and_r (and_r (and_r (and_r (and_r hc))))))
  have e6:=natsB_eq (and_l (and_r (and_r (and_r (and_r (and_r (and_r hc)))))))
  have e7:=beq_eq (and_l (and_r (and_r (and_r (and_r (and_r (and_r (and_r hc))))))))
  have e8:=beq_eq (and_l (and_r (and_r (and_r (and_r (and_r (and_r (and_r (and_r hc)))))))))
  have e9:=beq_eq (and_l (and_r (and_r (and_r (and_r (and_r (and_r (and_r (and_r (and_r hc))))))))))
  have e10:=beq_eq (and_r (and_r (and_r (and_r (and_r (and_r (and_r (and_r (and_r (and_r hc))))))))))
  subst e0 e1 e2 e3 e4 e5 e6 e7 e8 e9 e10
  exact⟨(.cons (.of .same rfl rfl) (.cons (.of (.dat (.int Tryz.underlying3)) rfl rfl) (.cons (.of (.dat (.int Tryz.underlying3)) rfl rfl) (.cons (.of (.dat (.int Tryz.underlying3)) rfl rfl) (.cons (.of (.fn (.cons .same .nil)) rfl rfl) .nil))))),(.cons .same (.cons (.box (.dat (.lst Tryz.underlying22))) .nil))⟩
 ·cases h
def sel48 (args:List AV) (objs:List Ob):Option Dt:=match args,objs with
 | [.dat T0 x0],[]=>bif Nat.beq T0 85 then some x0 else none
 |_,_=>none
theorem sel48_ok {args:List AV} {objs:List Ob} {l:Dt} (h:sel48 args objs=some l):CnA Tryz.prog args [(.dat 85 l)]∧CnOL Tryz.prog objs []:=by
 unfold sel48 at h
 split at h
 ·obtain⟨hc,h2⟩:=bif_some h
  cases h2
  have e0:=beq_eq hc
  subst e0
  exact⟨(.cons (.of .same rfl rfl) .nil),.nil⟩
 ·cases h
def sel50 (args:List AV) (objs:List Ob):Option (ByteArray×Int×Int):=match args,objs with
 | [.dat T0 x0,.dat T1 x1,.dat T2 x2],[]=>bif (Nat.beq T0 9&&(Nat.beq T1 3&&Nat.beq T2 3)) then some (x0.toStr,x1.toInt,x2.toInt) else none
 |_,_=>none
theorem sel50_ok {args:List AV} {objs:List Ob} {l:ByteArray×Int×Int} (h:sel50 args objs=some l):CnA Tryz.prog args [(.dat 9 (.str l.1)),(.dat 3 (.int l.2.1)),(.dat 3 (.int l.2.2))]∧CnOL Tryz.prog objs []:=by
 unfold sel50 at h
 split at h
 ·obtain⟨hc,h2⟩:=bif_some h
  cases h2
  have e0:=beq_eq (and_l hc)
  have e1:=beq_eq (and_l (and_r hc))
  have e2:=beq_eq (and_r (and_r hc))
  subst e0 e1 e2
  exact⟨(.cons (.of (.dat (.str Tryz.underlying9)) rfl rfl) (.cons (.of (.dat (.int Tryz.underlying3)) rfl rfl) (.cons (.of (.dat (.int Tryz.underlying3)) rfl rfl) .nil))),.nil⟩
 ·cases h
def sel57 (args:List AV) (objs:List Ob):Option (Dt×Dt):=match args,objs with
 | [.dat T0 x0,.dat T1 x1],[]=>bif (Nat.beq T0 50&&Nat.beq T1 36) then some (x0,x1) else none
 |_,_=>none
theorem sel57_ok {args:List AV} {objs:List Ob} {l:Dt×Dt} (h:sel57 args objs=some l):CnA Tryz.prog args [(.dat 50 l.1),(.dat 36 l.2)]∧CnOL Tryz.prog objs []:=by
 unfold sel57 at h
 split at h
 ·obtain⟨hc,h2⟩:=bif_some h
  cases h2
  have e0:=beq_eq (and_l hc)
  have e1:=beq_eq (and_r hc)
  subst e0 e1
  exact⟨(.cons (.of .same rfl rfl) (.cons (.of .same rfl rfl) .nil)),.nil⟩
 ·cases h
def sel62 (args:List AV) (objs:List Ob):Option (List Dt):=match args,objs with
 | [.dat T0 x0],[]=>bif Nat.beq T0 34 then some x0.toLst else none
 |_,_=>none
theorem sel62_ok {args:List AV} {objs:List Ob} {l:List Dt} (h:sel62 args objs=some l):CnA Tryz.prog args [(.dat 34 (.lst l))]∧CnOL Tryz.prog objs []:=by
 unfold sel62 at h
 split at h
 ·obtain⟨hc,h2⟩:=bif_some h
  cases h2
  have e0:=beq_eq hc
  subst e0
  exact⟨(.cons (.of (.dat (.lst Tryz.underlying34)) rfl rfl) .nil),.nil⟩
 ·cases h
def sel64 (args:List AV) (objs:List Ob):Option (Dt×List Dt):=match args,objs with
 | [.dat T0 x0,.dat T1 x1],[]=>bif (Nat.beq T0 36&&Nat.beq T1 38) then some (x0,x1.toLst) else none
 |_,_=>none
theorem sel64_ok {args:List AV} {objs:List Ob} {l:Dt×List Dt} (h:sel64 args objs=some l):CnA Tryz.prog args [(.dat 36 l.1),(.dat 38 (.lst l.2))]∧CnOL Tryz.prog objs []:=by
 unfold sel64 at h
 split at h
 ·obtain⟨hc,h2⟩:=bif_some h
  cases h2
  have e0:=beq_eq (and_l hc)
  have e1:=beq_eq (and_r hc)
  subst e0 e1
  exact⟨(.cons (.of .same rfl rfl) (.cons (.of (.dat (.lst Tryz.underlying38)) rfl rfl) .nil)),.nil⟩
 ·cases h
def sel65 (args:List AV) (objs:List Ob):Option (Int×Int):=match args,objs with
 | [.dat T0 x0,.dat T1 x1],[]=>bif (Nat.beq T0 3&&Nat.beq T1 3) then some (x0.toInt,x1.toInt) else none
 |_,_=>none
theorem sel65_ok {args:List AV} {objs:List Ob} {l:Int×Int} (h:sel65 args objs=some l):CnA Tryz.prog args [(.dat 3 (.int l.1)),(.dat 3 (.int l.2))]∧CnOL Tryz.prog objs []:=by
 unfold sel65 at h
 split at h
 ·obtain⟨hc,h2⟩:=bif_some h
  cases h2
  have e0:=beq_eq (and_l hc)
  have e1:=beq_eq (and_r hc)
  subst e0 e1
  exact⟨(.cons (.of (.dat (.int Tryz.underlying3)) rfl rfl) (.cons (.of (.dat (.int Tryz.underlying3)) rfl rfl) .nil)),.nil⟩
 ·cases h
def sel66 (args:List AV) (objs:List Ob):Option (ByteArray×ByteArray):=match args,objs with
 | [.dat T0 x0,.dat T1 x1],[]=>bif (Nat.beq T0 9&&Nat.beq T1 9) then some (x0.toStr,x1.toStr) else none
 |_,_=>none
theorem sel66_ok {args:List AV} {objs:List Ob} {l:ByteArray×ByteArray} (h:sel66 args objs=some l):CnA Tryz.prog args [(.dat 9 (.str l.1)),(.dat 9 (.str l.2))]∧CnOL Tryz.prog objs []:=by
 unfold sel66 at h
 split at h
 ·obtain⟨hc,h2⟩:=bif_some h
  cases h2
  have e0:=beq_eq (and_l hc)
  have e1:=beq_eq (and_r hc)
  subst e0 e1
  exact⟨(.cons (.of (.dat (.str Tryz.underlying9)) rfl rfl) (.cons (.of (.dat (.str Tryz.underlying9)) rfl rfl) .nil)),.nil⟩
 ·cases h
def sel67 (args:List AV) (objs:List Ob):Option (Dt×Int×Int):=match args,objs with
 | [.dat T0 x0,.fn T1 [.ptr n2 p2 o2,.ptr n3 p3 o3]],[.box T4 (.dat T5 x5),.box T6 (.dat T7 x7)]=>bif (Nat.beq T0 36&&(Nat.beq T1 111&&(Nat.beq n2 0&&(natsB p2 []&&(Nat.beq o2 0&&(Nat.beq n3 1&&(natsB p3 []&&(Nat.beq o3 0&&(Nat.beq T4 3&&(Nat.beq T5 3&&(Nat.beq T6 3&&Nat.beq T7 3))))))))))) then some (x0,x5.toInt,x7.toInt) else none
 |_,_=>none
theorem sel67_ok {args:List AV} {objs:List Ob} {l:Dt×Int×Int} (h:sel67 args objs=some l):CnA Tryz.prog args [(.dat 36 l.1),(.fn 111 [(.ptr 0 [] 0),(.ptr 1 [] 0)])]∧CnOL Tryz.prog objs [(.box 3 (.dat 3 (.int l.2.1))),(.box 3 (.dat 3 (.int l.2.2)))]:=by
 unfold sel67 at h
 split at h
 ·obtain⟨hc,h2⟩:=bif_some h
  cases h2
  have e0:=beq_eq (and_l hc)
  have e1:=beq_eq (and_l (and_r hc))
  have e2:=beq_eq (and_l (and_r (and_r hc)))
  have e3:=natsB_eq (and_l (and_r (and_r (and_r hc))))
  have e4:=beq_eq (and_l (and_r (and_r (and_r (and_r hc)))))
  have e5:=beq_eq (and_l (and_r (and_r (and_r (and_r (and_r hc))))))
  have e6:=natsB_eq (and_l (and_r (and_r (and_r (and_r (and_r (and_r hc)))))))
  have e7:=beq_eq (and_l (and_r (and_r (and_r (and_r (and_r (and_r (and_r hc))))))))
  have e8:=beq_eq (and_l (and_r (and_r (and_r (and_r (and_r (and_r (and_r (and_r hc)))))))))
  have e9:=beq_eq (and_l (and_r (and_r (and_r (and_r (and_r (and_r (and_r (and_r (and_r hc))))))))))
  have e10:=beq_eq (and_l (and_r (and_r (and_r (and_r (and_r (and_r (and_r (and_r (and_r (and_r hc)))))))))))
  have e11:=beq_eq (and_r (and_r (and_r (and_r (and_r (and_r (and_r (and_r (and_r (and_r (and_r hc)))))))))))
  subst e0 e1 e2 e3 e4 e5 e6 e7 e8 e9 e10 e11
  exact⟨(.cons (.of .same rfl rfl) (.cons (.of (.fn (.cons .same (.cons .same .nil))) rfl rfl) .nil)),(.cons (.box (.dat (.int Tryz.underlying3))) (.cons (.box (.dat (.int Tryz.underlying3))) .nil))⟩
 ·cases h
def sel68 (args:List AV) (objs:List Ob):Option (Dt×Int×Int):=match args,objs with
 | [.dat T0 x0,.ptr n1 p1 o1,.ptr n2 p2 o2],[.box T3 (.dat T4 x4),.box T5 (.dat T6 x6)]=>bif (Nat.beq T0 36&&(Nat.beq n1 0&&(natsB p1 []&&(Nat.beq o1 0&&(Nat.beq n2 1&&(natsB p2 []&&(Nat.beq o2 0&&(Nat.beq T3 3&&(Nat.beq T4 3&&(Nat.beq T5 3&&Nat.beq T6 3)))))))))) then some (x0,x4.toInt,x6.toInt) else none
 |_,_=>none
theorem sel68_ok {args:List AV} {objs:List Ob} {l:Dt×Int×Int} (h:sel68 args objs=some l):CnA Tryz.prog args [(.dat 36 l.1),(.ptr 0 [] 0),(.ptr 1 [] 0)]∧CnOL Tryz.prog objs [(.box 3 (.dat 3 (.int l.2.1))),(.box 3 (.dat 3 (.int l.2.2)))]:=by
 unfold sel68 at h
 split at h
 ·obtain⟨hc,h2⟩:=bif_some h
  cases h2
  have e0:=beq_eq (and_l hc)
  have e1:=beq_eq (and_l (and_r hc))
  have e2:=natsB_eq (and_l (and_r (and_r hc)))
  have e3:=beq_eq (and_l (and_r (and_r (and_r hc))))
  have e4:=beq_eq (and_l (and_r (and_r (and_r (and_r hc)))))
  have e5:=natsB_eq (and_l (and_r (and_r (and_r (and_r (and_r hc))))))
  have e6:=beq_eq (and_l (and_r (and_r (and_r (and_r (and_r (and_r hc)))))))
  have e7:=beq_eq (and_l (and_r (and_r (and_r (and_r (and_r (and_r (and_r hc))))))))
  have e8:=beq_eq (and_l (and_r (and_r (and_r (and_r (and_r (and_r (and_r (and_r hc)))))))))
  have e9:=beq_eq (and_l (and_r (and_r (and_r (and_r (and_r (and_r (and_r (and_r (and_r hc))))))))))
  have e10:=beq_eq (and_r (and_r (and_r (and_r (and_r (and_r (and_r (and_r (and_r (and_r hc))))))))))
  subst e0 e1 e2 e3 e4 e5 e6 e7 e8 e9 e10
  exact⟨(.cons (.of .same rfl rfl) (.cons (.of .same rfl rfl) (.cons (.of .same rfl rfl) .nil))),(.cons (.box (.dat (.int Tryz.underlying3))) (.cons (.box (.dat (.int Tryz.underlying3))) .nil))⟩
 ·cases h
def sel69 (args:List AV) (objs:List Ob):Option (Dt×Int×Int):=match args,objs with
 | [.dat T0 x0,.fn T1 [.ptr n2 p2 o2,.ptr n3 p3 o3]],[.box T4 (.dat T5 x5),.box T6 (.dat T7 x7)]=>bif (Nat.beq T0 36&&(Nat.beq T1 112&&(Nat.beq n2 0&&(natsB p2 []&&(Nat.beq o2 0&&(Nat.beq n3 1&&(natsB p3 []&&(Nat.beq o3 0&&(Nat.beq T4 3&&(Nat.beq T5 3&&(Nat.beq T6 3&&Nat.beq T7 3))))))))))) then some (x0,x5.toInt,x7.toInt) else none
 |_,_=>none
theorem sel69_ok {args:List AV} {objs:List Ob} {l:Dt×Int×Int} (h:sel69 args objs=some l):CnA Tryz.prog args [(.dat 36 l.1),(.fn 112 [(.ptr 0 [] 0),(.ptr 1 [] 0)])]∧CnOL Tryz.prog objs [(.box 3 (.dat 3 (.int l.2.1))),(.box 3 (.dat 3 (.int l.2.2)))]:=by
 unfold sel69 at h
 split at h
 ·obtain⟨hc,h2⟩:=bif_some h
  cases h2
  have e0:=beq_eq (and_l hc)
  have e1:=beq_eq (and_l (and_r hc))
  have e2:=beq_eq (and_l (and_r (and_r hc)))
  have e3:=natsB_eq (and_l (and_r (and_r (and_r hc))))
  have e4:=beq_eq (and_l (and_r (and_r (and_r (and_r hc)))))
  have e5:=beq_eq (and_l (and_r (and_r (and_r (and_r (and_r hc))))))
  have e6:=natsB_eq (and_l (and_r (and_r (and_r (and_r (and_r (and_r hc)))))))
  have e7:=beq_eq (and_l (and_r (and_r (and_r (and_r (and_r (and_r (and_r hc))))))))
  have e8:=beq_eq (and_l (and_r (and_r (and_r (and_r (and_r (and_r (and_r (and_r hc)))))))))
  have e9:=beq_eq (and_l (and_r (and_r (and_r (and_r (and_r (and_r (and_r (and_r (and_r hc))))))))))
  have e10:=beq_eq (and_l (and_r (and_r (and_r (and_r (and_r (and_r (and_r (and_r (and_r (and_r hc)))))))))))
  have e11:=beq_eq (and_r (and_r (and_r (and_r (and_r (and_r (and_r (and_r (and_r (and_r (and_r hc)))))))))))
  subst e0 e1 e2 e3 e4 e5 e6 e7 e8 e9 e10 e11
  exact⟨(.cons (.of .same rfl rfl) (.cons (.of (.fn (.cons .same (.cons .same .nil))) rfl rfl) .nil)),(.cons (.box (.dat (.int Tryz.underlying3))) (.cons (.box (.dat (.int Tryz.underlying3))) .nil))⟩
 ·cases h
def sel72 (args:List AV) (objs:List Ob):Option (Dt×List Dt×List Dt):=match args,objs with
 | [.row n0,.dat T1 x1,.dat T2 x2],[.row T3 x3]=>bif (Nat.beq n0 0&&(Nat.beq T1 36&&(Nat.beq T2 38&&Nat.beq T3 23))) then some (x1,x2.toLst,x3) else none
 |_,_=>none
theorem sel72_ok {args:List AV} {objs:List Ob} {l:Dt×List Dt×List Dt} (h:sel72 args objs=some l):CnA Tryz.prog args [(.row 0),(.dat 36 l.1),(.dat 38 (.lst l.2.1))]∧CnOL Tryz.prog objs [(.row 23 l.2.2)]:=by
 unfold sel72 at h
 split at h
 ·obtain⟨hc,h2⟩:=bif_some h
  cases h2
  have e0:=beq_eq (and_l hc)
  have e1:=beq_eq (and_l (and_r hc))
  have e2:=beq_eq (and_l (and_r (and_r hc)))
  have e3:=beq_eq (and_r (and_r (and_r hc)))
  subst e0 e1 e2 e3
  exact⟨(.cons (.of .same rfl rfl) (.cons (.of .same rfl rfl) (.cons (.of (.dat (.lst Tryz.underlying38)) rfl rfl) .nil))),(.cons .same .nil)⟩
 ·cases h
def sel73 (args:List AV) (objs:List Ob):Option (List Dt×ByteArray):=match args,objs with
 | [.dat T0 x0,.dat T1 x1],[]=>bif (Nat.beq T0 34&&Nat.beq T1 9) then some (x0.toLst,x1.toStr) else none
 |_,_=>none
theorem sel73_ok {args:List AV} {objs:List Ob} {l:List Dt×ByteArray} (h:sel73 args objs=some l):CnA Tryz.prog args [(.dat 34 (.lst l.1)),(.dat 9 (.str l.2))]∧CnOL Tryz.prog objs []:=by
 unfold sel73 at h
 split at h
 ·obtain⟨hc,h2⟩:=bif_some h
  cases h2
  have e0:=beq_eq (and_l hc)
  have e1:=beq_eq (and_r hc)
  subst e0 e1
  exact⟨(.cons (.of (.dat (.lst Tryz.underlying34)) rfl rfl) (.cons (.of (.dat (.str Tryz.underlying9)) rfl rfl) .nil)),.nil⟩
 ·cases h
noncomputable def ct40 {R:Type} (m:Nat) (args:List AV) (objs:List Ob) (K:Res→Option R):Option R:=findM args objs K
noncomputable def ct4 {R:Type} (m:Nat) (args:List AV) (objs:List Ob) (K:Res→Option R):Option R:=match sel0 args objs with
 |some l=>(qQ m l.1 l.2.1 l.2.2).bind fun r=>K ((.dat 4 (.bool r)),[])
 |none=>none
noncomputable def ct5 {R:Type} (m:Nat) (args:List AV) (objs:List Ob) (K:Res→Option R):Option R:=match sel1 args objs with
 |some l=>(zD m l).bind fun r=>K ((.dat 4 (.bool r)),[])
 |none=>none
noncomputable def ct7 {R:Type} (m:Nat) (args:List AV) (objs:List Ob) (K:Res→Option R):Option R:=match sel2 args objs with
 |some l=>(awakeC).bind fun r=>K ((.dat 4 (.bool r)),[])
 |none=>none
noncomputable def ct11 {R:Type} (m:Nat) (args:List AV) (objs:List Ob) (K:Res→Option R):Option R:=match sel3 args objs with
 |some l=>(z6 m l).bind fun r=>K ((.dat 36 r),[])
 |none=>none
noncomputable def ct8 {R:Type} (m:Nat) (args:List AV) (objs:List Ob) (K:Res→Option R):Option R:=match sel4 args objs with
 |some l=>(qA m l.1 l.2.1 l.2.2.1 l.2.2.2).bind fun r=>K ((.tup [(.dat 23 (.lst r.1)),(.dat 3 (.int r.2.1)),(.dat 27 (.int r.2.2))]),[])
 |none=>none
noncomputable def ct12 {R:Type} (m:Nat) (args:List AV) (objs:List Ob) (K:Res→Option R):Option R:=match sel5 args objs with
 |some l=>(qW m l.1 l.2.1 l.2.2.1 l.2.2.2).bind fun r=>K ((.tup [(.dat 23 (.lst r.1)),(.dat 3 (.int r.2.1)),(.dat 27 (.int r.2.2))]),[])
 |none=>none
noncomputable def ct10 {R:Type} (m:Nat) (args:List AV) (objs:List Ob) (K:Res→Option R):Option R:=match sel6 args objs with
 |some l=>(zM m l.1 l.2).bind fun r=>K ((.dat 4 (.bool r)),[])
 |none=>none
noncomputable def ct13 {R:Type} (m:Nat) (args:List AV) (objs:List Ob) (K:Res→Option R):Option R:=match sel7 args objs with
 |some l=>(zW m l).bind fun r=>K ((.dat 4 (.bool r)),[])
 |none=>none
noncomputable def ct16 {R:Type} (m:Nat) (args:List AV) (objs:List Ob) (K:Res→Option R):Option R:=match sel8 args objs with
 |some l=>(qO m l.1 l.2.1 l.2.2).bind fun r=>K ((.tup [(.dat 52 (.lst r.1)),(.dat 27 (.int r.2))]),[])
 |none=>none
noncomputable def ct17 {R:Type} (m:Nat) (args:List AV) (objs:List Ob) (K:Res→Option R):Option R:=match sel9 args objs with
 |some l=>(zU m l.1 l.2).bind fun r=>K ((.dat 23 (.lst r)),[])
 |none=>none
noncomputable def ct18 {R:Type} (m:Nat) (args:List AV) (objs:List Ob) (K:Res→Option R):Option R:=match sel10 args objs with
 |some l=>(zF m l.1 l.2.1 l.2.2).bind fun r=>K ((.dat 23 (.lst r)),[])
 |none=>none
noncomputable def ct22 {R:Type} (m:Nat) (args:List AV) (objs:List Ob) (K:Res→Option R):Option R:=match sel11 args objs with
 |some l=>(zY m l.1 l.2).bind fun r=>K ((.dat 23 (.lst r)),[])
 |none=>none
noncomputable def ct23 {R:Type} (m:Nat) (args:List AV) (objs:List Ob) (K:Res→Option R):Option R:=match sel11 args objs with
 |some l=>(zN m l.1 l.2).bind fun r=>K ((.dat 23 (.lst r)),[])
 |none=>none
noncomputable def ct24 {R:Type} (m:Nat) (args:List AV) (objs:List Ob) (K:Res→Option R):Option R:=match sel11 args objs with
 |some l=>(qK m l.1 l.2).bind fun r=>K ((.tup [(.dat 23 (.lst r.1)),(.dat 27 (.int r.2))]),[])
 |none=>none
noncomputable def ct21 {R:Type} (m:Nat) (args:List AV) (objs:List Ob) (K:Res→Option R):Option R:=match sel14 args objs with
 |some l=>(qI m l.1 l.2).bind fun r=>K ((.dat 4 (.bool r)),[])
 |none=>none
noncomputable def ct25 {R:Type} (m:Nat) (args:List AV) (objs:List Ob) (K:Res→Option R):Option R:=match sel7 args objs with
 |some l=>(zQ m l).bind fun r=>K ((.dat 3 (.int r)),[])
 |none=>none
noncomputable def ct26 {R:Type} (m:Nat) (args:List AV) (objs:List Ob) (K:Res→Option R):Option R:=match sel7 args objs with
 |some l=>(zT m l).bind fun r=>K ((.dat 3 (.int r)),[])
 |none=>none
noncomputable def ct27 {R:Type} (m:Nat) (args:List AV) (objs:List Ob) (K:Res→Option R):Option R:=match sel17 args objs with
 |some l=>(qD m l.1 l.2).bind fun r=>K ((.dat 4 (.bool r)),[])
 |none=>none
noncomputable def ct29 {R:Type} (m:Nat) (args:List AV) (objs:List Ob) (K:Res→Option R):Option R:=match sel7 args objs with
 |some l=>(zJ m l).bind fun r=>K ((.tup [(.dat 3 (.int r.1)),(.dat 27 (.int r.2))]),[])
 |none=>none
noncomputable def ct30 {R:Type} (m:Nat) (args:List AV) (objs:List Ob) (K:Res→Option R):Option R:=match sel19 args objs with
 |some l=>(qT m l.1 l.2.1 l.2.2).bind fun r=>K ((.dat 23 (.lst r)),[])
 |none=>none
noncomputable def ct31 {R:Type} (m:Nat) (args:List AV) (objs:List Ob) (K:Res→Option R):Option R:=match sel20 args objs with
 |some l=>(zO m l.1 l.2.1 l.2.2).bind fun r=>K ((.dat 3 (.int r)),[])
 |none=>none
noncomputable def ct34 {R:Type} (m:Nat) (args:List AV) (objs:List Ob) (K:Res→Option R):Option R:=match sel11 args objs with
 |some l=>(i21 m l.1 l.2).bind fun r=>K ((.ptr 0 [] 0),[(.box 79 (.agg 79 [(.row 1),(.row 2),(.row 3)])),(.row 23 r.1),(.row 76 r.2.1),(.row 77 r.2.2)])
 |none=>none
noncomputable def ct56 {R:Type} (m:Nat) (args:List AV) (objs:List Ob) (K:Res→Option R):Option R:=match sel22 args objs with
 |some l=>(expr_EvalC l.1 l.2).bind fun r=>K ((.dat 36 r),[])
 |none=>none
noncomputable def ct57 {R:Type} (m:Nat) (args:List AV) (objs:List Ob) (K:Res→Option R):Option R:=match sel23 args objs with
 |some l=>(accAddN l.1 l.2.1 l.2.2).bind fun r=>K ((.dat 85 r),[])
 |none=>none
noncomputable def ct35 {R:Type} (m:Nat) (args:List AV) (objs:List Ob) (K:Res→Option R):Option R:=match sel24 args objs with
 |some l=>(i24 m l.1 l.2.1 l.2.2.1 l.2.2.2).bind fun r=>K ((.dat 23 (.lst r.1)),[(.box 79 (.agg 79 [(.row 1),(.row 2),(.row 3)])),(.frz 23 r.2.1),(.frz 76 r.2.2.1),(.frz 77 r.2.2.2)])
 |none=>match sel27 args objs with
 |some l=>(i27 m l.1 l.2.1 l.2.2.1 l.2.2.2).bind fun r=>K ((.dat 23 (.lst r.1)),[(.box 79 (.agg 79 [(.row 1),(.row 2),(.row 3)])),(.frz 23 r.2.1),(.frz 76 r.2.2.1),(.frz 77 r.2.2.2)])
 |none=>none
noncomputable def ct58 {R:Type} (m:Nat) (args:List AV) (objs:List Ob) (K:Res→Option R):Option R:=match sel7 args objs with
 |some l=>(qJ m l).bind fun r=>K ((.dat 36 r),[])
 |none=>none
noncomputable def ct36 {R:Type} (m:Nat) (args:List AV) (objs:List Ob) (K:Res→Option R):Option R:=match sel26 args objs with
 |some l=>(accResultN l.1 l.2).bind fun r=>K ((.dat 36 r),[])
 |none=>none
noncomputable def ct37 {R:Type} (m:Nat) (args:List AV) (objs:List Ob) (K:Res→Option R):Option R:=match sel26 args objs with
 |some l=>(zZ m l.1 l.2).bind fun r=>K ((.dat 36 r),[])
 |none=>none
noncomputable def ct38 {R:Type} (m:Nat) (args:List AV) (objs:List Ob) (K:Res→Option R):Option R:=match sel29 args objs with
 |some l=>(qZ m l.1 l.2).bind fun r=>K ((.dat 4 (.bool r)),[])
 |none=>none
noncomputable def ct39 {R:Type} (m:Nat) (args:List AV) (objs:List Ob) (K:Res→Option R):Option R:=match sel7 args objs with
 |some l=>(accUnpackN l).bind fun r=>K ((.tup [(.dat 85 r.1),(.dat 27 (.int r.2))]),[])
 |none=>none
noncomputable def ct41 {R:Type} (m:Nat) (args:List AV) (objs:List Ob) (K:Res→Option R):Option R:=match sel31 args objs with
 |some l=>(accJoinN l.1 l.2.1 l.2.2).bind fun r=>K ((.dat 85 r),[])
 |none=>none
noncomputable def ct42 {R:Type} (m:Nat) (args:List AV) (objs:List Ob) (K:Res→Option R):Option R:=match sel32 args objs with
 |some l=>(qM m l.1 l.2).bind fun r=>K ((.dat 3 (.int r)),[])
 |none=>none
noncomputable def ct43 {R:Type} (m:Nat) (args:List AV) (objs:List Ob) (K:Res→Option R):Option R:=match sel32 args objs with
 |some l=>(zC m l.1 l.2).bind fun r=>K ((.dat 3 (.int r)),[])
 |none=>none
noncomputable def ct44 {R:Type} (m:Nat) (args:List AV) (objs:List Ob) (K:Res→Option R):Option R:=match sel34 args objs with
 |some l=>(qN m l).bind fun r=>K ((.dat 4 (.bool r)),[])
 |none=>none
noncomputable def ct45 {R:Type} (m:Nat) (args:List AV) (objs:List Ob) (K:Res→Option R):Option R:=match sel17 args objs with
 |some l=>(qF m l.1 l.2).bind fun r=>K ((.dat 4 (.bool r)),[])
 |none=>none
noncomputable def ct46 {R:Type} (m:Nat) (args:List AV) (objs:List Ob) (K:Res→Option R):Option R:=match sel7 args objs with
 |some l=>(zV m l).bind fun r=>K ((.dat 4 (.bool r)),[])
 |none=>none
noncomputable def ct47 {R:Type} (m:Nat) (args:List AV) (objs:List Ob) (K:Res→Option R):Option R:=match sel7 args objs with
 |some l=>(qE m l).bind fun r=>K ((.dat 3 (.int r)),[])
 |none=>none
noncomputable def ct48 {R:Type} (m:Nat) (args:List AV) (objs:List Ob) (K:Res→Option R):Option R:=match sel38 args objs with
 |some l=>(zH m l.1 l.2).bind fun r=>K ((.dat 23 (.lst r)),[])
 |none=>none
noncomputable def ct49 {R:Type} (m:Nat) (args:List AV) (objs:List Ob) (K:Res→Option R):Option R:=match sel39 args objs with
 |some l=>(i39 m l.1 l.2).bind fun r=>K ((.tup []),[(.row 91 r.1),(.box 22 (.dat 22 (.lst r.2)))])
 |none=>none
noncomputable def ct80 {R:Type} (m:Nat) (args:List AV) (objs:List Ob) (K:Res→Option R):Option R:=match sel40 args objs with
 |some l=>(i40 m l.1 l.2.1 l.2.2).bind fun r=>K ((.tup []),[(.row 91 r.1),(.box 22 (.dat 22 (.lst r.2)))])
 |none=>none
noncomputable def ct100 {R:Type} (m:Nat) (args:List AV) (objs:List Ob) (K:Res→Option R):Option R:=match sel41 args objs with
 |some l=>(i41 m l.1 l.2.1 l.2.2.1 l.2.2.2).bind fun r=>K ((.tup []),[(.row 91 r.1),(.box 22 (.dat 22 (.lst r.2)))])
 |none=>none
noncomputable def ct50 {R:Type} (m:Nat) (args:List AV) (objs:List Ob) (K:Res→Option R):Option R:=match sel42 args objs with
 |some l=>(i42 m l.1 l.2.1 l.2.2).bind fun r=>K ((.dat 3 (.int r.1)),[(.box 22 (.dat 22 (.lst r.2)))])
 |none=>none
noncomputable def ct51 {R:Type} (m:Nat) (args:List AV) (objs:List Ob) (K:Res→Option R):Option R:=match sel10 args objs with
 |some l=>(qY m l.1 l.2.1 l.2.2).bind fun r=>K ((.dat 3 (.int r)),[])
 |none=>none
noncomputable def ct101 {R:Type} (m:Nat) (args:List AV) (objs:List Ob) (K:Res→Option R):Option R:=match sel44 args objs with
 |some l=>(i44 m l.1 l.2.1 l.2.2.1 l.2.2.2.1 l.2.2.2.2).bind fun r=>K ((.tup []),[(.row 91 r.1),(.box 22 (.dat 22 (.lst r.2)))])
 |none=>none
noncomputable def ct117 {R:Type} (m:Nat) (args:List AV) (objs:List Ob) (K:Res→Option R):Option R:=match sel44 args objs with
 |some l=>(i45 m l.1 l.2.1 l.2.2.1 l.2.2.2.1 l.2.2.2.2).bind fun r=>K ((.tup []),[(.row 91 r.1),(.box 22 (.dat 22 (.lst r.2)))])
 |none=>none
noncomputable def ct135 {R:Type} (m:Nat) (args:List AV) (objs:List Ob) (K:Res→Option R):Option R:=match sel44 args objs with
 |some l=>(i46 m l.1 l.2.1 l.2.2.1 l.2.2.2.1 l.2.2.2.2).bind fun r=>K ((.tup []),[(.row 91 r.1),(.box 22 (.dat 22 (.lst r.2)))])
 |none=>none
noncomputable def ct52 {R:Type} (m:Nat) (args:List AV) (objs:List Ob) (K:Res→Option R):Option R:=match sel7 args objs with
 |some l=>(qG m l).bind fun r=>K ((.dat 36 r),[])
 |none=>none
noncomputable def ct61 {R:Type} (m:Nat) (args:List AV) (objs:List Ob) (K:Res→Option R):Option R:=match sel48 args objs with
 |some l=>(accPackN l).bind fun r=>K ((.dat 36 r),[])
 |none=>none
noncomputable def ct72 {R:Type} (m:Nat) (args:List AV) (objs:List Ob) (K:Res→Option R):Option R:=match sel7 args objs with
 |some l=>(qP m l).bind fun r=>K ((.dat 23 (.lst r)),[])
 |none=>none
noncomputable def ct73 {R:Type} (m:Nat) (args:List AV) (objs:List Ob) (K:Res→Option R):Option R:=match sel50 args objs with
 |some l=>(zA m l.1 l.2.1 l.2.2).bind fun r=>K ((.dat 4 (.bool r)),[])
 |none=>none
noncomputable def ct28 {R:Type} (m:Nat) (args:List AV) (objs:List Ob) (K:Res→Option R):Option R:=match sel34 args objs with
 |some l=>(qR m l).bind fun r=>K ((.dat 4 (.bool r)),[])
 |none=>none
noncomputable def ct74 {R:Type} (m:Nat) (args:List AV) (objs:List Ob) (K:Res→Option R):Option R:=match sel34 args objs with
 |some l=>(qS m l).bind fun r=>K ((.dat 4 (.bool r)),[])
 |none=>none
noncomputable def ct75 {R:Type} (m:Nat) (args:List AV) (objs:List Ob) (K:Res→Option R):Option R:=match sel7 args objs with
 |some l=>(zR m l).bind fun r=>K ((.dat 3 (.int r)),[])
 |none=>none
noncomputable def ct76 {R:Type} (m:Nat) (args:List AV) (objs:List Ob) (K:Res→Option R):Option R:=match sel7 args objs with
 |some l=>(zS m l).bind fun r=>K ((.dat 3 (.int r)),[])
 |none=>none
noncomputable def ct77 {R:Type} (m:Nat) (args:List AV) (objs:List Ob) (K:Res→Option R):Option R:=match sel7 args objs with
 |some l=>(qB m l).bind fun r=>K ((.dat 4 (.bool r)),[])
 |none=>none
noncomputable def ct78 {R:Type} (m:Nat) (args:List AV) (objs:List Ob) (K:Res→Option R):Option R:=match sel3 args objs with
 |some l=>(qU m l).bind fun r=>K ((.dat 3 (.int r)),[])
 |none=>none
noncomputable def ct79 {R:Type} (m:Nat) (args:List AV) (objs:List Ob) (K:Res→Option R):Option R:=match sel57 args objs with
 |some l=>(qX m l.1 l.2).bind fun r=>K ((.dat 36 r),[])
 |none=>none
noncomputable def ct68 {R:Type} (m:Nat) (args:List AV) (objs:List Ob) (K:Res→Option R):Option R:=match sel14 args objs with
 |some l=>(qC m l.1 l.2).bind fun r=>K ((.dat 3 (.int r)),[])
 |none=>none
noncomputable def ct94 {R:Type} (m:Nat) (args:List AV) (objs:List Ob) (K:Res→Option R):Option R:=match sel32 args objs with
 |some l=>(zL m l.1 l.2).bind fun r=>K ((.dat 3 (.int r)),[])
 |none=>none
noncomputable def ct95 {R:Type} (m:Nat) (args:List AV) (objs:List Ob) (K:Res→Option R):Option R:=match sel32 args objs with
 |some l=>(zK m l.1 l.2).bind fun r=>K ((.dat 3 (.int r)),[])
 |none=>none
noncomputable def ct96 {R:Type} (m:Nat) (args:List AV) (objs:List Ob) (K:Res→Option R):Option R:=match sel34 args objs with
 |some l=>(utf8_ValidString l).bind fun r=>K ((.dat 4 (.bool r)),[])
 |none=>none
noncomputable def ct97 {R:Type} (m:Nat) (args:List AV) (objs:List Ob) (K:Res→Option R):Option R:=match sel62 args objs with
 |some l=>(qH m l).bind fun r=>K ((.dat 4 (.bool r)),[])
 |none=>none
noncomputable def ct98 {R:Type} (m:Nat) (args:List AV) (objs:List Ob) (K:Res→Option R):Option R:=match sel3 args objs with
 |some l=>(zP m l).bind fun r=>K ((.dat 144 (.int r)),[])
 |none=>none
noncomputable def ct99 {R:Type} (m:Nat) (args:List AV) (objs:List Ob) (K:Res→Option R):Option R:=match sel64 args objs with
 |some l=>(zG m l.1 l.2).bind fun r=>K ((.dat 23 (.lst r)),[])
 |none=>none
noncomputable def ct90 {R:Type} (m:Nat) (args:List AV) (objs:List Ob) (K:Res→Option R):Option R:=match sel65 args objs with
 |some l=>(zE m l.1 l.2).bind fun r=>K ((.dat 3 (.int r)),[])
 |none=>none
noncomputable def ct91 {R:Type} (m:Nat) (args:List AV) (objs:List Ob) (K:Res→Option R):Option R:=match sel66 args objs with
 |some l=>(strings_Compare l.1 l.2).bind fun r=>K ((.dat 3 (.int r)),[])
 |none=>none
noncomputable def ct110 {R:Type} (m:Nat) (args:List AV) (objs:List Ob) (K:Res→Option R):Option R:=match sel67 args objs with
 |some l=>(i67 m l.1 l.2.1 l.2.2).bind fun r=>K ((.tup []),[(.box 3 (.dat 3 (.int r.1))),(.box 3 (.dat 3 (.int r.2)))])
 |none=>match sel69 args objs with
 |some l=>(i69 m l.1 l.2.1 l.2.2).bind fun r=>K ((.tup []),[(.box 3 (.dat 3 (.int r.1))),(.box 3 (.dat 3 (.int r.2)))])
 |none=>none
noncomputable def ct111 {R:Type} (m:Nat) (args:List AV) (objs:List Ob) (K:Res→Option R):Option R:=match sel68 args objs with
 |some l=>(i68 m l.1 l.2.1 l.2.2).bind fun r=>K ((.dat 4 (.bool r.1)),[(.box 3 (.dat 3 (.int r.2.1))),(.box 3 (.dat 3 (.int r.2.2)))])
 |none=>none
noncomputable def ct112 {R:Type} (m:Nat) (args:List AV) (objs:List Ob) (K:Res→Option R):Option R:=match sel68 args objs with
 |some l=>(i70 m l.1 l.2.1 l.2.2).bind fun r=>K ((.dat 4 (.bool r.1)),[(.box 3 (.dat 3 (.int r.2.1))),(.box 3 (.dat 3 (.int r.2.2)))])
 |none=>none
noncomputable def ct114 {R:Type} (m:Nat) (args:List AV) (objs:List Ob) (K:Res→Option R):Option R:=match sel34 args objs with
 |some l=>(qL m l).bind fun r=>K ((.dat 4 (.bool r)),[])
 |none=>none
noncomputable def ct115 {R:Type} (m:Nat) (args:List AV) (objs:List Ob) (K:Res→Option R):Option R:=match sel72 args objs with
 |some l=>(i72 m l.1 l.2.1 l.2.2).bind fun r=>K ((.row 1),[.gone,(.row 23 r)])
 |none=>none
noncomputable def ct133 {R:Type} (m:Nat) (args:List AV) (objs:List Ob) (K:Res→Option R):Option R:=match sel73 args objs with
 |some l=>(zI m l.1 l.2).bind fun r=>K ((.dat 3 (.int r)),[])
 |none=>none
noncomputable def ct134 {R:Type} (m:Nat) (args:List AV) (objs:List Ob) (K:Res→Option R):Option R:=match sel34 args objs with
 |some l=>(zB m l).bind fun r=>K ((.tup [(.dat 3 (.int r.1)),(.dat 4 (.bool r.2))]),[])
 |none=>none
noncomputable def ct116 {R:Type} (m:Nat) (args:List AV) (objs:List Ob) (K:Res→Option R):Option R:=match sel7 args objs with
 |some l=>(qV m l).bind fun r=>K ((.agg 36 [(.dat 3 (.int r.1)),(.dat 3 (.int r.2.1)),(.dat 9 (.str r.2.2.1)),(.row 0),(.row 1)]),[(.row 23 r.2.2.2.1),(.row 34 r.2.2.2.2)])
 |none=>none
noncomputable def ct107 {R:Type} (m:Nat) (args:List AV) (objs:List Ob) (K:Res→Option R):Option R:=match sel3 args objs with
 |some l=>(zX m l).bind fun r=>K ((.dat 4 (.bool r)),[])
 |none=>none
noncomputable def d3 (q:Res):Option Dt:=match q with
 |(.dat T0 x0,[])=>bif Nat.beq T0 36 then some x0 else none
 |_=>none
theorem d3_sim {b:Res} {r:Dt} (h:d3 b=some r):Sim Tryz.prog b ((.dat 36 r),[]):=by
 unfold d3 at h
 split at h
 ·obtain⟨hc,h2⟩:=bif_some h
  cases h2
  have e0:=beq_eq hc
  subst e0
  exact Sim.of (.of .same rfl rfl) .nil
 ·cases h
noncomputable def d14 (q:Res):Option Bool:=match q with
 |(.dat T0 x0,[])=>bif Nat.beq T0 4 then some x0.toBool else none
 |_=>none
theorem d14_sim {b:Res} {r:Bool} (h:d14 b=some r):Sim Tryz.prog b ((.dat 4 (.bool r)),[]):=by
 unfold d14 at h
 split at h
 ·obtain⟨hc,h2⟩:=bif_some h
  cases h2
  have e0:=beq_eq hc
  subst e0
  exact Sim.of (.of (.dat (.bool Tryz.underlying4)) rfl rfl) .nil
 ·cases h
noncomputable def d21 (q:Res):Option (List Dt×List Dt×List Dt):=match q with
 |(.ptr n0 p0 o0,[.box T1 (.agg T2 [.row n3,.row n4,.row n5]),.row T6 x6,.row T7 x7,.row T8 x8])=>bif (Nat.beq n0 0&&(natsB p0 []&&(Nat.beq o0 0&&(Nat.beq T1 79&&(Nat.beq T2 79&&(Nat.beq n3 1&&(Nat.beq n4 2&&(Nat.beq n5 3&&(Nat.beq T6 23&&(Nat.beq T7 76&&Nat.beq T8 77)))))))))) then some (x6,x7,x8) else none
 |_=>none
theorem d21_sim {b:Res} {r:List Dt×List Dt×List Dt} (h:d21 b=some r):Sim Tryz.prog b ((.ptr 0 [] 0),[(.box 79 (.agg 79 [(.row 1),(.row 2),(.row 3)])),(.row 23 r.1),(.row 76 r.2.1),(.row 77 r.2.2)]):=by
 unfold d21 at h
 split at h
 ·obtain⟨hc,h2⟩:=bif_some h
  cases h2
  have e0:=beq_eq (and_l hc)
  have e1:=natsB_eq (and_l (and_r hc))
  have e2:=beq_eq (and_l (and_r (and_r hc)))
  have e3:=beq_eq (and_l (and_r (and_r (and_r hc))))
  have e4:=beq_eq (and_l (and_r (and_r (and_r (and_r hc)))))
  have e5:=beq_eq (and_l (and_r (and_r (and_r (and_r (and_r hc))))))
  have e6:=beq_eq (and_l (and_r (and_r (and_r (and_r (and_r (and_r hc)))))))
  have e7:=beq_eq (and_l (and_r (and_r (and_r (and_r (and_r (and_r (and_r hc))))))))
  have e8:=beq_eq (and_l (and_r (and_r (and_r (and_r (and_r (and_r (and_r (and_r hc)))))))))
  have e9:=beq_eq (and_l (and_r (and_r (and_r (and_r (and_r (and_r (and_r (and_r (and_r hc))))))))))
  have e10:=beq_eq (and_r (and_r (and_r (and_r (and_r (and_r (and_r (and_r (and_r (and_r hc))))))))))
  subst e0 e1 e2 e3 e4 e5 e6 e7 e8 e9 e10
  exact Sim.of (.of .same rfl rfl) (.cons (.box (.agg (.cons .same (.cons .same (.cons .same .nil))))) (.cons .same (.cons .same (.cons .same .nil))))
 ·cases h
noncomputable def d24 (q:Res):Option (List Dt×List Dt×List Dt×List Dt):=match q with
 |(.dat T0 x0,[.box T1 (.agg T2 [.row n3,.row n4,.row n5]),.frz T6 x6,.frz T7 x7,.frz T8 x8])=>bif (Nat.beq T0 23&&(Nat.beq T1 79&&(Nat.beq T2 79&&(Nat.beq n3 1&&(Nat.beq n4 2&&(Nat.beq n5 3&&(Nat.beq T6 23&&(Nat.beq T7 76&&Nat.beq T8 77)))))))) then some (x0.toLst,x6,x7,x8) else none
 |_=>none
theorem d24_sim {b:Res} {r:List Dt×List Dt×List Dt×List Dt} (h:d24 b=some r):Sim Tryz.prog b ((.dat 23 (.lst r.1)),[(.box 79 (.agg 79 [(.row 1),(.row 2),(.row 3)])),(.frz 23 r.2.1),(.frz 76 r.2.2.1),(.frz 77 r.2.2.2)]):=by
 unfold d24 at h
 split at h
 ·obtain⟨hc,h2⟩:=bif_some h
  cases h2
  have e0:=beq_eq (and_l hc)
  have e1:=beq_eq (and_l (and_r hc))
  have e2:=beq_eq (and_l (and_r (and_r hc)))
  have e3:=beq_eq (and_l (and_r (and_r (and_r hc))))
  have e4:=beq_eq (and_l (and_r (and_r (and_r (and_r hc)))))
  have e5:=beq_eq (and_l (and_r (and_r (and_r (and_r (and_r hc))))))
  have e6:=beq_eq (and_l (and_r (and_r (and_r (and_r (and_r (and_r hc)))))))
  have e7:=beq_eq (and_l (and_r (and_r (and_r (and_r (and_r (and_r (and_r hc))))))))
  have e8:=beq_eq (and_r (and_r (and_r (and_r (and_r (and_r (and_r (and_r hc))))))))
  subst e0 e1 e2 e3 e4 e5 e6 e7 e8
  exact Sim.of (.of (.dat (.lst Tryz.underlying23)) rfl rfl) (.cons (.box (.agg (.cons .same (.cons .same (.cons .same .nil))))) (.cons .same (.cons .same (.cons .same .nil))))
 ·cases h
noncomputable def d11 (q:Res):Option (List Dt):=match q with
 |(.dat T0 x0,[])=>bif Nat.beq T0 23 then some x0.toLst else none
 |_=>none
theorem d11_sim {b:Res} {r:List Dt} (h:d11 b=some r):Sim Tryz.prog b ((.dat 23 (.lst r)),[]):=by
 unfold d11 at h
 split at h
 ·obtain⟨hc,h2⟩:=bif_some h
  cases h2
  have e0:=beq_eq hc
  subst e0
  exact Sim.of (.of (.dat (.lst Tryz.underlying23)) rfl rfl) .nil
 ·cases h
noncomputable def d13 (q:Res):Option (List Dt×Int):=match q with
 |(.tup [.dat T0 x0,.dat T1 x1],[])=>bif (Nat.beq T0 23&&Nat.beq T1 27) then some (x0.toLst,x1.toInt) else none
 |_=>none
theorem d13_sim {b:Res} {r:List Dt×Int} (h:d13 b=some r):Sim Tryz.prog b ((.tup [(.dat 23 (.lst r.1)),(.dat 27 (.int r.2))]),[]):=by
 unfold d13 at h
 split at h
 ·obtain⟨hc,h2⟩:=bif_some h
  cases h2
  have e0:=beq_eq (and_l hc)
  have e1:=beq_eq (and_r hc)
  subst e0 e1
  exact Sim.of (.tup (.cons (.dat (.lst Tryz.underlying23)) (.cons (.dat (.int Tryz.underlying27)) .nil))) .nil
 ·cases h
noncomputable def d46 (q:Res):Option (List Dt×List Dt):=match q with
 |(.tup [],[.row T0 x0,.box T1 (.dat T2 x2)])=>bif (Nat.beq T0 91&&(Nat.beq T1 22&&Nat.beq T2 22)) then some (x0,x2.toLst) else none
 |_=>none
theorem d46_sim {b:Res} {r:List Dt×List Dt} (h:d46 b=some r):Sim Tryz.prog b ((.tup []),[(.row 91 r.1),(.box 22 (.dat 22 (.lst r.2)))]):=by
 unfold d46 at h
 split at h
 ·obtain⟨hc,h2⟩:=bif_some h
  cases h2
  have e0:=beq_eq (and_l hc)
  have e1:=beq_eq (and_l (and_r hc))
  have e2:=beq_eq (and_r (and_r hc))
  subst e0 e1 e2
  exact Sim.of (.tup .nil) (.cons .same (.cons (.box (.dat (.lst Tryz.underlying22))) .nil))
 ·cases h
noncomputable def d32 (q:Res):Option Int:=match q with
 |(.dat T0 x0,[])=>bif Nat.beq T0 3 then some x0.toInt else none
 |_=>none
theorem d32_sim {b:Res} {r:Int} (h:d32 b=some r):Sim Tryz.prog b ((.dat 3 (.int r)),[]):=by
 unfold d32 at h
 split at h
 ·obtain⟨hc,h2⟩:=bif_some h
  cases h2
  have e0:=beq_eq hc
  subst e0
  exact Sim.of (.of (.dat (.int Tryz.underlying3)) rfl rfl) .nil
 ·cases h
noncomputable def d67 (q:Res):Option (Int×Int):=match q with
 |(.tup [],[.box T0 (.dat T1 x1),.box T2 (.dat T3 x3)])=>bif (Nat.beq T0 3&&(Nat.beq T1 3&&(Nat.beq T2 3&&Nat.beq T3 3))) then some (x1.toInt,x3.toInt) else none
 |_=>none
theorem d67_sim {b:Res} {r:Int×Int} (h:d67 b=some r):Sim Tryz.prog b ((.tup []),[(.box 3 (.dat 3 (.int r.1))),(.box 3 (.dat 3 (.int r.2)))]):=by
 unfold d67 at h
 split at h
 ·obtain⟨hc,h2⟩:=bif_some h
  cases h2
  have e0:=beq_eq (and_l hc)
  have e1:=beq_eq (and_l (and_r hc))
  have e2:=beq_eq (and_l (and_r (and_r hc)))
  have e3:=beq_eq (and_r (and_r (and_r hc)))
  subst e0 e1 e2 e3
  exact Sim.of (.tup .nil) (.cons (.box (.dat (.int Tryz.underlying3))) (.cons (.box (.dat (.int Tryz.underlying3))) .nil))
 ·cases h
noncomputable def d68 (q:Res):Option (Bool×Int×Int):=match q with
 |(.dat T0 x0,[.box T1 (.dat T2 x2),.box T3 (.dat T4 x4)])=>bif (Nat.beq T0 4&&(Nat.beq T1 3&&(Nat.beq T2 3&&(Nat.beq T3 3&&Nat.beq T4 3)))) then some (x0.toBool,x2.toInt,x4.toInt) else none
 |_=>none
theorem d68_sim {b:Res} {r:Bool×Int×Int} (h:d68 b=some r):Sim Tryz.prog b ((.dat 4 (.bool r.1)),[(.box 3 (.dat 3 (.int r.2.1))),(.box 3 (.dat 3 (.int r.2.2)))]):=by
 unfold d68 at h
 split at h
 ·obtain⟨hc,h2⟩:=bif_some h
  cases h2
  have e0:=beq_eq (and_l hc)
  have e1:=beq_eq (and_l (and_r hc))
  have e2:=beq_eq (and_l (and_r (and_r hc)))
  have e3:=beq_eq (and_l (and_r (and_r (and_r hc))))
  have e4:=beq_eq (and_r (and_r (and_r (and_r hc))))
  subst e0 e1 e2 e3 e4
  exact Sim.of (.of (.dat (.bool Tryz.underlying4)) rfl rfl) (.cons (.box (.dat (.int Tryz.underlying3))) (.cons (.box (.dat (.int Tryz.underlying3))) .nil))
 ·cases h
noncomputable def d63 (q:Res):Option Int:=match q with
 |(.dat T0 x0,[])=>bif Nat.beq T0 144 then some x0.toInt else none
 |_=>none
theorem d63_sim {b:Res} {r:Int} (h:d63 b=some r):Sim Tryz.prog b ((.dat 144 (.int r)),[]):=by
 unfold d63 at h
 split at h
 ·obtain⟨hc,h2⟩:=bif_some h
  cases h2
  have e0:=beq_eq hc
  subst e0
  exact Sim.of (.of (.dat (.int Tryz.underlying144)) rfl rfl) .nil
 ·cases h
noncomputable def d18 (q:Res):Option (Int×Int):=match q with
 |(.tup [.dat T0 x0,.dat T1 x1],[])=>bif (Nat.beq T0 3&&Nat.beq T1 27) then some (x0.toInt,x1.toInt) else none
 |_=>none
theorem d18_sim {b:Res} {r:Int×Int} (h:d18 b=some r):Sim Tryz.prog b ((.tup [(.dat 3 (.int r.1)),(.dat 27 (.int r.2))]),[]):=by
 unfold d18 at h
 split at h
 ·obtain⟨hc,h2⟩:=bif_some h
  cases h2
  have e0:=beq_eq (and_l hc)
  have e1:=beq_eq (and_r hc)
  subst e0 e1
  exact Sim.of (.tup (.cons (.dat (.int Tryz.underlying3)) (.cons (.dat (.int Tryz.underlying27)) .nil))) .nil
 ·cases h
noncomputable def d8 (q:Res):Option (List Dt×Int):=match q with
 |(.tup [.dat T0 x0,.dat T1 x1],[])=>bif (Nat.beq T0 52&&Nat.beq T1 27) then some (x0.toLst,x1.toInt) else none
 |_=>none
theorem d8_sim {b:Res} {r:List Dt×Int} (h:d8 b=some r):Sim Tryz.prog b ((.tup [(.dat 52 (.lst r.1)),(.dat 27 (.int r.2))]),[]):=by
 unfold d8 at h
 split at h
 ·obtain⟨hc,h2⟩:=bif_some h
  cases h2
  have e0:=beq_eq (and_l hc)
  have e1:=beq_eq (and_r hc)
  subst e0 e1
  exact Sim.of (.tup (.cons (.dat (.lst Tryz.underlying52)) (.cons (.dat (.int Tryz.underlying27)) .nil))) .nil
 ·cases h
noncomputable def d5 (q:Res):Option (List Dt×Int×Int):=match q with
 |(.tup [.dat T0 x0,.dat T1 x1,.dat T2 x2],[])=>bif (Nat.beq T0 23&&(Nat.beq T1 3&&Nat.beq T2 27)) then some (x0.toLst,x1.toInt,x2.toInt) else none
 |_=>none
theorem d5_sim {b:Res} {r:List Dt×Int×Int} (h:d5 b=some r):Sim Tryz.prog b ((.tup [(.dat 23 (.lst r.1)),(.dat 3 (.int r.2.1)),(.dat 27 (.int r.2.2))]),[]):=by
 unfold d5 at h
 split at h
 ·obtain⟨hc,h2⟩:=bif_some h
  cases h2
  have e0:=beq_eq (and_l hc)
  have e1:=beq_eq (and_l (and_r hc))
  have e2:=beq_eq (and_r (and_r hc))
  subst e0 e1 e2
  exact Sim.of (.tup (.cons (.dat (.lst Tryz.underlying23)) (.cons (.dat (.int Tryz.underlying3)) (.cons (.dat (.int Tryz.underlying27)) .nil)))) .nil
 ·cases h
noncomputable def d74 (q:Res):Option (Int×Bool):=match q with
 |(.tup [.dat T0 x0,.dat T1 x1],[])=>bif (Nat.beq T0 3&&Nat.beq T1 4) then some (x0.toInt,x1.toBool) else none
 |_=>none
theorem d74_sim {b:Res} {r:Int×Bool} (h:d74 b=some r):Sim Tryz.prog b ((.tup [(.dat 3 (.int r.1)),(.dat 4 (.bool r.2))]),[]):=by
 unfold d74 at h
 split at h
 ·obtain⟨hc,h2⟩:=bif_some h
  cases h2
  have e0:=beq_eq (and_l hc)
  have e1:=beq_eq (and_r hc)
  subst e0 e1
  exact Sim.of (.tup (.cons (.dat (.int Tryz.underlying3)) (.cons (.dat (.bool Tryz.underlying4)) .nil))) .nil
 ·cases h
noncomputable def d72 (q:Res):Option (List Dt):=match q with
 |(.row n0,[.gone,.row T1 x1])=>bif (Nat.beq n0 1&&Nat.beq T1 23) then some x1 else none
 |_=>none
theorem d72_sim {b:Res} {r:List Dt} (h:d72 b=some r):Sim Tryz.prog b ((.row 1),[.gone,(.row 23 r)]):=by
 unfold d72 at h
 split at h
 ·obtain⟨hc,h2⟩:=bif_some h
  cases h2
  have e0:=beq_eq (and_l hc)
  have e1:=beq_eq (and_r hc)
  subst e0 e1
  exact Sim.of (.of .same rfl rfl) (.cons .same (.cons .same .nil))
 ·cases h
noncomputable def d75 (q:Res):Option (Int×Int×ByteArray×List Dt×List Dt):=match q with
 |(.agg T0 [.dat T1 x1,.dat T2 x2,.dat T3 x3,.row n4,.row n5],[.row T6 x6,.row T7 x7])=>bif (Nat.beq T0 36&&(Nat.beq T1 3&&(Nat.beq T2 3&&(Nat.beq T3 9&&(Nat.beq n4 0&&(Nat.beq n5 1&&(Nat.beq T6 23&&Nat.beq T7 34))))))) then some (x1.toInt,x2.toInt,x3.toStr,x6,x7) else none
 |_=>none
theorem d75_sim {b:Res} {r:Int×Int×ByteArray×List Dt×List Dt} (h:d75 b=some r):Sim Tryz.prog b ((.agg 36 [(.dat 3 (.int r.1)),(.dat 3 (.int r.2.1)),(.dat 9 (.str r.2.2.1)),(.row 0),(.row 1)]),[(.row 23 r.2.2.2.1),(.row 34 r.2.2.2.2)]):=by
 unfold d75 at h
 split at h
 ·obtain⟨hc,h2⟩:=bif_some h
  cases h2
  have e0:=beq_eq (and_l hc)
  have e1:=beq_eq (and_l (and_r hc))
  have e2:=beq_eq (and_l (and_r (and_r hc)))
  have e3:=beq_eq (and_l (and_r (and_r (and_r hc))))
  have e4:=beq_eq (and_l (and_r (and_r (and_r (and_r hc)))))
  have e5:=beq_eq (and_l (and_r (and_r (and_r (and_r (and_r hc))))))
  have e6:=beq_eq (and_l (and_r (and_r (and_r (and_r (and_r (and_r hc)))))))
  have e7:=beq_eq (and_r (and_r (and_r (and_r (and_r (and_r (and_r hc)))))))
  subst e0 e1 e2 e3 e4 e5 e6 e7
  exact Sim.of (.of (.agg (.cons (.dat (.int Tryz.underlying3)) (.cons (.dat (.int Tryz.underlying3)) (.cons (.dat (.str Tryz.underlying9)) (.cons .same (.cons .same .nil)))))) rfl rfl) (.cons .same (.cons .same .nil))
 ·cases h
noncomputable def d42 (q:Res):Option (Int×List Dt):=match q with
 |(.dat T0 x0,[.box T1 (.dat T2 x2)])=>bif (Nat.beq T0 3&&(Nat.beq T1 22&&Nat.beq T2 22)) then some (x0.toInt,x2.toLst) else none
 |_=>none
theorem d42_sim {b:Res} {r:Int×List Dt} (h:d42 b=some r):Sim Tryz.prog b ((.dat 3 (.int r.1)),[(.box 22 (.dat 22 (.lst r.2)))]):=by
 unfold d42 at h
 split at h
 ·obtain⟨hc,h2⟩:=bif_some h
  cases h2
  have e0:=beq_eq (and_l hc)
  have e1:=beq_eq (and_l (and_r hc))
  have e2:=beq_eq (and_r (and_r hc))
  subst e0 e1 e2
  exact Sim.of (.of (.dat (.int Tryz.underlying3)) rfl rfl) (.cons (.box (.dat (.lst Tryz.underlying22))) .nil)
 ·cases h
noncomputable def ct {R:Type} (m:Nat) (f:FuncId) (args:List AV) (objs:List Ob) (K:Res→Option R):Option R:=
 bif Nat.beq f 4 then ct4 m args objs K else
 bif Nat.beq f 5 then ct5 m args objs K else
 bif Nat.beq f 7 then ct7 m args objs K else
 bif Nat.beq f 11 then ct11 m args objs K else
 bif Nat.beq f 8 then ct8 m args objs K else
 bif Nat.beq f 12 then ct12 m args objs K else
 bif Nat.beq f 10 then ct10 m args objs K else
 bif Nat.beq f 13 then ct13 m args objs K else
 bif Nat.beq f 16 then ct16 m args objs K else
 bif Nat.beq f 17 then ct17 m args objs K else
 bif Nat.beq f 18 then ct18 m args objs K else
 bif Nat.beq f 22 then ct22 m args objs K else
 bif Nat.beq f 23 then ct23 m args objs K else
 bif Nat.beq f 24 then ct24 m args objs K else
 bif Nat.beq f 21 then ct21 m args objs K else
 bif Nat.beq f 25 then ct25 m args objs K else
 bif Nat.beq f 26 then ct26 m args objs K else
 bif Nat.beq f 27 then ct27 m args objs K else
 bif Nat.beq f 29 then ct29 m args objs K else
 bif Nat.beq f 30 then ct30 m args objs K else
 bif Nat.beq f 31 then ct31 m args objs K else
 bif Nat.beq f 34 then ct34 m args objs K else
 bif Nat.beq f 56 then ct56 m args objs K else
 bif Nat.beq f 57 then ct57 m args objs K else
 bif Nat.beq f 35 then ct35 m args objs K else
 bif Nat.beq f 58 then ct58 m args objs K else
 bif Nat.beq f 36 then ct36 m args objs K else
 bif Nat.beq f 37 then ct37 m args objs K else
 bif Nat.beq f 38 then ct38 m args objs K else
 bif Nat.beq f 39 then ct39 m args objs K else
 bif Nat.beq f 41 then ct41 m args objs K else
 bif Nat.beq f 42 then ct42 m args objs K else
 bif Nat.beq f 43 then ct43 m args objs K else
 bif Nat.beq f 44 then ct44 m args objs K else
 bif Nat.beq f 45 then ct45 m args objs K else
 bif Nat.beq f 46 then ct46 m args objs K else
 bif Nat.beq f 47 then ct47 m args objs K else
 bif Nat.beq f 48 then ct48 m args objs K else
 bif Nat.beq f 49 then ct49 m args objs K else
 bif Nat.beq f 80 then ct80 m args objs K else
 bif Nat.beq f 100 then ct100 m args objs K else
 bif Nat.beq f 50 then ct50 m args objs K else
 bif Nat.beq f 51 then ct51 m args objs K else
 bif Nat.beq f 101 then ct101 m args objs K else
 bif Nat.beq f 117 then ct117 m args objs K else
 bif Nat.beq f 135 then ct135 m args objs K else
 bif Nat.beq f 52 then ct52 m args objs K else
 bif Nat.beq f 61 then ct61 m args objs K else
 bif Nat.beq f 72 then ct72 m args objs K else
 bif Nat.beq f 73 then ct73 m args objs K else
 bif Nat.beq f 28 then ct28 m args objs K else
 bif Nat.beq f 74 then ct74 m args objs K else
 bif Nat.beq f 75 then ct75 m args objs K else
 bif Nat.beq f 76 then ct76 m args objs K else
 bif Nat.beq f 77 then ct77 m args objs K else
 bif Nat.beq f 78 then ct78 m args objs K else
 bif Nat.beq f 79 then ct79 m args objs K else
 bif Nat.beq f 68 then ct68 m args objs K else
 bif Nat.beq f 94 then ct94 m args objs K else
 bif Nat.beq f 95 then ct95 m args objs K else
 bif Nat.beq f 96 then ct96 m args objs K else
 bif Nat.beq f 97 then ct97 m args objs K else
 bif Nat.beq f 98 then ct98 m args objs K else
 bif Nat.beq f 99 then ct99 m args objs K else
 bif Nat.beq f 90 then ct90 m args objs K else
 bif Nat.beq f 91 then ct91 m args objs K else
 bif Nat.beq f 110 then ct110 m args objs K else
 bif Nat.beq f 111 then ct111 m args objs K else
 bif Nat.beq f 112 then ct112 m args objs K else
 bif Nat.beq f 114 then ct114 m args objs K else
 bif Nat.beq f 115 then ct115 m args objs K else
 bif Nat.beq f 133 then ct133 m args objs K else
 bif Nat.beq f 134 then ct134 m args objs K else
 bif Nat.beq f 116 then ct116 m args objs K else
 bif Nat.beq f 107 then ct107 m args objs K else
 bif Nat.beq f 40 then ct40 m args objs K else
 none
section
variable {R:Type} {P:Program} {E:Env} {call:FuncId→List AV→List Ob→(Res→Option R)→Option R} {m n M:Nat} {f:FuncId} {fn:Func} {dec:Res→Option R} {p ms:List Nat} {σ:St} {g:(Nat→Nat→Nat→St→Option R→Option R)→Option R} {r:Option R}
theorem tq (e:g jn=r) (h:∀J,evAt P E call J m f n fn dec p ms σ=g J:=by intro J;kernel_rfl):evAt P E call jn m f n fn dec p ms σ=r:=(h jn).trans e
theorem tl (e:g jn=r) (h:∀J,loopAt P E call J m f n fn dec p ms M σ=g J:=by intro J;kernel_rfl):loopAt P E call jn m f n fn dec p ms M σ=r:=(h jn).trans e
end
end Go.Proofs.YtpifchdngodgjaaGreatDoor
