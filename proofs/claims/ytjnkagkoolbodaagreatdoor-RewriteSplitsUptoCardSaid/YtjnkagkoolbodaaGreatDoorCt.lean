/- Generated: the functions as contracts for their callers. -/
import Derived.Test.YtjnkagkoolbodaaGreatDoorSh
import Derived.Test.YtjnkagkoolbodaaGreatDoorProg
import Derived.KernelRfl
set_option linter.unusedVariables false
set_option linter.unusedSimpArgs false
namespace Go.Proofs.YtjnkagkoolbodaaGreatDoor
open Go.Am
def YV (args:List AV) (objs:List Ob):Option (List Dt):=match args,objs with
 | [.dat T0 x0],[]=>bif Nat.beq T0 22 then some x0.toLst else none
 |_,_=>none
theorem vO {args:List AV} {objs:List Ob} {l:List Dt} (h:YV args objs=some l):CnA Tryz.prog args [.dat 22 (.lst l)]∧CnOL Tryz.prog objs []:=by
 unfold YV at h
 split at h
 ·obtain⟨hc,h2⟩:=bif_some h
  cases h2
  have e0:=beq_eq hc
  subst e0
  exact⟨(.cons (.of (.dat (.lst Tryz.underlying22)) rfl rfl) .nil),.nil⟩
 ·cases h
def azh (args:List AV) (objs:List Ob):Option Unit:=match args,objs with
 | [],[]=>bif true then some () else none
 |_,_=>none
theorem arj {args:List AV} {objs:List Ob} {l:Unit} (h:azh args objs=some l):CnA Tryz.prog args []∧CnOL Tryz.prog objs []:=by
 unfold azh at h
 split at h
 ·obtain⟨hc,h2⟩:=bif_some h
  cases h2
  exact⟨.nil,.nil⟩
 ·cases h
def azi (args:List AV) (objs:List Ob):Option (List Dt×List Dt):=match args,objs with
 | [.dat T0 x0,.dat T1 x1],[]=>bif (Nat.beq T0 22&&Nat.beq T1 22) then some (x0.toLst,x1.toLst) else none
 |_,_=>none
theorem ark {args:List AV} {objs:List Ob} {l:List Dt×List Dt} (h:azi args objs=some l):CnA Tryz.prog args [.dat 22 (.lst l.1),.dat 22 (.lst l.2)]∧CnOL Tryz.prog objs []:=by
 unfold azi at h
 split at h
 ·obtain⟨hc,h2⟩:=bif_some h
  cases h2
  have e0:=beq_eq (and_l hc)
  have e1:=beq_eq (and_r hc)
  subst e0 e1
  exact⟨(.cons (.of (.dat (.lst Tryz.underlying22)) rfl rfl) (.cons (.of (.dat (.lst Tryz.underlying22)) rfl rfl) .nil)),.nil⟩
 ·cases h
def arl (args:List AV) (objs:List Ob):Option (List Dt×List Dt):=match args,objs with
 | [.dat T0 x0,.dat T1 x1],[]=>bif (Nat.beq T0 40&&Nat.beq T1 40) then some (x0.toLst,x1.toLst) else none
 |_,_=>none
theorem U1 {args:List AV} {objs:List Ob} {l:List Dt×List Dt} (h:arl args objs=some l):CnA Tryz.prog args [.dat 40 (.lst l.1),.dat 40 (.lst l.2)]∧CnOL Tryz.prog objs []:=by
 unfold arl at h
 split at h
 ·obtain⟨hc,h2⟩:=bif_some h
  cases h2
  have e0:=beq_eq (and_l hc)
  have e1:=beq_eq (and_r hc)
  subst e0 e1
  exact⟨(.cons (.of (.dat (.lst Tryz.underlying40)) rfl rfl) (.cons (.of (.dat (.lst Tryz.underlying40)) rfl rfl) .nil)),.nil⟩
 ·cases h
def azj (args:List AV) (objs:List Ob):Option (List Dt×Int):=match args,objs with
 | [.dat T0 x0,.dat T1 x1],[]=>bif (Nat.beq T0 22&&Nat.beq T1 3) then some (x0.toLst,x1.toInt) else none
 |_,_=>none
theorem arn {args:List AV} {objs:List Ob} {l:List Dt×Int} (h:azj args objs=some l):CnA Tryz.prog args [.dat 22 (.lst l.1),.dat 3 (.int l.2)]∧CnOL Tryz.prog objs []:=by
 unfold azj at h
 split at h
 ·obtain⟨hc,h2⟩:=bif_some h
  cases h2
  have e0:=beq_eq (and_l hc)
  have e1:=beq_eq (and_r hc)
  subst e0 e1
  exact⟨(.cons (.of (.dat (.lst Tryz.underlying22)) rfl rfl) (.cons (.of (.dat (.int Tryz.underlying3)) rfl rfl) .nil)),.nil⟩
 ·cases h
def azk (args:List AV) (objs:List Ob):Option (List Dt×Bool):=match args,objs with
 | [.dat T0 x0,.dat T1 x1],[]=>bif (Nat.beq T0 22&&Nat.beq T1 4) then some (x0.toLst,x1.toBool) else none
 |_,_=>none
theorem aro {args:List AV} {objs:List Ob} {l:List Dt×Bool} (h:azk args objs=some l):CnA Tryz.prog args [.dat 22 (.lst l.1),.dat 4 (.bool l.2)]∧CnOL Tryz.prog objs []:=by
 unfold azk at h
 split at h
 ·obtain⟨hc,h2⟩:=bif_some h
  cases h2
  have e0:=beq_eq (and_l hc)
  have e1:=beq_eq (and_r hc)
  subst e0 e1
  exact⟨(.cons (.of (.dat (.lst Tryz.underlying22)) rfl rfl) (.cons (.of (.dat (.bool Tryz.underlying4)) rfl rfl) .nil)),.nil⟩
 ·cases h
def IB (args:List AV) (objs:List Ob):Option Int:=match args,objs with
 | [.dat T0 x0],[]=>bif Nat.beq T0 3 then some x0.toInt else none
 |_,_=>none
theorem jw {args:List AV} {objs:List Ob} {l:Int} (h:IB args objs=some l):CnA Tryz.prog args [.dat 3 (.int l)]∧CnOL Tryz.prog objs []:=by
 unfold IB at h
 split at h
 ·obtain⟨hc,h2⟩:=bif_some h
  cases h2
  have e0:=beq_eq hc
  subst e0
  exact⟨(.cons (.of (.dat (.int Tryz.underlying3)) rfl rfl) .nil),.nil⟩
 ·cases h
def afd (args:List AV) (objs:List Ob):Option (List Dt):=match args,objs with
 | [.dat T0 x0,.fn T1 []],[]=>bif (Nat.beq T0 22&&Nat.beq T1 25) then some x0.toLst else none
 |_,_=>none
theorem afe {args:List AV} {objs:List Ob} {l:List Dt} (h:afd args objs=some l):CnA Tryz.prog args [.dat 22 (.lst l),.fn 25 []]∧CnOL Tryz.prog objs []:=by
 unfold afd at h
 split at h
 ·obtain⟨hc,h2⟩:=bif_some h
  cases h2
  have e0:=beq_eq (and_l hc)
  have e1:=beq_eq (and_r hc)
  subst e0 e1
  exact⟨(.cons (.of (.dat (.lst Tryz.underlying22)) rfl rfl) (.cons (.of (.fn .nil) rfl rfl) .nil)),.nil⟩
 ·cases h
def nH (args:List AV) (objs:List Ob):Option Dt:=match args,objs with
 | [.dat T0 x0],[]=>bif Nat.beq T0 71 then some x0 else none
 |_,_=>none
theorem fB {args:List AV} {objs:List Ob} {l:Dt} (h:nH args objs=some l):CnA Tryz.prog args [.dat 71 l]∧CnOL Tryz.prog objs []:=by
 unfold nH at h
 split at h
 ·obtain⟨hc,h2⟩:=bif_some h
  cases h2
  have e0:=beq_eq hc
  subst e0
  exact⟨(.cons (.of .same rfl rfl) .nil),.nil⟩
 ·cases h
def aff (args:List AV) (objs:List Ob):Option (List Dt):=match args,objs with
 | [.dat T0 x0,.fn T1 []],[]=>bif (Nat.beq T0 40&&Nat.beq T1 22) then some x0.toLst else none
 |_,_=>none
theorem afg {args:List AV} {objs:List Ob} {l:List Dt} (h:aff args objs=some l):CnA Tryz.prog args [.dat 40 (.lst l),.fn 22 []]∧CnOL Tryz.prog objs []:=by
 unfold aff at h
 split at h
 ·obtain⟨hc,h2⟩:=bif_some h
  cases h2
  have e0:=beq_eq (and_l hc)
  have e1:=beq_eq (and_r hc)
  subst e0 e1
  exact⟨(.cons (.of (.dat (.lst Tryz.underlying40)) rfl rfl) (.cons (.of (.fn .nil) rfl rfl) .nil)),.nil⟩
 ·cases h
def afh (args:List AV) (objs:List Ob):Option Dt:=match args,objs with
 | [.dat T0 x0],[]=>bif Nat.beq T0 73 then some x0 else none
 |_,_=>none
theorem afi {args:List AV} {objs:List Ob} {l:Dt} (h:afh args objs=some l):CnA Tryz.prog args [.dat 73 l]∧CnOL Tryz.prog objs []:=by
 unfold afh at h
 split at h
 ·obtain⟨hc,h2⟩:=bif_some h
  cases h2
  have e0:=beq_eq hc
  subst e0
  exact⟨(.cons (.of .same rfl rfl) .nil),.nil⟩
 ·cases h
def afj (args:List AV) (objs:List Ob):Option (List Dt×Int×Int):=match args,objs with
 | [.dat T0 x0,.dat T1 x1,.dat T2 x2],[]=>bif (Nat.beq T0 22&&(Nat.beq T1 3&&Nat.beq T2 3)) then some (x0.toLst,x1.toInt,x2.toInt) else none
 |_,_=>none
theorem afk {args:List AV} {objs:List Ob} {l:List Dt×Int×Int} (h:afj args objs=some l):CnA Tryz.prog args [.dat 22 (.lst l.1),.dat 3 (.int l.2.1),.dat 3 (.int l.2.2)]∧CnOL Tryz.prog objs []:=by
 unfold afj at h
 split at h
 ·obtain⟨hc,h2⟩:=bif_some h
  cases h2
  have e0:=beq_eq (and_l hc)
  have e1:=beq_eq (and_l (and_r hc))
  have e2:=beq_eq (and_r (and_r hc))
  subst e0 e1 e2
  exact⟨(.cons (.of (.dat (.lst Tryz.underlying22)) rfl rfl) (.cons (.of (.dat (.int Tryz.underlying3)) rfl rfl) (.cons (.of (.dat (.int Tryz.underlying3)) rfl rfl) .nil))),.nil⟩
 ·cases h
def afl (args:List AV) (objs:List Ob):Option (Dt×Dt):=match args,objs with
 | [.dat T0 x0,.dat T1 x1],[]=>bif (Nat.beq T0 71&&Nat.beq T1 71) then some (x0,x1) else none
 |_,_=>none
theorem afm {args:List AV} {objs:List Ob} {l:Dt×Dt} (h:afl args objs=some l):CnA Tryz.prog args [.dat 71 l.1,.dat 71 l.2]∧CnOL Tryz.prog objs []:=by
 unfold afl at h
 split at h
 ·obtain⟨hc,h2⟩:=bif_some h
  cases h2
  have e0:=beq_eq (and_l hc)
  have e1:=beq_eq (and_r hc)
  subst e0 e1
  exact⟨(.cons (.of .same rfl rfl) (.cons (.of .same rfl rfl) .nil)),.nil⟩
 ·cases h
def EZ (args:List AV) (objs:List Ob):Option (List Dt×List Dt):=match args,objs with
 | [.dat T0 x0,.dat T1 x1],[]=>bif (Nat.beq T0 26&&Nat.beq T1 26) then some (x0.toLst,x1.toLst) else none
 |_,_=>none
theorem qj {args:List AV} {objs:List Ob} {l:List Dt×List Dt} (h:EZ args objs=some l):CnA Tryz.prog args [.dat 26 (.lst l.1),.dat 26 (.lst l.2)]∧CnOL Tryz.prog objs []:=by
 unfold EZ at h
 split at h
 ·obtain⟨hc,h2⟩:=bif_some h
  cases h2
  have e0:=beq_eq (and_l hc)
  have e1:=beq_eq (and_r hc)
  subst e0 e1
  exact⟨(.cons (.of (.dat (.lst Tryz.underlying26)) rfl rfl) (.cons (.of (.dat (.lst Tryz.underlying26)) rfl rfl) .nil)),.nil⟩
 ·cases h
def xu (args:List AV) (objs:List Ob):Option Dt:=match args,objs with
 | [.dat T0 x0],[]=>bif Nat.beq T0 39 then some x0 else none
 |_,_=>none
theorem kG {args:List AV} {objs:List Ob} {l:Dt} (h:xu args objs=some l):CnA Tryz.prog args [.dat 39 l]∧CnOL Tryz.prog objs []:=by
 unfold xu at h
 split at h
 ·obtain⟨hc,h2⟩:=bif_some h
  cases h2
  have e0:=beq_eq hc
  subst e0
  exact⟨(.cons (.of .same rfl rfl) .nil),.nil⟩
 ·cases h
def LU (args:List AV) (objs:List Ob):Option Dt:=match args,objs with
 | [.dat T0 x0],[]=>bif Nat.beq T0 45 then some x0 else none
 |_,_=>none
theorem xw {args:List AV} {objs:List Ob} {l:Dt} (h:LU args objs=some l):CnA Tryz.prog args [.dat 45 l]∧CnOL Tryz.prog objs []:=by
 unfold LU at h
 split at h
 ·obtain⟨hc,h2⟩:=bif_some h
  cases h2
  have e0:=beq_eq hc
  subst e0
  exact⟨(.cons (.of .same rfl rfl) .nil),.nil⟩
 ·cases h
def afn (args:List AV) (objs:List Ob):Option (List Dt):=match args,objs with
 | [.dat T0 x0,.fn T1 []],[]=>bif (Nat.beq T0 43&&Nat.beq T1 51) then some x0.toLst else none
 |_,_=>none
theorem afo {args:List AV} {objs:List Ob} {l:List Dt} (h:afn args objs=some l):CnA Tryz.prog args [.dat 43 (.lst l),.fn 51 []]∧CnOL Tryz.prog objs []:=by
 unfold afn at h
 split at h
 ·obtain⟨hc,h2⟩:=bif_some h
  cases h2
  have e0:=beq_eq (and_l hc)
  have e1:=beq_eq (and_r hc)
  subst e0 e1
  exact⟨(.cons (.of (.dat (.lst Tryz.underlying43)) rfl rfl) (.cons (.of (.fn .nil) rfl rfl) .nil)),.nil⟩
 ·cases h
def afp (args:List AV) (objs:List Ob):Option Dt:=match args,objs with
 | [.dat T0 x0],[]=>bif Nat.beq T0 110 then some x0 else none
 |_,_=>none
theorem afq {args:List AV} {objs:List Ob} {l:Dt} (h:afp args objs=some l):CnA Tryz.prog args [.dat 110 l]∧CnOL Tryz.prog objs []:=by
 unfold afp at h
 split at h
 ·obtain⟨hc,h2⟩:=bif_some h
  cases h2
  have e0:=beq_eq hc
  subst e0
  exact⟨(.cons (.of .same rfl rfl) .nil),.nil⟩
 ·cases h
def LV (args:List AV) (objs:List Ob):Option (List Dt):=match args,objs with
 | [.dat T0 x0],[]=>bif Nat.beq T0 26 then some x0.toLst else none
 |_,_=>none
theorem xA {args:List AV} {objs:List Ob} {l:List Dt} (h:LV args objs=some l):CnA Tryz.prog args [.dat 26 (.lst l)]∧CnOL Tryz.prog objs []:=by
 unfold LV at h
 split at h
 ·obtain⟨hc,h2⟩:=bif_some h
  cases h2
  have e0:=beq_eq hc
  subst e0
  exact⟨(.cons (.of (.dat (.lst Tryz.underlying26)) rfl rfl) .nil),.nil⟩
 ·cases h
def xB (args:List AV) (objs:List Ob):Option Dt:=match args,objs with
 | [.dat T0 x0],[]=>bif Nat.beq T0 36 then some x0 else none
 |_,_=>none
theorem kH {args:List AV} {objs:List Ob} {l:Dt} (h:xB args objs=some l):CnA Tryz.prog args [.dat 36 l]∧CnOL Tryz.prog objs []:=by
 unfold xB at h
 split at h
 ·obtain⟨hc,h2⟩:=bif_some h
  cases h2
  have e0:=beq_eq hc
  subst e0
  exact⟨(.cons (.of .same rfl rfl) .nil),.nil⟩
 ·cases h
def afr (args:List AV) (objs:List Ob):Option (List Dt):=match args,objs with
 | [.dat T0 x0,.fn T1 []],[]=>bif (Nat.beq T0 59&&Nat.beq T1 53) then some x0.toLst else none
 |_,_=>none
theorem afs {args:List AV} {objs:List Ob} {l:List Dt} (h:afr args objs=some l):CnA Tryz.prog args [.dat 59 (.lst l),.fn 53 []]∧CnOL Tryz.prog objs []:=by
 unfold afr at h
 split at h
 ·obtain⟨hc,h2⟩:=bif_some h
  cases h2
  have e0:=beq_eq (and_l hc)
  have e1:=beq_eq (and_r hc)
  subst e0 e1
  exact⟨(.cons (.of (.dat (.lst Tryz.underlying59)) rfl rfl) (.cons (.of (.fn .nil) rfl rfl) .nil)),.nil⟩
 ·cases h
def U2 (args:List AV) (objs:List Ob):Option Dt:=match args,objs with
 | [.dat T0 x0],[]=>bif Nat.beq T0 114 then some x0 else none
 |_,_=>none
theorem LX {args:List AV} {objs:List Ob} {l:Dt} (h:U2 args objs=some l):CnA Tryz.prog args [.dat 114 l]∧CnOL Tryz.prog objs []:=by
 unfold U2 at h
 split at h
 ·obtain⟨hc,h2⟩:=bif_some h
  cases h2
  have e0:=beq_eq hc
  subst e0
  exact⟨(.cons (.of .same rfl rfl) .nil),.nil⟩
 ·cases h
def aft (args:List AV) (objs:List Ob):Option (List Dt):=match args,objs with
 | [.dat T0 x0,.fn T1 []],[]=>bif (Nat.beq T0 62&&Nat.beq T1 55) then some x0.toLst else none
 |_,_=>none
theorem afu {args:List AV} {objs:List Ob} {l:List Dt} (h:aft args objs=some l):CnA Tryz.prog args [.dat 62 (.lst l),.fn 55 []]∧CnOL Tryz.prog objs []:=by
 unfold aft at h
 split at h
 ·obtain⟨hc,h2⟩:=bif_some h
  cases h2
  have e0:=beq_eq (and_l hc)
  have e1:=beq_eq (and_r hc)
  subst e0 e1
  exact⟨(.cons (.of (.dat (.lst Tryz.underlying62)) rfl rfl) (.cons (.of (.fn .nil) rfl rfl) .nil)),.nil⟩
 ·cases h
def U3 (args:List AV) (objs:List Ob):Option Dt:=match args,objs with
 | [.dat T0 x0],[]=>bif Nat.beq T0 118 then some x0 else none
 |_,_=>none
theorem LY {args:List AV} {objs:List Ob} {l:Dt} (h:U3 args objs=some l):CnA Tryz.prog args [.dat 118 l]∧CnOL Tryz.prog objs []:=by
 unfold U3 at h
 split at h
 ·obtain⟨hc,h2⟩:=bif_some h
  cases h2
  have e0:=beq_eq hc
  subst e0
  exact⟨(.cons (.of .same rfl rfl) .nil),.nil⟩
 ·cases h
def afv (args:List AV) (objs:List Ob):Option (List Dt):=match args,objs with
 | [.dat T0 x0,.fn T1 []],[]=>bif (Nat.beq T0 67&&Nat.beq T1 57) then some x0.toLst else none
 |_,_=>none
theorem afw {args:List AV} {objs:List Ob} {l:List Dt} (h:afv args objs=some l):CnA Tryz.prog args [.dat 67 (.lst l),.fn 57 []]∧CnOL Tryz.prog objs []:=by
 unfold afv at h
 split at h
 ·obtain⟨hc,h2⟩:=bif_some h
  cases h2
  have e0:=beq_eq (and_l hc)
  have e1:=beq_eq (and_r hc)
  subst e0 e1
  exact⟨(.cons (.of (.dat (.lst Tryz.underlying67)) rfl rfl) (.cons (.of (.fn .nil) rfl rfl) .nil)),.nil⟩
 ·cases h
def afx (args:List AV) (objs:List Ob):Option Dt:=match args,objs with
 | [.dat T0 x0],[]=>bif Nat.beq T0 122 then some x0 else none
 |_,_=>none
theorem afy {args:List AV} {objs:List Ob} {l:Dt} (h:afx args objs=some l):CnA Tryz.prog args [.dat 122 l]∧CnOL Tryz.prog objs []:=by
 unfold afx at h
 split at h
 ·obtain⟨hc,h2⟩:=bif_some h
  cases h2
  have e0:=beq_eq hc
  subst e0
  exact⟨(.cons (.of .same rfl rfl) .nil),.nil⟩
 ·cases h
def afz (args:List AV) (objs:List Ob):Option (List Dt):=match args,objs with
 | [.dat T0 x0,.fn T1 []],[]=>bif (Nat.beq T0 27&&Nat.beq T1 42) then some x0.toLst else none
 |_,_=>none
theorem afA {args:List AV} {objs:List Ob} {l:List Dt} (h:afz args objs=some l):CnA Tryz.prog args [.dat 27 (.lst l),.fn 42 []]∧CnOL Tryz.prog objs []:=by
 unfold afz at h
 split at h
 ·obtain⟨hc,h2⟩:=bif_some h
  cases h2
  have e0:=beq_eq (and_l hc)
  have e1:=beq_eq (and_r hc)
  subst e0 e1
  exact⟨(.cons (.of (.dat (.lst Tryz.underlying27)) rfl rfl) (.cons (.of (.fn .nil) rfl rfl) .nil)),.nil⟩
 ·cases h
def uI (args:List AV) (objs:List Ob):Option Dt:=match args,objs with
 | [.dat T0 x0],[]=>bif Nat.beq T0 30 then some x0 else none
 |_,_=>none
theorem jg {args:List AV} {objs:List Ob} {l:Dt} (h:uI args objs=some l):CnA Tryz.prog args [.dat 30 l]∧CnOL Tryz.prog objs []:=by
 unfold uI at h
 split at h
 ·obtain⟨hc,h2⟩:=bif_some h
  cases h2
  have e0:=beq_eq hc
  subst e0
  exact⟨(.cons (.of .same rfl rfl) .nil),.nil⟩
 ·cases h
def afB (args:List AV) (objs:List Ob):Option (List Dt):=match args,objs with
 | [.dat T0 x0,.fn T1 []],[]=>bif (Nat.beq T0 41&&Nat.beq T1 41) then some x0.toLst else none
 |_,_=>none
theorem afC {args:List AV} {objs:List Ob} {l:List Dt} (h:afB args objs=some l):CnA Tryz.prog args [.dat 41 (.lst l),.fn 41 []]∧CnOL Tryz.prog objs []:=by
 unfold afB at h
 split at h
 ·obtain⟨hc,h2⟩:=bif_some h
  cases h2
  have e0:=beq_eq (and_l hc)
  have e1:=beq_eq (and_r hc)
  subst e0 e1
  exact⟨(.cons (.of (.dat (.lst Tryz.underlying41)) rfl rfl) (.cons (.of (.fn .nil) rfl rfl) .nil)),.nil⟩
 ·cases h
def LZ (args:List AV) (objs:List Ob):Option Dt:=match args,objs with
 | [.dat T0 x0],[]=>bif Nat.beq T0 33 then some x0 else none
 |_,_=>none
theorem xC {args:List AV} {objs:List Ob} {l:Dt} (h:LZ args objs=some l):CnA Tryz.prog args [.dat 33 l]∧CnOL Tryz.prog objs []:=by
 unfold LZ at h
 split at h
 ·obtain⟨hc,h2⟩:=bif_some h
  cases h2
  have e0:=beq_eq hc
  subst e0
  exact⟨(.cons (.of .same rfl rfl) .nil),.nil⟩
 ·cases h
def afD (args:List AV) (objs:List Ob):Option (List Dt×List Dt):=match args,objs with
 | [.dat T0 x0,.dat T1 x1],[]=>bif (Nat.beq T0 27&&Nat.beq T1 27) then some (x0.toLst,x1.toLst) else none
 |_,_=>none
theorem afE {args:List AV} {objs:List Ob} {l:List Dt×List Dt} (h:afD args objs=some l):CnA Tryz.prog args [.dat 27 (.lst l.1),.dat 27 (.lst l.2)]∧CnOL Tryz.prog objs []:=by
 unfold afD at h
 split at h
 ·obtain⟨hc,h2⟩:=bif_some h
  cases h2
  have e0:=beq_eq (and_l hc)
  have e1:=beq_eq (and_r hc)
  subst e0 e1
  exact⟨(.cons (.of (.dat (.lst Tryz.underlying27)) rfl rfl) (.cons (.of (.dat (.lst Tryz.underlying27)) rfl rfl) .nil)),.nil⟩
 ·cases h
def afF (args:List AV) (objs:List Ob):Option (List Dt×List Dt):=match args,objs with
 | [.dat T0 x0,.dat T1 x1],[]=>bif (Nat.beq T0 41&&Nat.beq T1 41) then some (x0.toLst,x1.toLst) else none
 |_,_=>none
theorem afG {args:List AV} {objs:List Ob} {l:List Dt×List Dt} (h:afF args objs=some l):CnA Tryz.prog args [.dat 41 (.lst l.1),.dat 41 (.lst l.2)]∧CnOL Tryz.prog objs []:=by
 unfold afF at h
 split at h
 ·obtain⟨hc,h2⟩:=bif_some h
  cases h2
  have e0:=beq_eq (and_l hc)
  have e1:=beq_eq (and_r hc)
  subst e0 e1
  exact⟨(.cons (.of (.dat (.lst Tryz.underlying41)) rfl rfl) (.cons (.of (.dat (.lst Tryz.underlying41)) rfl rfl) .nil)),.nil⟩
 ·cases h
def afH (args:List AV) (objs:List Ob):Option (Dt×Dt):=match args,objs with
 | [.dat T0 x0,.dat T1 x1],[]=>bif (Nat.beq T0 33&&Nat.beq T1 33) then some (x0,x1) else none
 |_,_=>none
theorem afI {args:List AV} {objs:List Ob} {l:Dt×Dt} (h:afH args objs=some l):CnA Tryz.prog args [.dat 33 l.1,.dat 33 l.2]∧CnOL Tryz.prog objs []:=by
 unfold afH at h
 split at h
 ·obtain⟨hc,h2⟩:=bif_some h
  cases h2
  have e0:=beq_eq (and_l hc)
  have e1:=beq_eq (and_r hc)
  subst e0 e1
  exact⟨(.cons (.of .same rfl rfl) (.cons (.of .same rfl rfl) .nil)),.nil⟩
 ·cases h
def afJ (args:List AV) (objs:List Ob):Option (List Dt×List Dt):=match args,objs with
 | [.dat T0 x0,.dat T1 x1],[]=>bif (Nat.beq T0 67&&Nat.beq T1 67) then some (x0.toLst,x1.toLst) else none
 |_,_=>none
theorem afK {args:List AV} {objs:List Ob} {l:List Dt×List Dt} (h:afJ args objs=some l):CnA Tryz.prog args [.dat 67 (.lst l.1),.dat 67 (.lst l.2)]∧CnOL Tryz.prog objs []:=by
 unfold afJ at h
 split at h
 ·obtain⟨hc,h2⟩:=bif_some h
  cases h2
  have e0:=beq_eq (and_l hc)
  have e1:=beq_eq (and_r hc)
  subst e0 e1
  exact⟨(.cons (.of (.dat (.lst Tryz.underlying67)) rfl rfl) (.cons (.of (.dat (.lst Tryz.underlying67)) rfl rfl) .nil)),.nil⟩
 ·cases h
def afL (args:List AV) (objs:List Ob):Option (Dt×Dt):=match args,objs with
 | [.dat T0 x0,.dat T1 x1],[]=>bif (Nat.beq T0 36&&Nat.beq T1 36) then some (x0,x1) else none
 |_,_=>none
theorem afM {args:List AV} {objs:List Ob} {l:Dt×Dt} (h:afL args objs=some l):CnA Tryz.prog args [.dat 36 l.1,.dat 36 l.2]∧CnOL Tryz.prog objs []:=by
 unfold afL at h
 split at h
 ·obtain⟨hc,h2⟩:=bif_some h
  cases h2
  have e0:=beq_eq (and_l hc)
  have e1:=beq_eq (and_r hc)
  subst e0 e1
  exact⟨(.cons (.of .same rfl rfl) (.cons (.of .same rfl rfl) .nil)),.nil⟩
 ·cases h
def afN (args:List AV) (objs:List Ob):Option (Dt×Dt):=match args,objs with
 | [.dat T0 x0,.dat T1 x1],[]=>bif (Nat.beq T0 61&&Nat.beq T1 61) then some (x0,x1) else none
 |_,_=>none
theorem afO {args:List AV} {objs:List Ob} {l:Dt×Dt} (h:afN args objs=some l):CnA Tryz.prog args [.dat 61 l.1,.dat 61 l.2]∧CnOL Tryz.prog objs []:=by
 unfold afN at h
 split at h
 ·obtain⟨hc,h2⟩:=bif_some h
  cases h2
  have e0:=beq_eq (and_l hc)
  have e1:=beq_eq (and_r hc)
  subst e0 e1
  exact⟨(.cons (.of .same rfl rfl) (.cons (.of .same rfl rfl) .nil)),.nil⟩
 ·cases h
def afP (args:List AV) (objs:List Ob):Option (Dt×Dt):=match args,objs with
 | [.dat T0 x0,.dat T1 x1],[]=>bif (Nat.beq T0 64&&Nat.beq T1 64) then some (x0,x1) else none
 |_,_=>none
theorem afQ {args:List AV} {objs:List Ob} {l:Dt×Dt} (h:afP args objs=some l):CnA Tryz.prog args [.dat 64 l.1,.dat 64 l.2]∧CnOL Tryz.prog objs []:=by
 unfold afP at h
 split at h
 ·obtain⟨hc,h2⟩:=bif_some h
  cases h2
  have e0:=beq_eq (and_l hc)
  have e1:=beq_eq (and_r hc)
  subst e0 e1
  exact⟨(.cons (.of .same rfl rfl) (.cons (.of .same rfl rfl) .nil)),.nil⟩
 ·cases h
def afR (args:List AV) (objs:List Ob):Option (Dt×Dt):=match args,objs with
 | [.dat T0 x0,.dat T1 x1],[]=>bif (Nat.beq T0 39&&Nat.beq T1 39) then some (x0,x1) else none
 |_,_=>none
theorem afS {args:List AV} {objs:List Ob} {l:Dt×Dt} (h:afR args objs=some l):CnA Tryz.prog args [.dat 39 l.1,.dat 39 l.2]∧CnOL Tryz.prog objs []:=by
 unfold afR at h
 split at h
 ·obtain⟨hc,h2⟩:=bif_some h
  cases h2
  have e0:=beq_eq (and_l hc)
  have e1:=beq_eq (and_r hc)
  subst e0 e1
  exact⟨(.cons (.of .same rfl rfl) (.cons (.of .same rfl rfl) .nil)),.nil⟩
 ·cases h
def afT (args:List AV) (objs:List Ob):Option (Dt×Dt):=match args,objs with
 | [.dat T0 x0,.dat T1 x1],[]=>bif (Nat.beq T0 45&&Nat.beq T1 45) then some (x0,x1) else none
 |_,_=>none
theorem afU {args:List AV} {objs:List Ob} {l:Dt×Dt} (h:afT args objs=some l):CnA Tryz.prog args [.dat 45 l.1,.dat 45 l.2]∧CnOL Tryz.prog objs []:=by
 unfold afT at h
 split at h
 ·obtain⟨hc,h2⟩:=bif_some h
  cases h2
  have e0:=beq_eq (and_l hc)
  have e1:=beq_eq (and_r hc)
  subst e0 e1
  exact⟨(.cons (.of .same rfl rfl) (.cons (.of .same rfl rfl) .nil)),.nil⟩
 ·cases h
def U4 (args:List AV) (objs:List Ob):Option (List Dt×List Dt):=match args,objs with
 | [.dat T0 x0,.dat T1 x1],[]=>bif (Nat.beq T0 43&&Nat.beq T1 43) then some (x0.toLst,x1.toLst) else none
 |_,_=>none
theorem L6 {args:List AV} {objs:List Ob} {l:List Dt×List Dt} (h:U4 args objs=some l):CnA Tryz.prog args [.dat 43 (.lst l.1),.dat 43 (.lst l.2)]∧CnOL Tryz.prog objs []:=by
 unfold U4 at h
 split at h
 ·obtain⟨hc,h2⟩:=bif_some h
  cases h2
  have e0:=beq_eq (and_l hc)
  have e1:=beq_eq (and_r hc)
  subst e0 e1
  exact⟨(.cons (.of (.dat (.lst Tryz.underlying43)) rfl rfl) (.cons (.of (.dat (.lst Tryz.underlying43)) rfl rfl) .nil)),.nil⟩
 ·cases h
def afV (args:List AV) (objs:List Ob):Option (List Dt):=match args,objs with
 | [.dat T0 x0],[]=>bif Nat.beq T0 43 then some x0.toLst else none
 |_,_=>none
theorem afW {args:List AV} {objs:List Ob} {l:List Dt} (h:afV args objs=some l):CnA Tryz.prog args [.dat 43 (.lst l)]∧CnOL Tryz.prog objs []:=by
 unfold afV at h
 split at h
 ·obtain⟨hc,h2⟩:=bif_some h
  cases h2
  have e0:=beq_eq hc
  subst e0
  exact⟨(.cons (.of (.dat (.lst Tryz.underlying43)) rfl rfl) .nil),.nil⟩
 ·cases h
def U5 (args:List AV) (objs:List Ob):Option Dt:=match args,objs with
 | [.dat T0 x0],[]=>bif Nat.beq T0 61 then some x0 else none
 |_,_=>none
theorem L8 {args:List AV} {objs:List Ob} {l:Dt} (h:U5 args objs=some l):CnA Tryz.prog args [.dat 61 l]∧CnOL Tryz.prog objs []:=by
 unfold U5 at h
 split at h
 ·obtain⟨hc,h2⟩:=bif_some h
  cases h2
  have e0:=beq_eq hc
  subst e0
  exact⟨(.cons (.of .same rfl rfl) .nil),.nil⟩
 ·cases h
def U6 (args:List AV) (objs:List Ob):Option Dt:=match args,objs with
 | [.dat T0 x0],[]=>bif Nat.beq T0 64 then some x0 else none
 |_,_=>none
theorem L9 {args:List AV} {objs:List Ob} {l:Dt} (h:U6 args objs=some l):CnA Tryz.prog args [.dat 64 l]∧CnOL Tryz.prog objs []:=by
 unfold U6 at h
 split at h
 ·obtain⟨hc,h2⟩:=bif_some h
  cases h2
  have e0:=beq_eq hc
  subst e0
  exact⟨(.cons (.of .same rfl rfl) .nil),.nil⟩
 ·cases h
def afX (args:List AV) (objs:List Ob):Option (List Dt):=match args,objs with
 | [.dat T0 x0],[]=>bif Nat.beq T0 67 then some x0.toLst else none
 |_,_=>none
theorem afY {args:List AV} {objs:List Ob} {l:List Dt} (h:afX args objs=some l):CnA Tryz.prog args [.dat 67 (.lst l)]∧CnOL Tryz.prog objs []:=by
 unfold afX at h
 split at h
 ·obtain⟨hc,h2⟩:=bif_some h
  cases h2
  have e0:=beq_eq hc
  subst e0
  exact⟨(.cons (.of (.dat (.lst Tryz.underlying67)) rfl rfl) .nil),.nil⟩
 ·cases h
def U7 (args:List AV) (objs:List Ob):Option Dt:=match args,objs with
 | [.dat T0 x0],[]=>bif Nat.beq T0 69 then some x0 else none
 |_,_=>none
theorem Ma {args:List AV} {objs:List Ob} {l:Dt} (h:U7 args objs=some l):CnA Tryz.prog args [.dat 69 l]∧CnOL Tryz.prog objs []:=by
 unfold U7 at h
 split at h
 ·obtain⟨hc,h2⟩:=bif_some h
  cases h2
  have e0:=beq_eq hc
  subst e0
  exact⟨(.cons (.of .same rfl rfl) .nil),.nil⟩
 ·cases h
def afZ (args:List AV) (objs:List Ob):Option (Int×List Dt):=match args,objs with
 | [.dat T0 x0,.dat T1 x1],[]=>bif (Nat.beq T0 3&&Nat.beq T1 164) then some (x0.toInt,x1.toLst) else none
 |_,_=>none
theorem af0 {args:List AV} {objs:List Ob} {l:Int×List Dt} (h:afZ args objs=some l):CnA Tryz.prog args [.dat 3 (.int l.1),.dat 164 (.lst l.2)]∧CnOL Tryz.prog objs []:=by
 unfold afZ at h
 split at h
 ·obtain⟨hc,h2⟩:=bif_some h
  cases h2
  have e0:=beq_eq (and_l hc)
  have e1:=beq_eq (and_r hc)
  subst e0 e1
  exact⟨(.cons (.of (.dat (.int Tryz.underlying3)) rfl rfl) (.cons (.of (.dat (.lst Tryz.underlying164)) rfl rfl) .nil)),.nil⟩
 ·cases h
def af2 (args:List AV) (objs:List Ob):Option Dt:=match args,objs with
 | [.dat T0 x0],[]=>bif Nat.beq T0 66 then some x0 else none
 |_,_=>none
theorem af3 {args:List AV} {objs:List Ob} {l:Dt} (h:af2 args objs=some l):CnA Tryz.prog args [.dat 66 l]∧CnOL Tryz.prog objs []:=by
 unfold af2 at h
 split at h
 ·obtain⟨hc,h2⟩:=bif_some h
  cases h2
  have e0:=beq_eq hc
  subst e0
  exact⟨(.cons (.of .same rfl rfl) .nil),.nil⟩
 ·cases h
def af4 (args:List AV) (objs:List Ob):Option (List Dt):=match args,objs with
 | [.dat T0 x0,.fn T1 []],[]=>bif (Nat.beq T0 37&&Nat.beq T1 20) then some x0.toLst else none
 |_,_=>none
theorem af5 {args:List AV} {objs:List Ob} {l:List Dt} (h:af4 args objs=some l):CnA Tryz.prog args [.dat 37 (.lst l),.fn 20 []]∧CnOL Tryz.prog objs []:=by
 unfold af4 at h
 split at h
 ·obtain⟨hc,h2⟩:=bif_some h
  cases h2
  have e0:=beq_eq (and_l hc)
  have e1:=beq_eq (and_r hc)
  subst e0 e1
  exact⟨(.cons (.of (.dat (.lst Tryz.underlying37)) rfl rfl) (.cons (.of (.fn .nil) rfl rfl) .nil)),.nil⟩
 ·cases h
def af6 (args:List AV) (objs:List Ob):Option (List Dt):=match args,objs with
 | [.dat T0 x0,.fn T1 []],[]=>bif (Nat.beq T0 42&&Nat.beq T1 49) then some x0.toLst else none
 |_,_=>none
theorem af7 {args:List AV} {objs:List Ob} {l:List Dt} (h:af6 args objs=some l):CnA Tryz.prog args [.dat 42 (.lst l),.fn 49 []]∧CnOL Tryz.prog objs []:=by
 unfold af6 at h
 split at h
 ·obtain⟨hc,h2⟩:=bif_some h
  cases h2
  have e0:=beq_eq (and_l hc)
  have e1:=beq_eq (and_r hc)
  subst e0 e1
  exact⟨(.cons (.of (.dat (.lst Tryz.underlying42)) rfl rfl) (.cons (.of (.fn .nil) rfl rfl) .nil)),.nil⟩
 ·cases h
def af8 (args:List AV) (objs:List Ob):Option Dt:=match args,objs with
 | [.dat T0 x0],[]=>bif Nat.beq T0 106 then some x0 else none
 |_,_=>none
theorem af9 {args:List AV} {objs:List Ob} {l:Dt} (h:af8 args objs=some l):CnA Tryz.prog args [.dat 106 l]∧CnOL Tryz.prog objs []:=by
 unfold af8 at h
 split at h
 ·obtain⟨hc,h2⟩:=bif_some h
  cases h2
  have e0:=beq_eq hc
  subst e0
  exact⟨(.cons (.of .same rfl rfl) .nil),.nil⟩
 ·cases h
def aga (args:List AV) (objs:List Ob):Option (List Dt):=match args,objs with
 | [.dat T0 x0,.fn T1 []],[]=>bif (Nat.beq T0 34&&Nat.beq T1 45) then some x0.toLst else none
 |_,_=>none
theorem agb {args:List AV} {objs:List Ob} {l:List Dt} (h:aga args objs=some l):CnA Tryz.prog args [.dat 34 (.lst l),.fn 45 []]∧CnOL Tryz.prog objs []:=by
 unfold aga at h
 split at h
 ·obtain⟨hc,h2⟩:=bif_some h
  cases h2
  have e0:=beq_eq (and_l hc)
  have e1:=beq_eq (and_r hc)
  subst e0 e1
  exact⟨(.cons (.of (.dat (.lst Tryz.underlying34)) rfl rfl) (.cons (.of (.fn .nil) rfl rfl) .nil)),.nil⟩
 ·cases h
def agc (args:List AV) (objs:List Ob):Option (List Dt):=match args,objs with
 | [.dat T0 x0,.fn T1 []],[]=>bif (Nat.beq T0 28&&Nat.beq T1 99) then some x0.toLst else none
 |_,_=>none
theorem agd {args:List AV} {objs:List Ob} {l:List Dt} (h:agc args objs=some l):CnA Tryz.prog args [.dat 28 (.lst l),.fn 99 []]∧CnOL Tryz.prog objs []:=by
 unfold agc at h
 split at h
 ·obtain⟨hc,h2⟩:=bif_some h
  cases h2
  have e0:=beq_eq (and_l hc)
  have e1:=beq_eq (and_r hc)
  subst e0 e1
  exact⟨(.cons (.of (.dat (.lst Tryz.underlying28)) rfl rfl) (.cons (.of (.fn .nil) rfl rfl) .nil)),.nil⟩
 ·cases h
def agf (args:List AV) (objs:List Ob):Option Dt:=match args,objs with
 | [.dat T0 x0],[]=>bif Nat.beq T0 156 then some x0 else none
 |_,_=>none
theorem agh {args:List AV} {objs:List Ob} {l:Dt} (h:agf args objs=some l):CnA Tryz.prog args [.dat 156 l]∧CnOL Tryz.prog objs []:=by
 unfold agf at h
 split at h
 ·obtain⟨hc,h2⟩:=bif_some h
  cases h2
  have e0:=beq_eq hc
  subst e0
  exact⟨(.cons (.of .same rfl rfl) .nil),.nil⟩
 ·cases h
def U8 (args:List AV) (objs:List Ob):Option (Dt×Dt):=match args,objs with
 | [.dat T0 x0,.dat T1 x1],[]=>bif (Nat.beq T0 30&&Nat.beq T1 30) then some (x0,x1) else none
 |_,_=>none
theorem Mc {args:List AV} {objs:List Ob} {l:Dt×Dt} (h:U8 args objs=some l):CnA Tryz.prog args [.dat 30 l.1,.dat 30 l.2]∧CnOL Tryz.prog objs []:=by
 unfold U8 at h
 split at h
 ·obtain⟨hc,h2⟩:=bif_some h
  cases h2
  have e0:=beq_eq (and_l hc)
  have e1:=beq_eq (and_r hc)
  subst e0 e1
  exact⟨(.cons (.of .same rfl rfl) (.cons (.of .same rfl rfl) .nil)),.nil⟩
 ·cases h
def agi (args:List AV) (objs:List Ob):Option (Dt×Int×Int):=match args,objs with
 | [.dat T0 x0,.dat T1 x1,.dat T2 x2],[]=>bif (Nat.beq T0 39&&(Nat.beq T1 3&&Nat.beq T2 3)) then some (x0,x1.toInt,x2.toInt) else none
 |_,_=>none
theorem agj {args:List AV} {objs:List Ob} {l:Dt×Int×Int} (h:agi args objs=some l):CnA Tryz.prog args [.dat 39 l.1,.dat 3 (.int l.2.1),.dat 3 (.int l.2.2)]∧CnOL Tryz.prog objs []:=by
 unfold agi at h
 split at h
 ·obtain⟨hc,h2⟩:=bif_some h
  cases h2
  have e0:=beq_eq (and_l hc)
  have e1:=beq_eq (and_l (and_r hc))
  have e2:=beq_eq (and_r (and_r hc))
  subst e0 e1 e2
  exact⟨(.cons (.of .same rfl rfl) (.cons (.of (.dat (.int Tryz.underlying3)) rfl rfl) (.cons (.of (.dat (.int Tryz.underlying3)) rfl rfl) .nil))),.nil⟩
 ·cases h
def agk (args:List AV) (objs:List Ob):Option (Dt×Bool):=match args,objs with
 | [.dat T0 x0,.dat T1 x1],[]=>bif (Nat.beq T0 39&&Nat.beq T1 4) then some (x0,x1.toBool) else none
 |_,_=>none
theorem agl {args:List AV} {objs:List Ob} {l:Dt×Bool} (h:agk args objs=some l):CnA Tryz.prog args [.dat 39 l.1,.dat 4 (.bool l.2)]∧CnOL Tryz.prog objs []:=by
 unfold agk at h
 split at h
 ·obtain⟨hc,h2⟩:=bif_some h
  cases h2
  have e0:=beq_eq (and_l hc)
  have e1:=beq_eq (and_r hc)
  subst e0 e1
  exact⟨(.cons (.of .same rfl rfl) (.cons (.of (.dat (.bool Tryz.underlying4)) rfl rfl) .nil)),.nil⟩
 ·cases h
def E8 (args:List AV) (objs:List Ob):Option ByteArray:=match args,objs with
 | [.dat T0 x0],[]=>bif Nat.beq T0 9 then some x0.toStr else none
 |_,_=>none
theorem ql {args:List AV} {objs:List Ob} {l:ByteArray} (h:E8 args objs=some l):CnA Tryz.prog args [.dat 9 (.str l)]∧CnOL Tryz.prog objs []:=by
 unfold E8 at h
 split at h
 ·obtain⟨hc,h2⟩:=bif_some h
  cases h2
  have e0:=beq_eq hc
  subst e0
  exact⟨(.cons (.of (.dat (.str Tryz.underlying9)) rfl rfl) .nil),.nil⟩
 ·cases h
def agm (args:List AV) (objs:List Ob):Option (List Dt):=match args,objs with
 | [.dat T0 x0],[]=>bif Nat.beq T0 40 then some x0.toLst else none
 |_,_=>none
theorem agn {args:List AV} {objs:List Ob} {l:List Dt} (h:agm args objs=some l):CnA Tryz.prog args [.dat 40 (.lst l)]∧CnOL Tryz.prog objs []:=by
 unfold agm at h
 split at h
 ·obtain⟨hc,h2⟩:=bif_some h
  cases h2
  have e0:=beq_eq hc
  subst e0
  exact⟨(.cons (.of (.dat (.lst Tryz.underlying40)) rfl rfl) .nil),.nil⟩
 ·cases h
def agp (args:List AV) (objs:List Ob):Option (Dt×Int×Int):=match args,objs with
 | [.dat T0 x0,.dat T1 x1,.dat T2 x2],[]=>bif (Nat.beq T0 36&&(Nat.beq T1 3&&Nat.beq T2 3)) then some (x0,x1.toInt,x2.toInt) else none
 |_,_=>none
theorem agq {args:List AV} {objs:List Ob} {l:Dt×Int×Int} (h:agp args objs=some l):CnA Tryz.prog args [.dat 36 l.1,.dat 3 (.int l.2.1),.dat 3 (.int l.2.2)]∧CnOL Tryz.prog objs []:=by
 unfold agp at h
 split at h
 ·obtain⟨hc,h2⟩:=bif_some h
  cases h2
  have e0:=beq_eq (and_l hc)
  have e1:=beq_eq (and_l (and_r hc))
  have e2:=beq_eq (and_r (and_r hc))
  subst e0 e1 e2
  exact⟨(.cons (.of .same rfl rfl) (.cons (.of (.dat (.int Tryz.underlying3)) rfl rfl) (.cons (.of (.dat (.int Tryz.underlying3)) rfl rfl) .nil))),.nil⟩
 ·cases h
def U9 (args:List AV) (objs:List Ob):Option (Dt×Bool):=match args,objs with
 | [.dat T0 x0,.dat T1 x1],[]=>bif (Nat.beq T0 30&&Nat.beq T1 4) then some (x0,x1.toBool) else none
 |_,_=>none
theorem Md {args:List AV} {objs:List Ob} {l:Dt×Bool} (h:U9 args objs=some l):CnA Tryz.prog args [.dat 30 l.1,.dat 4 (.bool l.2)]∧CnOL Tryz.prog objs []:=by
 unfold U9 at h
 split at h
 ·obtain⟨hc,h2⟩:=bif_some h
  cases h2
  have e0:=beq_eq (and_l hc)
  have e1:=beq_eq (and_r hc)
  subst e0 e1
  exact⟨(.cons (.of .same rfl rfl) (.cons (.of (.dat (.bool Tryz.underlying4)) rfl rfl) .nil)),.nil⟩
 ·cases h
def agr (args:List AV) (objs:List Ob):Option (Int×Int):=match args,objs with
 | [.dat T0 x0,.dat T1 x1],[]=>bif (Nat.beq T0 3&&Nat.beq T1 3) then some (x0.toInt,x1.toInt) else none
 |_,_=>none
theorem ags {args:List AV} {objs:List Ob} {l:Int×Int} (h:agr args objs=some l):CnA Tryz.prog args [.dat 3 (.int l.1),.dat 3 (.int l.2)]∧CnOL Tryz.prog objs []:=by
 unfold agr at h
 split at h
 ·obtain⟨hc,h2⟩:=bif_some h
  cases h2
  have e0:=beq_eq (and_l hc)
  have e1:=beq_eq (and_r hc)
  subst e0 e1
  exact⟨(.cons (.of (.dat (.int Tryz.underlying3)) rfl rfl) (.cons (.of (.dat (.int Tryz.underlying3)) rfl rfl) .nil)),.nil⟩
 ·cases h
def QF (args:List AV) (objs:List Ob):Option (ByteArray×ByteArray):=match args,objs with
 | [.dat T0 x0,.dat T1 x1],[]=>bif (Nat.beq T0 9&&Nat.beq T1 9) then some (x0.toStr,x1.toStr) else none
 |_,_=>none
theorem YW {args:List AV} {objs:List Ob} {l:ByteArray×ByteArray} (h:QF args objs=some l):CnA Tryz.prog args [.dat 9 (.str l.1),.dat 9 (.str l.2)]∧CnOL Tryz.prog objs []:=by
 unfold QF at h
 split at h
 ·obtain⟨hc,h2⟩:=bif_some h
  cases h2
  have e0:=beq_eq (and_l hc)
  have e1:=beq_eq (and_r hc)
  subst e0 e1
  exact⟨(.cons (.of (.dat (.str Tryz.underlying9)) rfl rfl) (.cons (.of (.dat (.str Tryz.underlying9)) rfl rfl) .nil)),.nil⟩
 ·cases h
def QG (args:List AV) (objs:List Ob):Option Dt:=match args,objs with
 | [.dat T0 x0],[]=>bif Nat.beq T0 129 then some x0 else none
 |_,_=>none
theorem YX {args:List AV} {objs:List Ob} {l:Dt} (h:QG args objs=some l):CnA Tryz.prog args [.dat 129 l]∧CnOL Tryz.prog objs []:=by
 unfold QG at h
 split at h
 ·obtain⟨hc,h2⟩:=bif_some h
  cases h2
  have e0:=beq_eq hc
  subst e0
  exact⟨(.cons (.of .same rfl rfl) .nil),.nil⟩
 ·cases h
def IC (args:List AV) (objs:List Ob):Option (Dt×Int):=match args,objs with
 | [.dat T0 x0,.dat T1 x1],[]=>bif (Nat.beq T0 30&&Nat.beq T1 3) then some (x0,x1.toInt) else none
 |_,_=>none
theorem E9 {args:List AV} {objs:List Ob} {l:Dt×Int} (h:IC args objs=some l):CnA Tryz.prog args [.dat 30 l.1,.dat 3 (.int l.2)]∧CnOL Tryz.prog objs []:=by
 unfold IC at h
 split at h
 ·obtain⟨hc,h2⟩:=bif_some h
  cases h2
  have e0:=beq_eq (and_l hc)
  have e1:=beq_eq (and_r hc)
  subst e0 e1
  exact⟨(.cons (.of .same rfl rfl) (.cons (.of (.dat (.int Tryz.underlying3)) rfl rfl) .nil)),.nil⟩
 ·cases h
def QH (args:List AV) (objs:List Ob):Option (ByteArray×Int×Int):=match args,objs with
 | [.dat T0 x0,.dat T1 x1,.dat T2 x2],[]=>bif (Nat.beq T0 9&&(Nat.beq T1 3&&Nat.beq T2 3)) then some (x0.toStr,x1.toInt,x2.toInt) else none
 |_,_=>none
theorem YZ {args:List AV} {objs:List Ob} {l:ByteArray×Int×Int} (h:QH args objs=some l):CnA Tryz.prog args [.dat 9 (.str l.1),.dat 3 (.int l.2.1),.dat 3 (.int l.2.2)]∧CnOL Tryz.prog objs []:=by
 unfold QH at h
 split at h
 ·obtain⟨hc,h2⟩:=bif_some h
  cases h2
  have e0:=beq_eq (and_l hc)
  have e1:=beq_eq (and_l (and_r hc))
  have e2:=beq_eq (and_r (and_r hc))
  subst e0 e1 e2
  exact⟨(.cons (.of (.dat (.str Tryz.underlying9)) rfl rfl) (.cons (.of (.dat (.int Tryz.underlying3)) rfl rfl) (.cons (.of (.dat (.int Tryz.underlying3)) rfl rfl) .nil))),.nil⟩
 ·cases h
section
variable {R:Type} (m:Nat) (args:List AV) (objs:List Ob) (K:Res→Option R)
noncomputable def ct4:Option R:=match YV args objs with
 |some l=>(yN m l).bind fun r=>K ((.dat 4 (.bool r)),[])
 |none=>none
noncomputable def ct5:Option R:=match YV args objs with
 |some l=>(y9 m l).bind fun r=>K ((.dat 23 (.int r)),[])
 |none=>none
noncomputable def ct6 {R:Type} (m:Nat) (args:List AV) (objs:List Ob) (K:Res→Option R):Option R:=match azh args objs with
 |some l=>(tL).bind fun r=>K ((.dat 4 (.bool r)),[])
 |none=>none
noncomputable def azl:Option R:=match YV args objs with
 |some l=>(zV m l).bind fun r=>K ((.tup [.dat 22 (.lst r.1),.dat 22 (.lst r.2.1),.dat 40 (.lst r.2.2)]),[])
 |none=>none
noncomputable def azm:Option R:=match YV args objs with
 |some l=>(z8 m l).bind fun r=>K ((.tup [.dat 22 (.lst r.1),.dat 22 (.lst r.2.1),.dat 40 (.lst r.2.2)]),[])
 |none=>none
noncomputable def azn:Option R:=match azi args objs with
 |some l=>(zN m l.1 l.2).bind fun r=>K ((.dat 4 (.bool r)),[])
 |none=>none
noncomputable def azo:Option R:=match arl args objs with
 |some l=>(qP m l.1 l.2).bind fun r=>K ((.dat 4 (.bool r)),[])
 |none=>none
noncomputable def azp:Option R:=match azj args objs with
 |some l=>(qW m l.1 l.2).bind fun r=>K ((.dat 3 (.int r)),[])
 |none=>none
noncomputable def azq:Option R:=match azk args objs with
 |some l=>(qV m l.1 l.2).bind fun r=>K ((.dat 23 (.int r)),[])
 |none=>none
noncomputable def azr:Option R:=match IB args objs with
 |some l=>(yI m l).bind fun r=>K ((.dat 4 (.bool r)),[])
 |none=>none
noncomputable def azs:Option R:=match afd args objs with
 |some l=>(i10 m l).bind fun r=>K ((.dat 22 (.lst r)),[])
 |none=>none
noncomputable def azt:Option R:=match nH args objs with
 |some l=>(yJ m l).bind fun r=>K ((.dat 71 r),[])
 |none=>none
noncomputable def azu:Option R:=match aff args objs with
 |some l=>(i12 m l).bind fun r=>K ((.dat 40 (.lst r)),[])
 |none=>none
noncomputable def azv:Option R:=match afh args objs with
 |some l=>(y4 m l).bind fun r=>K ((.dat 73 r),[])
 |none=>none
noncomputable def azw:Option R:=match afj args objs with
 |some l=>(vH m l.1 l.2.1 l.2.2).bind fun r=>K ((.dat 4 (.bool r)),[])
 |none=>none
noncomputable def azx:Option R:=match afl args objs with
 |some l=>(qY m l.1 l.2).bind fun r=>K ((.dat 4 (.bool r)),[])
 |none=>none
noncomputable def azy:Option R:=match EZ args objs with
 |some l=>(yE m l.1 l.2).bind fun r=>K ((.dat 4 (.bool r)),[])
 |none=>none
noncomputable def azz:Option R:=match nH args objs with
 |some l=>(zU m l).bind fun r=>K ((.dat 90 (.lst r)),[])
 |none=>none
noncomputable def azA:Option R:=match nH args objs with
 |some l=>(yK m l).bind fun r=>K ((.dat 23 (.int r)),[])
 |none=>none
noncomputable def azB:Option R:=match nH args objs with
 |some l=>(qO m l).bind fun r=>K ((.dat 4 (.bool r)),[])
 |none=>none
noncomputable def azC:Option R:=match xu args objs with
 |some l=>(yH m l).bind fun r=>K ((.dat 39 r),[])
 |none=>none
noncomputable def azD:Option R:=match LU args objs with
 |some l=>(yZ m l).bind fun r=>K ((.dat 45 r),[])
 |none=>none
noncomputable def azE:Option R:=match afn args objs with
 |some l=>(i22 m l).bind fun r=>K ((.dat 43 (.lst r)),[])
 |none=>none
noncomputable def azF:Option R:=match afp args objs with
 |some l=>(yX m l).bind fun r=>K ((.dat 110 r),[])
 |none=>none
noncomputable def azG:Option R:=match LV args objs with
 |some l=>(zW m l).bind fun r=>K ((.dat 26 (.lst r)),[])
 |none=>none
noncomputable def azH:Option R:=match xB args objs with
 |some l=>(z7 m l).bind fun r=>K ((.dat 36 r),[])
 |none=>none
noncomputable def azI:Option R:=match afr args objs with
 |some l=>(i26 m l).bind fun r=>K ((.dat 59 (.lst r)),[])
 |none=>none
noncomputable def azJ:Option R:=match U2 args objs with
 |some l=>(vC m l).bind fun r=>K ((.dat 114 r),[])
 |none=>none
noncomputable def azK:Option R:=match aft args objs with
 |some l=>(i28 m l).bind fun r=>K ((.dat 62 (.lst r)),[])
 |none=>none
noncomputable def azL:Option R:=match U3 args objs with
 |some l=>(vD m l).bind fun r=>K ((.dat 118 r),[])
 |none=>none
noncomputable def azM:Option R:=match afv args objs with
 |some l=>(i30 m l).bind fun r=>K ((.dat 67 (.lst r)),[])
 |none=>none
noncomputable def azN:Option R:=match afx args objs with
 |some l=>(yM m l).bind fun r=>K ((.dat 122 r),[])
 |none=>none
noncomputable def azO:Option R:=match afz args objs with
 |some l=>(i32 m l).bind fun r=>K ((.dat 27 (.lst r)),[])
 |none=>none
noncomputable def azP:Option R:=match uI args objs with
 |some l=>(yD m l).bind fun r=>K ((.dat 30 r),[])
 |none=>none
noncomputable def azQ:Option R:=match afB args objs with
 |some l=>(i34 m l).bind fun r=>K ((.dat 41 (.lst r)),[])
 |none=>none
noncomputable def azR:Option R:=match LZ args objs with
 |some l=>(yY m l).bind fun r=>K ((.dat 33 r),[])
 |none=>none
noncomputable def azS:Option R:=match afD args objs with
 |some l=>(y0 m l.1 l.2).bind fun r=>K ((.dat 4 (.bool r)),[])
 |none=>none
noncomputable def azT:Option R:=match afF args objs with
 |some l=>(zA m l.1 l.2).bind fun r=>K ((.dat 4 (.bool r)),[])
 |none=>none
noncomputable def azU:Option R:=match afH args objs with
 |some l=>(qH m l.1 l.2).bind fun r=>K ((.dat 4 (.bool r)),[])
 |none=>none
noncomputable def azV:Option R:=match afJ args objs with
 |some l=>(qN m l.1 l.2).bind fun r=>K ((.dat 4 (.bool r)),[])
 |none=>none
noncomputable def azW:Option R:=match afL args objs with
 |some l=>(qC m l.1 l.2).bind fun r=>K ((.dat 4 (.bool r)),[])
 |none=>none
noncomputable def azX:Option R:=match afN args objs with
 |some l=>(qR m l.1 l.2).bind fun r=>K ((.dat 4 (.bool r)),[])
 |none=>none
noncomputable def azY:Option R:=match afP args objs with
 |some l=>(qJ m l.1 l.2).bind fun r=>K ((.dat 4 (.bool r)),[])
 |none=>none
noncomputable def azZ:Option R:=match afR args objs with
 |some l=>(qU m l.1 l.2).bind fun r=>K ((.dat 4 (.bool r)),[])
 |none=>none
noncomputable def az0:Option R:=match afT args objs with
 |some l=>(qB m l.1 l.2).bind fun r=>K ((.dat 4 (.bool r)),[])
 |none=>none
noncomputable def az1:Option R:=match U4 args objs with
 |some l=>(vG m l.1 l.2).bind fun r=>K ((.dat 4 (.bool r)),[])
 |none=>none
noncomputable def az2:Option R:=match arl args objs with
 |some l=>(qK m l.1 l.2).bind fun r=>K ((.dat 4 (.bool r)),[])
 |none=>none
noncomputable def az3:Option R:=match EZ args objs with
 |some l=>(zL m l.1 l.2).bind fun r=>K ((.dat 4 (.bool r)),[])
 |none=>none
noncomputable def az4:Option R:=match xu args objs with
 |some l=>(vA m l).bind fun r=>K ((.dat 23 (.int r)),[])
 |none=>none
noncomputable def az5:Option R:=match LU args objs with
 |some l=>(qS m l).bind fun r=>K ((.dat 23 (.int r)),[])
 |none=>none
noncomputable def az6:Option R:=match afV args objs with
 |some l=>(zH m l).bind fun r=>K ((.dat 23 (.int r)),[])
 |none=>none
noncomputable def az7:Option R:=match U5 args objs with
 |some l=>(zD m l).bind fun r=>K ((.dat 23 (.int r)),[])
 |none=>none
noncomputable def az8:Option R:=match U6 args objs with
 |some l=>(qM m l).bind fun r=>K ((.dat 23 (.int r)),[])
 |none=>none
noncomputable def az9:Option R:=match nH args objs with
 |some l=>(zR m l).bind fun r=>K ((.dat 23 (.int r)),[])
 |none=>none
noncomputable def aAa:Option R:=match afX args objs with
 |some l=>(qT m l).bind fun r=>K ((.dat 23 (.int r)),[])
 |none=>none
noncomputable def aAb:Option R:=match nH args objs with
 |some l=>(zO m l).bind fun r=>K ((.dat 23 (.int r)),[])
 |none=>none
noncomputable def aAc:Option R:=match nH args objs with
 |some l=>(yL m l).bind fun r=>K ((.dat 23 (.int r)),[])
 |none=>none
noncomputable def aAd:Option R:=match U7 args objs with
 |some l=>(qQ m l).bind fun r=>K ((.dat 23 (.int r)),[])
 |none=>none
noncomputable def aAe:Option R:=match nH args objs with
 |some l=>(z6 m l).bind fun r=>K ((.dat 23 (.int r)),[])
 |none=>none
noncomputable def aAf:Option R:=match afZ args objs with
 |some l=>(zS m l.1 l.2).bind fun r=>K ((.dat 4 (.bool r)),[])
 |none=>none
noncomputable def aAg:Option R:=match xB args objs with
 |some l=>(yS m l).bind fun r=>K ((.dat 4 (.bool r)),[])
 |none=>none
noncomputable def aAh:Option R:=match U7 args objs with
 |some l=>(yT m l).bind fun r=>K ((.dat 4 (.bool r)),[])
 |none=>none
noncomputable def aAi:Option R:=match U5 args objs with
 |some l=>(y8 m l).bind fun r=>K ((.dat 4 (.bool r)),[])
 |none=>none
noncomputable def aAj:Option R:=match U6 args objs with
 |some l=>(yU m l).bind fun r=>K ((.dat 4 (.bool r)),[])
 |none=>none
noncomputable def aAk:Option R:=match af2 args objs with
 |some l=>(yF m l).bind fun r=>K ((.dat 4 (.bool r)),[])
 |none=>none
noncomputable def aAl:Option R:=match af4 args objs with
 |some l=>(i65 m l).bind fun r=>K ((.dat 37 (.lst r)),[])
 |none=>none
noncomputable def aAm:Option R:=match af6 args objs with
 |some l=>(i66 m l).bind fun r=>K ((.dat 42 (.lst r)),[])
 |none=>none
noncomputable def aAn:Option R:=match af8 args objs with
 |some l=>(y5 m l).bind fun r=>K ((.dat 106 r),[])
 |none=>none
noncomputable def agt:Option R:=match aga args objs with
 |some l=>(i68 m l).bind fun r=>K ((.dat 34 (.lst r)),[])
 |none=>none
noncomputable def aAo:Option R:=match agc args objs with
 |some l=>(i69 m l).bind fun r=>K ((.dat 28 (.lst r)),[])
 |none=>none
noncomputable def aAp:Option R:=match agf args objs with
 |some l=>(yQ m l).bind fun r=>K ((.dat 156 r),[])
 |none=>none
noncomputable def aAq:Option R:=match U8 args objs with
 |some l=>(qA m l.1 l.2).bind fun r=>K ((.dat 4 (.bool r)),[])
 |none=>none
noncomputable def agu:Option R:=match U4 args objs with
 |some l=>(qI m l.1 l.2).bind fun r=>K ((.dat 4 (.bool r)),[])
 |none=>none
noncomputable def aAr:Option R:=match agi args objs with
 |some l=>(zT m l.1 l.2.1 l.2.2).bind fun r=>K ((.dat 3 (.int r)),[])
 |none=>none
noncomputable def aAs:Option R:=match agk args objs with
 |some l=>(qF m l.1 l.2).bind fun r=>K ((.dat 23 (.int r)),[])
 |none=>none
noncomputable def agv:Option R:=match LU args objs with
 |some l=>(zP m l).bind fun r=>K ((.dat 41 (.lst r)),[])
 |none=>none
noncomputable def agw:Option R:=match LV args objs with
 |some l=>(zC m l).bind fun r=>K ((.dat 4 (.bool r)),[])
 |none=>none
noncomputable def agx:Option R:=match EZ args objs with
 |some l=>(y7 m l.1 l.2).bind fun r=>K ((.dat 4 (.bool r)),[])
 |none=>none
noncomputable def agy:Option R:=match xB args objs with
 |some l=>(yG m l).bind fun r=>K ((.dat 23 (.int r)),[])
 |none=>none
noncomputable def agz:Option R:=match E8 args objs with
 |some l=>(yV m l).bind fun r=>K ((.dat 4 (.bool r)),[])
 |none=>none
noncomputable def agA:Option R:=match U2 args objs with
 |some l=>(zZ m l).bind fun r=>K ((.dat 23 (.int r)),[])
 |none=>none
noncomputable def agB:Option R:=match agm args objs with
 |some l=>(zG m l).bind fun r=>K ((.dat 23 (.int r)),[])
 |none=>none
noncomputable def agC:Option R:=match U3 args objs with
 |some l=>(zF m l).bind fun r=>K ((.dat 23 (.int r)),[])
 |none=>none
noncomputable def agD:Option R:=match E8 args objs with
 |some l=>(zE m l).bind fun r=>K ((.dat 4 (.bool r)),[])
 |none=>none
noncomputable def agE:Option R:=match uI args objs with
 |some l=>(y3 m l).bind fun r=>K ((.dat 4 (.bool r)),[])
 |none=>none
noncomputable def agF:Option R:=match U8 args objs with
 |some l=>(qD m l.1 l.2).bind fun r=>K ((.dat 3 (.int r)),[])
 |none=>none
noncomputable def agG:Option R:=match LZ args objs with
 |some l=>(zB m l).bind fun r=>K ((.dat 23 (.int r)),[])
 |none=>none
noncomputable def agH:Option R:=match IB args objs with
 |some l=>(vB m l).bind fun r=>K ((.dat 4 (.bool r)),[])
 |none=>none
noncomputable def agI:Option R:=match IB args objs with
 |some l=>(y6 m l).bind fun r=>K ((.dat 4 (.bool r)),[])
 |none=>none
noncomputable def agJ:Option R:=match IB args objs with
 |some l=>(yP m l).bind fun r=>K ((.dat 4 (.bool r)),[])
 |none=>none
noncomputable def agK:Option R:=match xu args objs with
 |some l=>(zQ m l).bind fun r=>K ((.dat 4 (.bool r)),[])
 |none=>none
noncomputable def agL:Option R:=match IB args objs with
 |some l=>(y1 m l).bind fun r=>K ((.dat 4 (.bool r)),[])
 |none=>none
noncomputable def agM:Option R:=match xu args objs with
 |some l=>(yR m l).bind fun r=>K ((.dat 4 (.bool r)),[])
 |none=>none
noncomputable def agN:Option R:=match xu args objs with
 |some l=>(yW m l).bind fun r=>K ((.dat 4 (.bool r)),[])
 |none=>none
noncomputable def agO:Option R:=match agp args objs with
 |some l=>(zJ m l.1 l.2.1 l.2.2).bind fun r=>K ((.tup [.dat 3 (.int r.1),.dat 23 (.int r.2)]),[])
 |none=>none
noncomputable def agP:Option R:=match EZ args objs with
 |some l=>(yC m l.1 l.2).bind fun r=>K ((.dat 4 (.bool r)),[])
 |none=>none
noncomputable def agQ:Option R:=match uI args objs with
 |some l=>(vJ m l).bind fun r=>K ((.dat 3 (.int r)),[])
 |none=>none
noncomputable def agR:Option R:=match uI args objs with
 |some l=>(vK m l).bind fun r=>K ((.dat 3 (.int r)),[])
 |none=>none
noncomputable def agS:Option R:=match U9 args objs with
 |some l=>(qE m l.1 l.2).bind fun r=>K ((.dat 4 (.bool r)),[])
 |none=>none
noncomputable def agT:Option R:=match agr args objs with
 |some l=>(yO m l.1 l.2).bind fun r=>K ((.dat 3 (.int r)),[])
 |none=>none
noncomputable def agU:Option R:=match QF args objs with
 |some l=>(yA m l.1 l.2).bind fun r=>K ((.dat 3 (.int r)),[])
 |none=>none
noncomputable def agV:Option R:=match QG args objs with
 |some l=>(vL m l).bind fun r=>K ((.dat 4 (.bool r)),[])
 |none=>none
noncomputable def agW:Option R:=match IB args objs with
 |some l=>(vI m l).bind fun r=>K ((.dat 4 (.bool r)),[])
 |none=>none
noncomputable def agX:Option R:=match xB args objs with
 |some l=>(vE m l).bind fun r=>K ((.dat 4 (.bool r)),[])
 |none=>none
noncomputable def agY:Option R:=match LZ args objs with
 |some l=>(vF m l).bind fun r=>K ((.dat 4 (.bool r)),[])
 |none=>none
noncomputable def agZ:Option R:=match uI args objs with
 |some l=>(y2 m l).bind fun r=>K ((.dat 4 (.bool r)),[])
 |none=>none
noncomputable def ag0:Option R:=match xB args objs with
 |some l=>(qL m l).bind fun r=>K ((.dat 23 (.int r)),[])
 |none=>none
noncomputable def ag1:Option R:=match IC args objs with
 |some l=>(qX m l.1 l.2).bind fun r=>K ((.dat 3 (.int r)),[])
 |none=>none
noncomputable def ag2:Option R:=match IC args objs with
 |some l=>(zY m l.1 l.2).bind fun r=>K ((.dat 3 (.int r)),[])
 |none=>none
noncomputable def ag3:Option R:=match E8 args objs with
 |some l=>(qZ m l).bind fun r=>K ((.dat 4 (.bool r)),[])
 |none=>none
noncomputable def ag4:Option R:=match U9 args objs with
 |some l=>(qG m l.1 l.2).bind fun r=>K ((.dat 4 (.bool r)),[])
 |none=>none
noncomputable def ag5:Option R:=match LV args objs with
 |some l=>(zM m l).bind fun r=>K ((.dat 4 (.bool r)),[])
 |none=>none
noncomputable def ag6:Option R:=match IB args objs with
 |some l=>(yB m l).bind fun r=>K ((.dat 3 (.int r)),[])
 |none=>none
noncomputable def ag7:Option R:=match uI args objs with
 |some l=>(zI m l).bind fun r=>K ((.dat 27 (.lst r)),[])
 |none=>none
noncomputable def ag8:Option R:=match QH args objs with
 |some l=>(zX m l.1 l.2.1 l.2.2).bind fun r=>K ((.dat 4 (.bool r)),[])
 |none=>none
noncomputable def ag9:Option R:=match E8 args objs with
 |some l=>(zK m l).bind fun r=>K ((.dat 4 (.bool r)),[])
 |none=>none
end
noncomputable def d9 (q:Res):Option Bool:=match q with
 |(.dat T0 x0,[])=>bif Nat.beq T0 4 then some x0.toBool else none
 |_=>none
theorem aH {b:Res} {r:Bool} (h:d9 b=some r):Sim Tryz.prog b ((.dat 4 (.bool r)),[]):=by
 unfold d9 at h
 split at h
 ·obtain⟨hc,h2⟩:=bif_some h
  cases h2
  have e0:=beq_eq hc
  subst e0
  exact Sim.of (.of (.dat (.bool Tryz.underlying4)) rfl rfl) .nil
 ·cases h
noncomputable def d4 (q:Res):Option (List Dt×List Dt×List Dt):=match q with
 |(.tup [.dat T0 x0,.dat T1 x1,.dat T2 x2],[])=>bif (Nat.beq T0 22&&(Nat.beq T1 22&&Nat.beq T2 40)) then some (x0.toLst,x1.toLst,x2.toLst) else none
 |_=>none
theorem aha {b:Res} {r:List Dt×List Dt×List Dt} (h:d4 b=some r):Sim Tryz.prog b ((.tup [.dat 22 (.lst r.1),.dat 22 (.lst r.2.1),.dat 40 (.lst r.2.2)]),[]):=by
 unfold d4 at h
 split at h
 ·obtain⟨hc,h2⟩:=bif_some h
  cases h2
  have e0:=beq_eq (and_l hc)
  have e1:=beq_eq (and_l (and_r hc))
  have e2:=beq_eq (and_r (and_r hc))
  subst e0 e1 e2
  exact Sim.of (.tup (.cons (.dat (.lst Tryz.underlying22)) (.cons (.dat (.lst Tryz.underlying22)) (.cons (.dat (.lst Tryz.underlying40)) .nil)))) .nil
 ·cases h
noncomputable def d17 (q:Res):Option (List Dt):=match q with
 |(.dat T0 x0,[])=>bif Nat.beq T0 90 then some x0.toLst else none
 |_=>none
theorem arp {b:Res} {r:List Dt} (h:d17 b=some r):Sim Tryz.prog b ((.dat 90 (.lst r)),[]):=by
 unfold d17 at h
 split at h
 ·obtain⟨hc,h2⟩:=bif_some h
  cases h2
  have e0:=beq_eq hc
  subst e0
  exact Sim.of (.of (.dat (.lst Tryz.underlying90)) rfl rfl) .nil
 ·cases h
noncomputable def d7 (q:Res):Option Int:=match q with
 |(.dat T0 x0,[])=>bif Nat.beq T0 3 then some x0.toInt else none
 |_=>none
theorem iB {b:Res} {r:Int} (h:d7 b=some r):Sim Tryz.prog b ((.dat 3 (.int r)),[]):=by
 unfold d7 at h
 split at h
 ·obtain⟨hc,h2⟩:=bif_some h
  cases h2
  have e0:=beq_eq hc
  subst e0
  exact Sim.of (.of (.dat (.int Tryz.underlying3)) rfl rfl) .nil
 ·cases h
noncomputable def d24 (q:Res):Option (List Dt):=match q with
 |(.dat T0 x0,[])=>bif Nat.beq T0 26 then some x0.toLst else none
 |_=>none
theorem arq {b:Res} {r:List Dt} (h:d24 b=some r):Sim Tryz.prog b ((.dat 26 (.lst r)),[]):=by
 unfold d24 at h
 split at h
 ·obtain⟨hc,h2⟩:=bif_some h
  cases h2
  have e0:=beq_eq hc
  subst e0
  exact Sim.of (.of (.dat (.lst Tryz.underlying26)) rfl rfl) .nil
 ·cases h
noncomputable def d13 (q:Res):Option Dt:=match q with
 |(.dat T0 x0,[])=>bif Nat.beq T0 73 then some x0 else none
 |_=>none
theorem ars {b:Res} {r:Dt} (h:d13 b=some r):Sim Tryz.prog b ((.dat 73 r),[]):=by
 unfold d13 at h
 split at h
 ·obtain⟨hc,h2⟩:=bif_some h
  cases h2
  have e0:=beq_eq hc
  subst e0
  exact Sim.of (.of .same rfl rfl) .nil
 ·cases h
noncomputable def d12 (q:Res):Option (List Dt):=match q with
 |(.dat T0 x0,[])=>bif Nat.beq T0 40 then some x0.toLst else none
 |_=>none
theorem aru {b:Res} {r:List Dt} (h:d12 b=some r):Sim Tryz.prog b ((.dat 40 (.lst r)),[]):=by
 unfold d12 at h
 split at h
 ·obtain⟨hc,h2⟩:=bif_some h
  cases h2
  have e0:=beq_eq hc
  subst e0
  exact Sim.of (.of (.dat (.lst Tryz.underlying40)) rfl rfl) .nil
 ·cases h
noncomputable def d32 (q:Res):Option (List Dt):=match q with
 |(.dat T0 x0,[])=>bif Nat.beq T0 27 then some x0.toLst else none
 |_=>none
theorem Va {b:Res} {r:List Dt} (h:d32 b=some r):Sim Tryz.prog b ((.dat 27 (.lst r)),[]):=by
 unfold d32 at h
 split at h
 ·obtain⟨hc,h2⟩:=bif_some h
  cases h2
  have e0:=beq_eq hc
  subst e0
  exact Sim.of (.of (.dat (.lst Tryz.underlying27)) rfl rfl) .nil
 ·cases h
noncomputable def d33 (q:Res):Option Dt:=match q with
 |(.dat T0 x0,[])=>bif Nat.beq T0 30 then some x0 else none
 |_=>none
theorem arv {b:Res} {r:Dt} (h:d33 b=some r):Sim Tryz.prog b ((.dat 30 r),[]):=by
 unfold d33 at h
 split at h
 ·obtain⟨hc,h2⟩:=bif_some h
  cases h2
  have e0:=beq_eq hc
  subst e0
  exact Sim.of (.of .same rfl rfl) .nil
 ·cases h
noncomputable def d69 (q:Res):Option (List Dt):=match q with
 |(.dat T0 x0,[])=>bif Nat.beq T0 28 then some x0.toLst else none
 |_=>none
theorem arw {b:Res} {r:List Dt} (h:d69 b=some r):Sim Tryz.prog b ((.dat 28 (.lst r)),[]):=by
 unfold d69 at h
 split at h
 ·obtain⟨hc,h2⟩:=bif_some h
  cases h2
  have e0:=beq_eq hc
  subst e0
  exact Sim.of (.of (.dat (.lst Tryz.underlying28)) rfl rfl) .nil
 ·cases h
noncomputable def d70 (q:Res):Option Dt:=match q with
 |(.dat T0 x0,[])=>bif Nat.beq T0 156 then some x0 else none
 |_=>none
theorem arx {b:Res} {r:Dt} (h:d70 b=some r):Sim Tryz.prog b ((.dat 156 r),[]):=by
 unfold d70 at h
 split at h
 ·obtain⟨hc,h2⟩:=bif_some h
  cases h2
  have e0:=beq_eq hc
  subst e0
  exact Sim.of (.of .same rfl rfl) .nil
 ·cases h
noncomputable def d25 (q:Res):Option Dt:=match q with
 |(.dat T0 x0,[])=>bif Nat.beq T0 36 then some x0 else none
 |_=>none
theorem arz {b:Res} {r:Dt} (h:d25 b=some r):Sim Tryz.prog b ((.dat 36 r),[]):=by
 unfold d25 at h
 split at h
 ·obtain⟨hc,h2⟩:=bif_some h
  cases h2
  have e0:=beq_eq hc
  subst e0
  exact Sim.of (.of .same rfl rfl) .nil
 ·cases h
noncomputable def d68 (q:Res):Option (List Dt):=match q with
 |(.dat T0 x0,[])=>bif Nat.beq T0 34 then some x0.toLst else none
 |_=>none
theorem arA {b:Res} {r:List Dt} (h:d68 b=some r):Sim Tryz.prog b ((.dat 34 (.lst r)),[]):=by
 unfold d68 at h
 split at h
 ·obtain⟨hc,h2⟩:=bif_some h
  cases h2
  have e0:=beq_eq hc
  subst e0
  exact Sim.of (.of (.dat (.lst Tryz.underlying34)) rfl rfl) .nil
 ·cases h
noncomputable def d23 (q:Res):Option Dt:=match q with
 |(.dat T0 x0,[])=>bif Nat.beq T0 110 then some x0 else none
 |_=>none
theorem arB {b:Res} {r:Dt} (h:d23 b=some r):Sim Tryz.prog b ((.dat 110 r),[]):=by
 unfold d23 at h
 split at h
 ·obtain⟨hc,h2⟩:=bif_some h
  cases h2
  have e0:=beq_eq hc
  subst e0
  exact Sim.of (.of .same rfl rfl) .nil
 ·cases h
noncomputable def d22 (q:Res):Option (List Dt):=match q with
 |(.dat T0 x0,[])=>bif Nat.beq T0 43 then some x0.toLst else none
 |_=>none
theorem arC {b:Res} {r:List Dt} (h:d22 b=some r):Sim Tryz.prog b ((.dat 43 (.lst r)),[]):=by
 unfold d22 at h
 split at h
 ·obtain⟨hc,h2⟩:=bif_some h
  cases h2
  have e0:=beq_eq hc
  subst e0
  exact Sim.of (.of (.dat (.lst Tryz.underlying43)) rfl rfl) .nil
 ·cases h
noncomputable def d27 (q:Res):Option Dt:=match q with
 |(.dat T0 x0,[])=>bif Nat.beq T0 114 then some x0 else none
 |_=>none
theorem arD {b:Res} {r:Dt} (h:d27 b=some r):Sim Tryz.prog b ((.dat 114 r),[]):=by
 unfold d27 at h
 split at h
 ·obtain⟨hc,h2⟩:=bif_some h
  cases h2
  have e0:=beq_eq hc
  subst e0
  exact Sim.of (.of .same rfl rfl) .nil
 ·cases h
noncomputable def d26 (q:Res):Option (List Dt):=match q with
 |(.dat T0 x0,[])=>bif Nat.beq T0 59 then some x0.toLst else none
 |_=>none
theorem arE {b:Res} {r:List Dt} (h:d26 b=some r):Sim Tryz.prog b ((.dat 59 (.lst r)),[]):=by
 unfold d26 at h
 split at h
 ·obtain⟨hc,h2⟩:=bif_some h
  cases h2
  have e0:=beq_eq hc
  subst e0
  exact Sim.of (.of (.dat (.lst Tryz.underlying59)) rfl rfl) .nil
 ·cases h
noncomputable def d29 (q:Res):Option Dt:=match q with
 |(.dat T0 x0,[])=>bif Nat.beq T0 118 then some x0 else none
 |_=>none
theorem arF {b:Res} {r:Dt} (h:d29 b=some r):Sim Tryz.prog b ((.dat 118 r),[]):=by
 unfold d29 at h
 split at h
 ·obtain⟨hc,h2⟩:=bif_some h
  cases h2
  have e0:=beq_eq hc
  subst e0
  exact Sim.of (.of .same rfl rfl) .nil
 ·cases h
noncomputable def d28 (q:Res):Option (List Dt):=match q with
 |(.dat T0 x0,[])=>bif Nat.beq T0 62 then some x0.toLst else none
 |_=>none
theorem arG {b:Res} {r:List Dt} (h:d28 b=some r):Sim Tryz.prog b ((.dat 62 (.lst r)),[]):=by
 unfold d28 at h
 split at h
 ·obtain⟨hc,h2⟩:=bif_some h
  cases h2
  have e0:=beq_eq hc
  subst e0
  exact Sim.of (.of (.dat (.lst Tryz.underlying62)) rfl rfl) .nil
 ·cases h
noncomputable def d34 (q:Res):Option (List Dt):=match q with
 |(.dat T0 x0,[])=>bif Nat.beq T0 41 then some x0.toLst else none
 |_=>none
theorem Vb {b:Res} {r:List Dt} (h:d34 b=some r):Sim Tryz.prog b ((.dat 41 (.lst r)),[]):=by
 unfold d34 at h
 split at h
 ·obtain⟨hc,h2⟩:=bif_some h
  cases h2
  have e0:=beq_eq hc
  subst e0
  exact Sim.of (.of (.dat (.lst Tryz.underlying41)) rfl rfl) .nil
 ·cases h
noncomputable def d35 (q:Res):Option Dt:=match q with
 |(.dat T0 x0,[])=>bif Nat.beq T0 33 then some x0 else none
 |_=>none
theorem arH {b:Res} {r:Dt} (h:d35 b=some r):Sim Tryz.prog b ((.dat 33 r),[]):=by
 unfold d35 at h
 split at h
 ·obtain⟨hc,h2⟩:=bif_some h
  cases h2
  have e0:=beq_eq hc
  subst e0
  exact Sim.of (.of .same rfl rfl) .nil
 ·cases h
noncomputable def d20 (q:Res):Option Dt:=match q with
 |(.dat T0 x0,[])=>bif Nat.beq T0 39 then some x0 else none
 |_=>none
theorem arI {b:Res} {r:Dt} (h:d20 b=some r):Sim Tryz.prog b ((.dat 39 r),[]):=by
 unfold d20 at h
 split at h
 ·obtain⟨hc,h2⟩:=bif_some h
  cases h2
  have e0:=beq_eq hc
  subst e0
  exact Sim.of (.of .same rfl rfl) .nil
 ·cases h
noncomputable def d65 (q:Res):Option (List Dt):=match q with
 |(.dat T0 x0,[])=>bif Nat.beq T0 37 then some x0.toLst else none
 |_=>none
theorem arJ {b:Res} {r:List Dt} (h:d65 b=some r):Sim Tryz.prog b ((.dat 37 (.lst r)),[]):=by
 unfold d65 at h
 split at h
 ·obtain⟨hc,h2⟩:=bif_some h
  cases h2
  have e0:=beq_eq hc
  subst e0
  exact Sim.of (.of (.dat (.lst Tryz.underlying37)) rfl rfl) .nil
 ·cases h
noncomputable def d67 (q:Res):Option Dt:=match q with
 |(.dat T0 x0,[])=>bif Nat.beq T0 106 then some x0 else none
 |_=>none
theorem arK {b:Res} {r:Dt} (h:d67 b=some r):Sim Tryz.prog b ((.dat 106 r),[]):=by
 unfold d67 at h
 split at h
 ·obtain⟨hc,h2⟩:=bif_some h
  cases h2
  have e0:=beq_eq hc
  subst e0
  exact Sim.of (.of .same rfl rfl) .nil
 ·cases h
noncomputable def d66 (q:Res):Option (List Dt):=match q with
 |(.dat T0 x0,[])=>bif Nat.beq T0 42 then some x0.toLst else none
 |_=>none
theorem arL {b:Res} {r:List Dt} (h:d66 b=some r):Sim Tryz.prog b ((.dat 42 (.lst r)),[]):=by
 unfold d66 at h
 split at h
 ·obtain⟨hc,h2⟩:=bif_some h
  cases h2
  have e0:=beq_eq hc
  subst e0
  exact Sim.of (.of (.dat (.lst Tryz.underlying42)) rfl rfl) .nil
 ·cases h
noncomputable def d21 (q:Res):Option Dt:=match q with
 |(.dat T0 x0,[])=>bif Nat.beq T0 45 then some x0 else none
 |_=>none
theorem arM {b:Res} {r:Dt} (h:d21 b=some r):Sim Tryz.prog b ((.dat 45 r),[]):=by
 unfold d21 at h
 split at h
 ·obtain⟨hc,h2⟩:=bif_some h
  cases h2
  have e0:=beq_eq hc
  subst e0
  exact Sim.of (.of .same rfl rfl) .nil
 ·cases h
noncomputable def d10 (q:Res):Option (List Dt):=match q with
 |(.dat T0 x0,[])=>bif Nat.beq T0 22 then some x0.toLst else none
 |_=>none
theorem arN {b:Res} {r:List Dt} (h:d10 b=some r):Sim Tryz.prog b ((.dat 22 (.lst r)),[]):=by
 unfold d10 at h
 split at h
 ·obtain⟨hc,h2⟩:=bif_some h
  cases h2
  have e0:=beq_eq hc
  subst e0
  exact Sim.of (.of (.dat (.lst Tryz.underlying22)) rfl rfl) .nil
 ·cases h
noncomputable def d11 (q:Res):Option Dt:=match q with
 |(.dat T0 x0,[])=>bif Nat.beq T0 71 then some x0 else none
 |_=>none
theorem arO {b:Res} {r:Dt} (h:d11 b=some r):Sim Tryz.prog b ((.dat 71 r),[]):=by
 unfold d11 at h
 split at h
 ·obtain⟨hc,h2⟩:=bif_some h
  cases h2
  have e0:=beq_eq hc
  subst e0
  exact Sim.of (.of .same rfl rfl) .nil
 ·cases h
noncomputable def d30 (q:Res):Option (List Dt):=match q with
 |(.dat T0 x0,[])=>bif Nat.beq T0 67 then some x0.toLst else none
 |_=>none
theorem arP {b:Res} {r:List Dt} (h:d30 b=some r):Sim Tryz.prog b ((.dat 67 (.lst r)),[]):=by
 unfold d30 at h
 split at h
 ·obtain⟨hc,h2⟩:=bif_some h
  cases h2
  have e0:=beq_eq hc
  subst e0
  exact Sim.of (.of (.dat (.lst Tryz.underlying67)) rfl rfl) .nil
 ·cases h
noncomputable def d31 (q:Res):Option Dt:=match q with
 |(.dat T0 x0,[])=>bif Nat.beq T0 122 then some x0 else none
 |_=>none
theorem arQ {b:Res} {r:Dt} (h:d31 b=some r):Sim Tryz.prog b ((.dat 122 r),[]):=by
 unfold d31 at h
 split at h
 ·obtain⟨hc,h2⟩:=bif_some h
  cases h2
  have e0:=beq_eq hc
  subst e0
  exact Sim.of (.of .same rfl rfl) .nil
 ·cases h
noncomputable def d57 (q:Res):Option Int:=match q with
 |(.dat T0 x0,[])=>bif Nat.beq T0 23 then some x0.toInt else none
 |_=>none
theorem bD {b:Res} {r:Int} (h:d57 b=some r):Sim Tryz.prog b ((.dat 23 (.int r)),[]):=by
 unfold d57 at h
 split at h
 ·obtain⟨hc,h2⟩:=bif_some h
  cases h2
  have e0:=beq_eq hc
  subst e0
  exact Sim.of (.of (.dat (.int Tryz.underlying23)) rfl rfl) .nil
 ·cases h
noncomputable def d94 (q:Res):Option (Int×Int):=match q with
 |(.tup [.dat T0 x0,.dat T1 x1],[])=>bif (Nat.beq T0 3&&Nat.beq T1 23) then some (x0.toInt,x1.toInt) else none
 |_=>none
theorem arR {b:Res} {r:Int×Int} (h:d94 b=some r):Sim Tryz.prog b ((.tup [.dat 3 (.int r.1),.dat 23 (.int r.2)]),[]):=by
 unfold d94 at h
 split at h
 ·obtain⟨hc,h2⟩:=bif_some h
  cases h2
  have e0:=beq_eq (and_l hc)
  have e1:=beq_eq (and_r hc)
  subst e0 e1
  exact Sim.of (.tup (.cons (.dat (.int Tryz.underlying3)) (.cons (.dat (.int Tryz.underlying23)) .nil))) .nil
 ·cases h
noncomputable def ct {R:Type} (m:Nat) (f:FuncId) (args:List AV) (objs:List Ob) (K:Res→Option R):Option R:=
 bif Nat.beq f 4 then ct4 m args objs K else
 bif Nat.beq f 5 then ct5 m args objs K else
 bif Nat.beq f 6 then ct6 m args objs K else
 bif Nat.beq f 11 then azl m args objs K else
 bif Nat.beq f 12 then azm m args objs K else
 bif Nat.beq f 10 then azn m args objs K else
 bif Nat.beq f 13 then azo m args objs K else
 bif Nat.beq f 14 then azp m args objs K else
 bif Nat.beq f 15 then azq m args objs K else
 bif Nat.beq f 32 then azr m args objs K else
 bif Nat.beq f 24 then azs m args objs K else
 bif Nat.beq f 25 then azt m args objs K else
 bif Nat.beq f 21 then azu m args objs K else
 bif Nat.beq f 22 then azv m args objs K else
 bif Nat.beq f 26 then azw m args objs K else
 bif Nat.beq f 31 then azx m args objs K else
 bif Nat.beq f 33 then azy m args objs K else
 bif Nat.beq f 34 then azz m args objs K else
 bif Nat.beq f 36 then azA m args objs K else
 bif Nat.beq f 35 then azB m args objs K else
 bif Nat.beq f 20 then azC m args objs K else
 bif Nat.beq f 23 then azD m args objs K else
 bif Nat.beq f 50 then azE m args objs K else
 bif Nat.beq f 51 then azF m args objs K else
 bif Nat.beq f 41 then azG m args objs K else
 bif Nat.beq f 45 then azH m args objs K else
 bif Nat.beq f 52 then azI m args objs K else
 bif Nat.beq f 53 then azJ m args objs K else
 bif Nat.beq f 54 then azK m args objs K else
 bif Nat.beq f 55 then azL m args objs K else
 bif Nat.beq f 56 then azM m args objs K else
 bif Nat.beq f 57 then azN m args objs K else
 bif Nat.beq f 43 then azO m args objs K else
 bif Nat.beq f 42 then azP m args objs K else
 bif Nat.beq f 47 then azQ m args objs K else
 bif Nat.beq f 44 then azR m args objs K else
 bif Nat.beq f 61 then azS m args objs K else
 bif Nat.beq f 63 then azT m args objs K else
 bif Nat.beq f 72 then azU m args objs K else
 bif Nat.beq f 71 then azV m args objs K else
 bif Nat.beq f 68 then azW m args objs K else
 bif Nat.beq f 69 then azX m args objs K else
 bif Nat.beq f 70 then azY m args objs K else
 bif Nat.beq f 64 then azZ m args objs K else
 bif Nat.beq f 65 then az0 m args objs K else
 bif Nat.beq f 66 then az1 m args objs K else
 bif Nat.beq f 67 then az2 m args objs K else
 bif Nat.beq f 73 then az3 m args objs K else
 bif Nat.beq f 27 then az4 m args objs K else
 bif Nat.beq f 80 then az5 m args objs K else
 bif Nat.beq f 81 then az6 m args objs K else
 bif Nat.beq f 82 then az7 m args objs K else
 bif Nat.beq f 83 then az8 m args objs K else
 bif Nat.beq f 84 then az9 m args objs K else
 bif Nat.beq f 85 then aAa m args objs K else
 bif Nat.beq f 86 then aAb m args objs K else
 bif Nat.beq f 87 then aAc m args objs K else
 bif Nat.beq f 88 then aAd m args objs K else
 bif Nat.beq f 89 then aAe m args objs K else
 bif Nat.beq f 74 then aAf m args objs K else
 bif Nat.beq f 75 then aAg m args objs K else
 bif Nat.beq f 79 then aAh m args objs K else
 bif Nat.beq f 76 then aAi m args objs K else
 bif Nat.beq f 77 then aAj m args objs K else
 bif Nat.beq f 78 then aAk m args objs K else
 bif Nat.beq f 46 then aAl m args objs K else
 bif Nat.beq f 48 then aAm m args objs K else
 bif Nat.beq f 49 then aAn m args objs K else
 bif Nat.beq f 100 then agt m args objs K else
 bif Nat.beq f 98 then aAo m args objs K else
 bif Nat.beq f 99 then aAp m args objs K else
 bif Nat.beq f 60 then aAq m args objs K else
 bif Nat.beq f 112 then agu m args objs K else
 bif Nat.beq f 58 then aAr m args objs K else
 bif Nat.beq f 59 then aAs m args objs K else
 bif Nat.beq f 113 then agv m args objs K else
 bif Nat.beq f 105 then agw m args objs K else
 bif Nat.beq f 114 then agx m args objs K else
 bif Nat.beq f 111 then agy m args objs K else
 bif Nat.beq f 115 then agz m args objs K else
 bif Nat.beq f 116 then agA m args objs K else
 bif Nat.beq f 117 then agB m args objs K else
 bif Nat.beq f 118 then agC m args objs K else
 bif Nat.beq f 119 then agD m args objs K else
 bif Nat.beq f 107 then agE m args objs K else
 bif Nat.beq f 120 then agF m args objs K else
 bif Nat.beq f 109 then agG m args objs K else
 bif Nat.beq f 104 then agH m args objs K else
 bif Nat.beq f 106 then agI m args objs K else
 bif Nat.beq f 102 then agJ m args objs K else
 bif Nat.beq f 110 then agK m args objs K else
 bif Nat.beq f 108 then agL m args objs K else
 bif Nat.beq f 101 then agM m args objs K else
 bif Nat.beq f 103 then agN m args objs K else
 bif Nat.beq f 147 then agO m args objs K else
 bif Nat.beq f 148 then agP m args objs K else
 bif Nat.beq f 139 then agQ m args objs K else
 bif Nat.beq f 140 then agR m args objs K else
 bif Nat.beq f 141 then agS m args objs K else
 bif Nat.beq f 149 then agT m args objs K else
 bif Nat.beq f 150 then agU m args objs K else
 bif Nat.beq f 142 then agV m args objs K else
 bif Nat.beq f 143 then agW m args objs K else
 bif Nat.beq f 146 then agX m args objs K else
 bif Nat.beq f 145 then agY m args objs K else
 bif Nat.beq f 144 then agZ m args objs K else
 bif Nat.beq f 188 then ag0 m args objs K else
 bif Nat.beq f 184 then ag1 m args objs K else
 bif Nat.beq f 185 then ag2 m args objs K else
 bif Nat.beq f 186 then ag3 m args objs K else
 bif Nat.beq f 187 then ag4 m args objs K else
 bif Nat.beq f 219 then ag5 m args objs K else
 bif Nat.beq f 218 then ag6 m args objs K else
 bif Nat.beq f 215 then ag7 m args objs K else
 bif Nat.beq f 216 then ag8 m args objs K else
 bif Nat.beq f 217 then ag9 m args objs K else
 none
section
variable {R:Type} {P:Program} {E:Env} {call:FuncId→List AV→List Ob→(Res→Option R)→Option R} {m n M:Nat} {f:FuncId} {fn:Func} {dec:Res→Option R} {p ms:List Nat} {σ:St} {g:(Nat→Nat→Nat→St→Option R→Option R)→Option R} {r:Option R}
theorem tq (e:g jn=r) (h:∀J,evAt P E call J m f n fn dec p ms σ=g J:=by intro J;kernel_rfl):evAt P E call jn m f n fn dec p ms σ=r:=(h jn).trans e
theorem tl (e:g jn=r) (h:∀J,loopAt P E call J m f n fn dec p ms M σ=g J:=by intro J;kernel_rfl):loopAt P E call jn m f n fn dec p ms M σ=r:=(h jn).trans e
end
end Go.Proofs.YtjnkagkoolbodaaGreatDoor
