/- Generated: the functions as contracts for their callers. -/
import Derived.Test.YtmecfjhdnbgfeaaGreatDoorP1Sh
import Derived.Test.YtmecfjhdnbgfeaaGreatDoorProg
import Derived.KernelRfl
set_option linter.unusedVariables false
set_option linter.unusedSimpArgs false
noncomputable section
namespace Go.Proofs.YtmecfjhdnbgfeaaGreatDoor.P1
open Go.Am
def alG (args:List AV) (objs:List Ob):Option (Int×List Dt):=match args,objs with
 | [.dat T0 x0,.dat T1 x1],[]=>bif (Nat.beq T0 3&&Nat.beq T1 23) then some (x0.toInt,x1.toLst) else none
 |_,_=>none
theorem ajm {args:List AV} {objs:List Ob} {l:Int×List Dt} (h:alG args objs=some l):CnA Tryz.prog args [.dat 3 (.int l.1),.dat 23 (.lst l.2)]∧CnOL Tryz.prog objs []:=by
 unfold alG at h
 split at h
 ·obtain⟨hc,h2⟩:=bif_some h
  cases h2
  have e0:=beq_eq (and_l hc)
  have e1:=beq_eq (and_r hc)
  subst e0 e1
  exact⟨(.cons (.of (.dat (.int Tryz.underlying3)) rfl rfl) (.cons (.of (.dat (.lst Tryz.underlying23)) rfl rfl) .nil)),.nil⟩
 ·cases h
def ac0 (args:List AV) (objs:List Ob):Option Unit:=match args,objs with
 | [],[]=>bif true then some () else none
 |_,_=>none
theorem aaG {args:List AV} {objs:List Ob} {l:Unit} (h:ac0 args objs=some l):CnA Tryz.prog args []∧CnOL Tryz.prog objs []:=by
 unfold ac0 at h
 split at h
 ·obtain⟨hc,h2⟩:=bif_some h
  cases h2
  exact⟨.nil,.nil⟩
 ·cases h
def alH (args:List AV) (objs:List Ob):Option (ByteArray×Int×Int):=match args,objs with
 | [.dat T0 x0,.dat T1 x1,.dat T2 x2],[]=>bif (Nat.beq T0 9&&(Nat.beq T1 5&&Nat.beq T2 5)) then some (x0.toStr,x1.toInt,x2.toInt) else none
 |_,_=>none
theorem ajn {args:List AV} {objs:List Ob} {l:ByteArray×Int×Int} (h:alH args objs=some l):CnA Tryz.prog args [.dat 9 (.str l.1),.dat 5 (.int l.2.1),.dat 5 (.int l.2.2)]∧CnOL Tryz.prog objs []:=by
 unfold alH at h
 split at h
 ·obtain⟨hc,h2⟩:=bif_some h
  cases h2
  have e0:=beq_eq (and_l hc)
  have e1:=beq_eq (and_l (and_r hc))
  have e2:=beq_eq (and_r (and_r hc))
  subst e0 e1 e2
  exact⟨(.cons (.of (.dat (.str Tryz.underlying9)) rfl rfl) (.cons (.of (.dat (.int Tryz.underlying5)) rfl rfl) (.cons (.of (.dat (.int Tryz.underlying5)) rfl rfl) .nil))),.nil⟩
 ·cases h
def alI (args:List AV) (objs:List Ob):Option ByteArray:=match args,objs with
 | [.dat T0 x0],[]=>bif Nat.beq T0 9 then some x0.toStr else none
 |_,_=>none
theorem ajo {args:List AV} {objs:List Ob} {l:ByteArray} (h:alI args objs=some l):CnA Tryz.prog args [.dat 9 (.str l)]∧CnOL Tryz.prog objs []:=by
 unfold alI at h
 split at h
 ·obtain⟨hc,h2⟩:=bif_some h
  cases h2
  have e0:=beq_eq hc
  subst e0
  exact⟨(.cons (.of (.dat (.str Tryz.underlying9)) rfl rfl) .nil),.nil⟩
 ·cases h
def alJ (args:List AV) (objs:List Ob):Option Int:=match args,objs with
 | [.dat T0 x0],[]=>bif Nat.beq T0 3 then some x0.toInt else none
 |_,_=>none
theorem ajp {args:List AV} {objs:List Ob} {l:Int} (h:alJ args objs=some l):CnA Tryz.prog args [.dat 3 (.int l)]∧CnOL Tryz.prog objs []:=by
 unfold alJ at h
 split at h
 ·obtain⟨hc,h2⟩:=bif_some h
  cases h2
  have e0:=beq_eq hc
  subst e0
  exact⟨(.cons (.of (.dat (.int Tryz.underlying3)) rfl rfl) .nil),.nil⟩
 ·cases h
def akS {R:Type} (m:Nat) (args:List AV) (objs:List Ob) (K:Res→Option R):Option R:=ZX args objs K
def akT {R:Type} (m:Nat) (args:List AV) (objs:List Ob) (K:Res→Option R):Option R:=ZX args objs K
def aeI {R:Type} (m:Nat) (args:List AV) (objs:List Ob) (K:Res→Option R):Option R:=match alG args objs with
 |some l=>(expr_ofTexts m l.1 l.2).bind fun r=>K ((.dat 26 r),[])
 |none=>none
def aeJ {R:Type} (m:Nat) (args:List AV) (objs:List Ob) (K:Res→Option R):Option R:=match ac0 args objs with
 |some l=>(aT m).bind fun r=>K ((.dat 26 r),[])
 |none=>none
def aeK {R:Type} (m:Nat) (args:List AV) (objs:List Ob) (K:Res→Option R):Option R:=match alH args objs with
 |some l=>(qp l.1 l.2.1 l.2.2).bind fun r=>K ((.dat 9 (.str r)),[])
 |none=>none
def aeL {R:Type} (m:Nat) (args:List AV) (objs:List Ob) (K:Res→Option R):Option R:=match alI args objs with
 |some l=>(oL m l).bind fun r=>K ((.dat 26 r),[])
 |none=>none
def aeM {R:Type} (m:Nat) (args:List AV) (objs:List Ob) (K:Res→Option R):Option R:=match alJ args objs with
 |some l=>(aN m l).bind fun r=>K ((.dat 26 r),[])
 |none=>none
def d1 (q:Res):Option Dt:=match q with
 |(.dat T0 x0,[])=>bif Nat.beq T0 26 then some x0 else none
 |_=>none
theorem Sb {b:Res} {r:Dt} (h:d1 b=some r):Sim Tryz.prog b ((.dat 26 r),[]):=by
 unfold d1 at h
 split at h
 ·obtain⟨hc,h2⟩:=bif_some h
  cases h2
  have e0:=beq_eq hc
  subst e0
  exact Sim.of (.of .same rfl rfl) .nil
 ·cases h
def ct {R:Type} (m:Nat) (f:FuncId) (args:List AV) (objs:List Ob) (K:Res→Option R):Option R:=
 bif Nat.beq f 164 then aeI m args objs K else
 bif Nat.beq f 123 then aeJ m args objs K else
 bif Nat.beq f 216 then aeK m args objs K else
 bif Nat.beq f 214 then aeL m args objs K else
 bif Nat.beq f 166 then aeM m args objs K else
 bif Nat.beq f 213 then akS m args objs K else
 bif Nat.beq f 215 then akT m args objs K else
 none
section
variable {R:Type} {P:Program} {E:Env} {call:FuncId→List AV→List Ob→(Res→Option R)→Option R} {m n M:Nat} {f:FuncId} {fn:Func} {dec:Res→Option R} {p ms:List Nat} {σ:St} {g:(Nat→Nat→Nat→St→Option R→Option R)→Option R} {r:Option R}
theorem tq (e:g jn=r) (h:∀J,evAt P E call J m f n fn dec p ms σ=g J:=by intro J;kernel_rfl):evAt P E call jn m f n fn dec p ms σ=r:=(h jn).trans e
theorem tl (e:g jn=r) (h:∀J,loopAt P E call J m f n fn dec p ms M σ=g J:=by intro J;kernel_rfl):loopAt P E call jn m f n fn dec p ms M σ=r:=(h jn).trans e
end
end Go.Proofs.YtmecfjhdnbgfeaaGreatDoor.P1
