/- Equal lists of strings, in plain Lean. -/
import Derived.Test.YtpifchdngodgjaaGreatDoorFx
import Derived.Test.YtpifchdngodgjaaGreatDoorMA
set_option linter.unusedVariables false
set_option linter.unusedSimpArgs false
namespace Go.Proofs.YtpifchdngodgjaaGreatDoor
open Go.Am
def eqS (a b:Dt):Bool:=a.toStr.toList==b.toStr.toList
theorem eqS_comm (a b:Dt):eqS a b=eqS b a:=by simp[eqS,Bool.beq_comm]
def pfx:List Dt→List Dt→Bool
 | [],_=>true
 |a::r,b::s=>eqS a b&&pfx r s
 |_::_,[]=>false
theorem pfx_comm:∀{a b:List Dt},a.length=b.length→pfx a b=pfx b a
 | [],[],_=>rfl
 |a::r,b::s,h=>by simp[pfx,eqS_comm a b,pfx_comm (a:=r) (b:=s) (by simpa using h)]
 | [],_::_,h=>by simp at h
 |_::_,[],h=>by simp at h
def eqP (a b:List Dt):Bool:=a.length==b.length&&pfx a b
theorem eqP_comm (a b:List Dt):eqP a b=eqP b a:=by
 unfold eqP
 by_cases h:a.length=b.length
 ·rw[pfx_comm h,h]
 ·have h1:(a.length==b.length)=false:=by simpa using h
  have h2:(b.length==a.length)=false:=by simpa using fun e=>h e.symm
  rw[h1,h2];rfl
end Go.Proofs.YtpifchdngodgjaaGreatDoor
