/- The table of the abstract machine for the fixed example, and its run. -/
import Derived.Test.YtpifchdngodgjaaGreatDoorOLibS
import Derived.Test.YtpifchdngodgjaaGreatDoorAmEnv
import Derived.KernelRfl
set_option linter.unusedVariables false
set_option linter.unusedSimpArgs false
namespace Go.Proofs.YtpifchdngodgjaaGreatDoor.Aw
open Go.Am Go.RowKit
set_option maxRecDepth 100000
def orc0 (args:List AV) (objs:List Ob):Option Res:=match args,objs with
 | [.dat T0 (.str x0)],[]=>bif Nat.beq T0 9 then(utf8_ValidString x0).bind fun r=>some (.dat 4 (.bool r),[]) else none
 |_,_=>none
theorem orc0_ok {args:List AV} {objs:List Ob} {q:Res} (h:orc0 args objs=some q):FX Tryz.prog 96 args objs q.1 q.2∧HasBody Tryz.prog 96:=by
 unfold orc0 at h
 split at h
 ·obtain⟨h1,h2⟩:=bif_some h
  obtain⟨r,h3,h4⟩:=Option.bind_eq_some_iff.1 h2
  have e0:=beq_eq h1
  subst e0
  cases h4
  exact⟨ValidString_fx h3,hbV⟩
 ·cases h
noncomputable def env:Env:={
 dt:=dtL
 fns:=fun f=>fnsL[f]?
 keep:=fun f k=>match keepL[f]? with
  |some l=>assocK l k
  |none=>none
 raw:=fun f=>memB f rawL
 own:=fun f=>memB f ownL
 lnd:=fun f=>memB f lndL
 nest:=fun o=>match o.dst with
  |some d=>memB d []&&memB o.type []
  |none=>false
 rdo:=fun f=>memB f []
 sld:=fun o=>match o.dst with
  |some d=>memB d [12]&&memB o.type [77]
  |none=>false
 npk:=fun T=>memB T [79]
 orc:=fun f=>bif Nat.beq f 96 then some orc0 else none}
theorem bset {A:Type} {b:Bool} {x y z:A} (h:(bif b then x else y)=z):(b=true∧x=z)∨(b=false∧y=z):=by cases b<;>simp_all
theorem fns_ok:(Tryz.prog.funcs.toList.take fnsL.length=fnsL)∧(fnsL.all fun fn=>!(fn.name== "runtime.NumGoroutine"))=true:=⟨by kernel_rfl,by kernel_rfl⟩
theorem env_ok:EnvOK Tryz.prog env:={
 fns:=fun f fn h=>by
  have h:fnsL[f]? =some fn:=h
  refine⟨?_,?_⟩
  · rw[←fns_ok.1,List.getElem?_take] at h
    split at h
    ·rw[Array.getElem?_toList] at h;exact h
    ·cases h
  · have:=List.all_eq_true.1 fns_ok.2 fn (List.mem_of_getElem? h)
    simpa using this
 orc:=fun f oc args objs q h1 h2=>by
  have h1:(bif Nat.beq f 96 then some orc0 else none)=some oc:=h1
  rcases bset h1 with⟨hb,h1⟩| ⟨_,h1⟩
  ·have e:=beq_eq hb;subst e;cases h1;exact orc0_ok h2
  cases h1
 mix:=by kernel_rfl}
end Go.Proofs.YtpifchdngodgjaaGreatDoor.Aw
