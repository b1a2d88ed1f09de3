/- The table of the abstract machine for the fixed example, and its run. -/
import Derived.Test.YtmejbpmceflcjaaGreatDoorOParsP
import Derived.Test.YtmejbpmceflcjaaGreatDoorAmEnv
import Derived.KernelRfl
set_option linter.unusedVariables false
set_option linter.unusedSimpArgs false
namespace Go.Proofs.YtmejbpmceflcjaaGreatDoor.Aw
open Go.Am Go.RowKit
set_option maxRecDepth 100000
def orc0 (args:List AV) (objs:List Ob):Option Res:=match args,objs with
 | [.dat T0 (.str x0)],[]=>bif Nat.beq T0 9 then(utf8_ValidString x0).bind fun r=>some (.dat 4 (.bool r),[]) else none
 |_,_=>none
theorem orc0_ok {args:List AV} {objs:List Ob} {q:Res} (h:orc0 args objs=some q):FX Tryz.prog 70 args objs q.1 q.2∧HasBody Tryz.prog 70:=by
 unfold orc0 at h
 split at h
 ·obtain⟨h1,h2⟩:=bif_some h
  obtain⟨r,h3,h4⟩:=Option.bind_eq_some_iff.1 h2
  have e0:=beq_eq h1
  subst e0
  cases h4
  exact⟨ValidString_fx h3,hbV⟩
 ·cases h
def orc1 (args:List AV) (objs:List Ob):Option Res:=match args,objs with
 | [.dat T0 (.int x0)],[]=>bif Nat.beq T0 3 then(strconv_Itoa x0).bind fun r=>some (.dat 9 (.str r),[]) else none
 |_,_=>none
theorem orc1_ok {args:List AV} {objs:List Ob} {q:Res} (h:orc1 args objs=some q):FX Tryz.prog 58 args objs q.1 q.2∧HasBody Tryz.prog 58:=by
 unfold orc1 at h
 split at h
 ·obtain⟨h1,h2⟩:=bif_some h
  obtain⟨r,h3,h4⟩:=Option.bind_eq_some_iff.1 h2
  have e0:=beq_eq h1
  subst e0
  cases h4
  exact⟨Itoa_fx h3,hbI⟩
 ·cases h
def orc2 (args:List AV) (objs:List Ob):Option Res:=match args,objs with
 | [.row T0,.dat T1 (.int x1),.dat T2 (.int x2)],[.row S x0]=>bif (Nat.beq T0 0&&(Nat.beq T1 3&&(Nat.beq T2 3&&Nat.beq S 40))) then(strconv_AppendInt x1 x2 x0).bind fun r=>some (.row 1,[.gone,.row 40 r]) else none
 |_,_=>none
theorem orc2_ok {args:List AV} {objs:List Ob} {q:Res} (h:orc2 args objs=some q):FX Tryz.prog 31 args objs q.1 q.2∧HasBody Tryz.prog 31:=by
 unfold orc2 at h
 split at h
 ·obtain⟨h1,h2⟩:=bif_some h
  obtain⟨r,h3,h4⟩:=Option.bind_eq_some_iff.1 h2
  have e0:=beq_eq (and_l h1)
  have h1:=and_r h1
  have e1:=beq_eq (and_l h1)
  have h1:=and_r h1
  have e2:=beq_eq (and_l h1)
  have h1:=and_r h1
  have e3:=beq_eq h1
  subst e0 e1 e2 e3
  cases h4
  exact⟨AppendInt_fx h3,hbA⟩
 ·cases h
def orc3 (args:List AV) (objs:List Ob):Option Res:=match args,objs with
 | [.dat T0 (.str x0),.dat T1 (.int x1),.dat T2 (.int x2)],[]=>bif (Nat.beq T0 9&&(Nat.beq T1 3&&Nat.beq T2 3)) then(strconv_ParseInt x0 x1 x2).bind fun r=>some (.tup [.dat 2 (.int r.1),.nif r.2],[]) else none
 |_,_=>none
theorem orc3_ok {args:List AV} {objs:List Ob} {q:Res} (h:orc3 args objs=some q):FX Tryz.prog 73 args objs q.1 q.2∧HasBody Tryz.prog 73:=by
 unfold orc3 at h
 split at h
 ·obtain⟨h1,h2⟩:=bif_some h
  obtain⟨r,h3,h4⟩:=Option.bind_eq_some_iff.1 h2
  have e0:=beq_eq (and_l h1)
  have h1:=and_r h1
  have e1:=beq_eq (and_l h1)
  have h1:=and_r h1
  have e2:=beq_eq h1
  subst e0 e1 e2
  cases h4
  exact⟨ParseInt_fx h3,hbP⟩
 ·cases h
noncomputable def env:Env:={
 dt:=dtL
 fns:=fun f=>fnsL[f]?
 keep:=fun f k=>match keepL[f]? with
  |some l=>assocK l k
  |none=>none
 raw:=fun f=>memB f rawL
 own:=fun f=>memB f ownL
 lnd:=fun f=>memB f lndL
 orc:=fun f=>bif Nat.beq f 70 then some orc0 else bif Nat.beq f 58 then some orc1 else bif Nat.beq f 31 then some orc2 else bif Nat.beq f 73 then some orc3 else none}
theorem bset {A:Type} {b:Bool} {x y z:A} (h:(bif b then x else y)=z):(b=true∧x=z)∨(b=false∧y=z):=by cases b<;>simp_all
theorem fns_ok:(Tryz.prog.funcs.toList.take fnsL.length=fnsL)∧(fnsL.all fun fn=>!(fn.name== "runtime.NumGoroutine"))=true:=⟨by kernel_rfl,by kernel_rfl⟩
theorem env_ok:EnvOK Tryz.prog env:={
 fns:=fun f fn h=>by
  have h:fnsL[f]? =some fn:=h
  refine⟨?_,?_⟩
  · rw[←fns_ok.1,List.getElem?_take] at h
    split at h
    ·rw[Array.getElem?_toList] at h;exact h
    ·cases h
  · have:=List.all_eq_true.1 fns_ok.2 fn (List.mem_of_getElem? h)
    simpa using this
 orc:=fun f oc args objs q h1 h2=>by
  have h1:(bif Nat.beq f 70 then some orc0 else bif Nat.beq f 58 then some orc1 else bif Nat.beq f 31 then some orc2 else bif Nat.beq f 73 then some orc3 else none)=some oc:=h1
  rcases bset h1 with⟨hb,h1⟩| ⟨_,h1⟩
  ·have e:=beq_eq hb;subst e;cases h1;exact orc0_ok h2
  rcases bset h1 with⟨hb,h1⟩| ⟨_,h1⟩
  ·have e:=beq_eq hb;subst e;cases h1;exact orc1_ok h2
  rcases bset h1 with⟨hb,h1⟩| ⟨_,h1⟩
  ·have e:=beq_eq hb;subst e;cases h1;exact orc2_ok h2
  rcases bset h1 with⟨hb,h1⟩| ⟨_,h1⟩
  ·have e:=beq_eq hb;subst e;cases h1;exact orc3_ok h2
  cases h1
 mix:=by kernel_rfl}
end Go.Proofs.YtmejbpmceflcjaaGreatDoor.Aw
