/- The table of the abstract machine for the fixed example, and its run. -/
import Derived.Test.YtjnkagkoolbodaaGreatDoorOLibW
import Derived.Test.YtjnkagkoolbodaaGreatDoorAmEnv
import Derived.KernelRfl
set_option linter.unusedVariables false
set_option linter.unusedSimpArgs false
namespace Go.Proofs.YtjnkagkoolbodaaGreatDoor.Aw
open Go.Am Go.RowKit
set_option maxRecDepth 100000
def aV1 (f:Nat):Option (List (Nat×List Nat×List Nat×List Nat)):=bif Nat.beq f 24 then some [kq 3 [0,1],(5,[1,5,14,15,16],[1,14,15,16],[5]),(6,[1,5,14,15,16],[1,14,15,16],[5]),(8,[1,5,14,15,16],[1,14,15,16],[5]),(9,[5],[],[5])] else bif Nat.beq f 38 then some [(2,[0,9,10],[],[0]),(3,[0,9,10],[],[0]),(6,[0,3,9,10,30,31],[],[0]),(7,[0,3,9,10,30,31],[],[0]),(9,[0,3,9,10,30,31],[],[0]),(10,[0,9,10],[],[0]),(11,[0],[],[0]),(13,[0,5],[],[0]),(14,[0,5],[],[0]),(20,[0,5,107],[],[0]),(23,[0],[],[0])] else bif Nat.beq f 92 then some [(4,[0,1,5],[1,5],[0]),(5,[0,1,5,6],[1,5,6],[0]),(6,[0,1,5,6],[1,5,6],[0]),(7,[0,1,5,6],[1,5,6],[0]),(11,[0,5],[5],[0])] else aRe[f]?
def aMC (args:List AV) (objs:List Ob):Option Res:=match args,objs with
 | [.dat T0 (.str x0)],[]=>bif Nat.beq T0 9 then(utf8_ValidString x0).bind fun r=>some (.dat 4 (.bool r),[]) else none
 |_,_=>none
theorem aMD {args:List AV} {objs:List Ob} {q:Res} (h:aMC args objs=some q):FX Tryz.prog 212 args objs q.1 q.2∧HasBody Tryz.prog 212:=by
 unfold aMC at h
 split at h
 ·obtain⟨h1,h2⟩:=bif_some h
  obtain⟨r,h3,h4⟩:=Option.bind_eq_some_iff.1 h2
  have e0:=beq_eq h1
  subst e0
  cases h4
  exact⟨Uv h3,hbV⟩
 ·cases h
noncomputable def env:Env:={
 dt:=dtL
 fns:=fun f=>aCX[f]?
 keep:=fun f k=>match aV1 f with
  |some l=>arC l k
  |none=>none
 raw:=fun f=>wC f [24,38,92]
 own:=fun f=>wC f [38,92]
 lnd:=fun f=>wC f aWh
 nest:=fun o=>match o.dst with
  |some d=>wC d []&&wC o.type []
  |none=>false
 rdo:=fun f=>wC f []
 sld:=fun o=>match o.dst with
  |some d=>wC d []&&wC o.type []
  |none=>false
 npk:=fun T=>wC T []
 orc:=fun f=>bif Nat.beq f 212 then some aMC else none}
theorem bset {A:Type} {b:Bool} {x y z:A} (h:(bif b then x else y)=z):(b=true∧x=z)∨(b=false∧y=z):=by cases b<;>simp_all
theorem aEh:(Tryz.prog.funcs.toList.take aCX.length=aCX)∧(aCX.all fun fn=>!(fn.name== "runtime.NumGoroutine"))=true:=⟨by kernel_rfl,by kernel_rfl⟩
theorem env_ok:EnvOK Tryz.prog env:={
 fns:=fun f fn h=>by
  have h:aCX[f]? =some fn:=h
  refine⟨?_,?_⟩
  · rw[←aEh.1,List.getElem?_take] at h
    split at h
    ·rw[Array.getElem?_toList] at h;exact h
    ·cases h
  · have:=List.all_eq_true.1 aEh.2 fn (List.mem_of_getElem? h)
    simpa using this
 orc:=fun f oc args objs q h1 h2=>by
  have h1:(bif Nat.beq f 212 then some aMC else none)=some oc:=h1
  rcases bset h1 with⟨hb,h1⟩| ⟨_,h1⟩
  ·have e:=beq_eq hb;subst e;cases h1;exact aMD h2
  cases h1
 mix:=by kernel_rfl}
end Go.Proofs.YtjnkagkoolbodaaGreatDoor.Aw
