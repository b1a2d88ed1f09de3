/- The table of the abstract machine for the fixed example, and its run. -/
import Derived.Test.YtmecfjhdnbgfeaaGreatDoorOLibS
import Derived.Test.YtmecfjhdnbgfeaaGreatDoorAmEnv
import Derived.KernelRfl
set_option linter.unusedVariables false
set_option linter.unusedSimpArgs false
namespace Go.Proofs.YtmecfjhdnbgfeaaGreatDoor.Aw
open Go.Am Go.RowKit
set_option maxRecDepth 100000
def aoH (f:Nat):Option (List (Nat×List Nat×List Nat×List Nat)):=bif Nat.beq f 14 then some [(4,[2,5,6,7,15,16,17],[2,15,16,17],[5,6,7]),(5,[2,5,6,7,15,16,17],[2,15,16,17],[5,6,7]),(9,[2,5,6,7,10,15,16,17],[2,15,16,17],[5,6,7]),(14,[2,5,6,7,11,15,16,17],[2,15,16,17],[5,6,7]),(15,[2,5,6,7,15,16,17],[2,15,16,17],[5,6,7]),(16,[5,6],[],[5,6]),(17,[5,63,64,65],[63,64,65],[5]),(18,[5,63,64,65],[63,64,65],[5]),(20,[5,63,64,65],[63,64,65],[5]),(21,[5],[],[5])] else bif Nat.beq f 43 then some [(3,[0,2,4,8,9,10],[],[]),(4,[0,2,4,8,9,10],[],[]),(8,[0,2,4,8,9],[],[])] else bif Nat.beq f 46 then some [(5,[0,1,2,7],[],[0,2]),(8,[0,1,2,7,8],[],[0,2]),(13,[0,1,2,7,8],[],[0,2]),(18,[0,1,2,7,8],[],[0,2])] else bif Nat.beq f 110 then some [(3,[1,3,5,6],[3,5,6],[]),(4,[1,3,5,6,20],[3,5,6,20],[]),(5,[1,3,5,6],[3,5,6],[]),(8,[6,8],[6],[])] else bif Nat.beq f 111 then some [(4,[4,5],[4],[])] else bif Nat.beq f 146 then some [(5,[1,2,3,25,26,27],[1,2,25,26,27],[3]),(6,[1,2,3,25,26,27],[1,2,25,26,27],[3]),(8,[1,2,3,25,26,27],[1,2,25,26,27],[3]),(9,[1,2,3],[1,2],[3]),(12,[2,3,49,50,51],[2,49,50,51],[3]),(13,[2,3,49,50,51],[2,49,50,51],[3]),(15,[2,3,49,50,51],[2,49,50,51],[3]),(16,[2,3],[2],[3])] else bif Nat.beq f 148 then some [(4,[0,1,5],[],[0]),(9,[0,1,5],[],[0]),(15,[0,1,5,8],[8],[0]),(17,[0,1,5,8],[8],[0]),(18,[0,1,5,8],[8],[0]),(19,[0,1,5],[],[0]),kq 21 []] else bif Nat.beq f 149 then some [(4,[0,1,4,27],[27],[]),(10,[0,1,5],[5],[])] else bif Nat.beq f 194 then some [(4,[0,1,5],[1,5],[]),(5,[0,1,5,6],[1,5,6],[]),(6,[0,1,5,6],[1,5,6],[]),(7,[0,1,5,6],[1,5,6],[]),(11,[0,5],[5],[])] else bif Nat.beq f 201 then some [(3,[0,2,4],[],[0,2,4]),(10,[0,2,4,44,45,46],[44,45,46],[0,2,4]),(11,[0,2,4,44,45,46],[44,45,46],[0,2,4]),(14,[0,2,4,44,45,46],[44,45,46],[0,2,4]),(15,[0,2,4],[],[0,2,4]),(17,[0,2,4,10,72],[10,72],[0,2,4]),(18,[0],[],[0])] else ak1[f]?
def alE:List Nat:=[226,227,192,201,146,46,156,47]
def alF:List Nat:=[226,227,192,201,148,149,200,46,49,90,131,79,118,154,43,132,155,190,203,225,232]
noncomputable def env:Env:={
 dt:=dtL
 fns:=fun f=>adl[f]?
 keep:=fun f k=>match aoH f with
  |some l=>Tq l k
  |none=>none
 raw:=fun f=>nL f alE
 own:=fun f=>nL f alF
 lnd:=fun f=>nL f apI
 nest:=fun o=>match o.dst with
  |some d=>nL d [47]&&nL o.type [23]
  |none=>false
 rdo:=fun f=>nL f [99]
 sld:=fun o=>match o.dst with
  |some d=>nL d [12]&&nL o.type [75]
  |none=>false
 npk:=fun T=>nL T []
 orc:=fun f=>none}
theorem bset {A:Type} {b:Bool} {x y z:A} (h:(bif b then x else y)=z):(b=true∧x=z)∨(b=false∧y=z):=by cases b<;>simp_all
theorem aeH:(Tryz.prog.funcs.toList.take adl.length=adl)∧(adl.all fun fn=>!(fn.name== "runtime.NumGoroutine"))=true:=⟨by kernel_rfl,by kernel_rfl⟩
theorem env_ok:EnvOK Tryz.prog env:={
 fns:=fun f fn h=>by
  have h:adl[f]? =some fn:=h
  refine⟨?_,?_⟩
  · rw[←aeH.1,List.getElem?_take] at h
    split at h
    ·rw[Array.getElem?_toList] at h;exact h
    ·cases h
  · have:=List.all_eq_true.1 aeH.2 fn (List.mem_of_getElem? h)
    simpa using this
 orc:=fun f oc args objs q h1 h2=>by
  have h1:(none)=some oc:=h1
  cases h1
 mix:=by kernel_rfl}
end Go.Proofs.YtmecfjhdnbgfeaaGreatDoor.Aw
