/- The fixed example of the package: awake() answers true. -/
import Derived.Test.YtjnkagkoolbodaaGreatDoorOAwk0
import Derived.Test.YtjnkagkoolbodaaGreatDoorOAwk1
set_option linter.unusedVariables false
set_option linter.unusedSimpArgs false
namespace Go.Proofs.YtjnkagkoolbodaaGreatDoor
open Go.RowKit Go.Am
def axA (A:List AV) (R:Res) (args:List AV) (objs:List Ob):Option Res:=bif (Yx args A&&isNil objs) then some R else none
theorem ar9 {A:List AV} {R:Res} {f:Nat} {args:List AV} {objs:List Ob} {q:Res} (hr:run Tryz.prog Aw.env 60 f A []=some R) (h:axA A R args objs=some q):FX Tryz.prog f args objs q.1 q.2∧HasBody Tryz.prog f:=by
 obtain⟨h1,h2⟩:=bif_some h
 obtain rfl:=OP (and_l h1)
 cases h2
 cases objs with
 |nil=>exact ahU Aw.env_ok 60 f _ _ _ hr
 |cons o r=>cases and_r h1
noncomputable def aWT:Env:={Aw.env with orc:=fun f=>bif Nat.beq f 7 then some (axA alF alG) else bif Nat.beq f 11 then some (axA alH alI) else bif Nat.beq f 17 then some (axA an7 an8) else none}
theorem aNE:EnvOK Tryz.prog aWT:={
 fns:=Aw.env_ok.fns
 orc:=fun f oc args objs q h1 h2=>by
  have h1:(bif Nat.beq f 7 then some (axA alF alG) else bif Nat.beq f 11 then some (axA alH alI) else bif Nat.beq f 17 then some (axA an7 an8) else none)=some oc:=h1
  rcases Aw.bset h1 with⟨hb,h1⟩| ⟨_,h1⟩
  · have e:=beq_eq hb;subst e;cases h1
    exact ar9 aMM h2
  rcases Aw.bset h1 with⟨hb,h1⟩| ⟨_,h1⟩
  · have e:=beq_eq hb;subst e;cases h1
    exact ar9 aMN h2
  rcases Aw.bset h1 with⟨hb,h1⟩| ⟨_,h1⟩
  · have e:=beq_eq hb;subst e;cases h1
    exact ar9 aN2 h2
  cases h1
 mix:=Aw.env_ok.mix}
set_option maxRecDepth 1000000 in
theorem aDd:run Tryz.prog aWT 60 6 [] []=some (.dat 4 (.bool true),[]):=by kernel_rfl
theorem aJl:FX Tryz.prog 6 [] [] (.dat 4 (.bool true)) []:=(ahU aNE 60 6 [] [] _ aDd).1
def amq:Option Bool:=some true
theorem aDe {r:Bool} (h:amq=some r):FX Tryz.prog 6 [] [] (.dat 4 (.bool r)) []:=by
 cases h
 exact aJl
end Go.Proofs.YtjnkagkoolbodaaGreatDoor
