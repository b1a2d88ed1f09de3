/- The fixed example of the package: awake() answers true. -/
import Derived.Test.YtjnkagkoolbodaaGreatDoorOAwk0
import Derived.Test.YtjnkagkoolbodaaGreatDoorOAwk1
set_option linter.unusedVariables false
set_option linter.unusedSimpArgs false
namespace Go.Proofs.YtjnkagkoolbodaaGreatDoor
open Go.RowKit Go.Am
def Ri (A:List AV) (R:Res) (args:List AV) (objs:List Ob):Option Res:=bif (nK args A&&isNil objs) then some R else none
theorem I5 {A:List AV} {R:Res} {f:Nat} {args:List AV} {objs:List Ob} {q:Res} (hr:run Tryz.prog Aw.env 60 f A []=some R) (h:Ri A R args objs=some q):FX Tryz.prog f args objs q.1 q.2∧HasBody Tryz.prog f:=by
 obtain⟨h1,h2⟩:=bif_some h
 obtain rfl:=jk (and_l h1)
 cases h2
 cases objs with
 |nil=>exact tK Aw.env_ok 60 f _ _ _ hr
 |cons o r=>cases and_r h1
noncomputable def aC4:Env:={Aw.env with orc:=fun f=>bif Nat.beq f 7 then some (Ri w9 xg) else bif Nat.beq f 11 then some (Ri xk xq) else bif Nat.beq f 17 then some (Ri Da Db) else none}
theorem ar6:EnvOK Tryz.prog aC4:={
 fns:=Aw.env_ok.fns
 orc:=fun f oc args objs q h1 h2=>by
  have h1:(bif Nat.beq f 7 then some (Ri w9 xg) else bif Nat.beq f 11 then some (Ri xk xq) else bif Nat.beq f 17 then some (Ri Da Db) else none)=some oc:=h1
  rcases Aw.bset h1 with⟨hb,h1⟩| ⟨_,h1⟩
  · have e:=beq_eq hb;subst e;cases h1
    exact I5 arh h2
  rcases Aw.bset h1 with⟨hb,h1⟩| ⟨_,h1⟩
  · have e:=beq_eq hb;subst e;cases h1
    exact I5 ari h2
  rcases Aw.bset h1 with⟨hb,h1⟩| ⟨_,h1⟩
  · have e:=beq_eq hb;subst e;cases h1
    exact I5 atp h2
  cases h1
 mix:=Aw.env_ok.mix}
set_option maxRecDepth 1000000 in
theorem Zk:run Tryz.prog aC4 60 6 [] []=some (.dat 4 (.bool true),[]):=by kernel_rfl
theorem aib:FX Tryz.prog 6 [] [] (.dat 4 (.bool true)) []:=(tK ar6 60 6 [] [] _ Zk).1
def tL:Option Bool:=some true
theorem Zl {r:Bool} (h:tL=some r):FX Tryz.prog 6 [] [] (.dat 4 (.bool r)) []:=by
 cases h
 exact aib
end Go.Proofs.YtjnkagkoolbodaaGreatDoor
