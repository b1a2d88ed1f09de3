/- The fixed example of the package: awake() answers true. -/
import Derived.Test.YtpifchdngodgjaaGreatDoorOAwk0
import Derived.Test.YtpifchdngodgjaaGreatDoorOAwk1
set_option linter.unusedVariables false
set_option linter.unusedSimpArgs false
namespace Go.Proofs.YtpifchdngodgjaaGreatDoor
open Go.RowKit Go.Am
def awkO (A:List AV) (R:Res) (args:List AV) (objs:List Ob):Option Res:=bif (avsEq args A&&isNil objs) then some R else none
theorem awkO_ok {A:List AV} {R:Res} {f:Nat} {args:List AV} {objs:List Ob} {q:Res} (hr:run Tryz.prog Aw.env 60 f A []=some R) (h:awkO A R args objs=some q):FX Tryz.prog f args objs q.1 q.2∧HasBody Tryz.prog f:=by
 obtain⟨h1,h2⟩:=bif_some h
 obtain rfl:=avsEq_ok (and_l h1)
 cases h2
 cases objs with
 |nil=>exact run_sound Aw.env_ok 60 f _ _ _ hr
 |cons o r=>cases and_r h1
def awkOr (o1 o2:List AV→List Ob→Option Res) (args:List AV) (objs:List Ob):Option Res:=match o1 args objs with
 |some q=>some q
 |none=>o2 args objs
theorem awkOr_ok {o1 o2:List AV→List Ob→Option Res} {args:List AV} {objs:List Ob} {q:Res} (h:awkOr o1 o2 args objs=some q):o1 args objs=some q∨o2 args objs=some q:=by
 unfold awkOr at h
 split at h
 ·rename_i e;exact .inl (e.trans h)
 ·exact .inr h
noncomputable def env2:Env:={Aw.env with orc:=fun f=>bif Nat.beq f 8 then some (awkOr (awkO awkA_sorta awkR_sorta) (awkO awkA_sortb awkR_sortb)) else bif Nat.beq f 23 then some (awkO awkA_part awkR_part) else bif Nat.beq f 24 then some (awkO awkA_final awkR_final) else none}
theorem env2_ok:EnvOK Tryz.prog env2:={
 fns:=Aw.env_ok.fns
 orc:=fun f oc args objs q h1 h2=>by
  have h1:(bif Nat.beq f 8 then some (awkOr (awkO awkA_sorta awkR_sorta) (awkO awkA_sortb awkR_sortb)) else bif Nat.beq f 23 then some (awkO awkA_part awkR_part) else bif Nat.beq f 24 then some (awkO awkA_final awkR_final) else none)=some oc:=h1
  rcases Aw.bset h1 with⟨hb,h1⟩| ⟨_,h1⟩
  · have e:=beq_eq hb;subst e;cases h1
    rcases awkOr_ok h2 with h3|h4
    ·exact awkO_ok awk_sorta h3
    ·exact awkO_ok awk_sortb h4
  rcases Aw.bset h1 with⟨hb,h1⟩| ⟨_,h1⟩
  · have e:=beq_eq hb;subst e;cases h1
    exact awkO_ok awk_part h2
  rcases Aw.bset h1 with⟨hb,h1⟩| ⟨_,h1⟩
  · have e:=beq_eq hb;subst e;cases h1
    exact awkO_ok awk_final h2
  cases h1
 mix:=Aw.env_ok.mix}
set_option maxRecDepth 1000000 in
theorem awake_run:run Tryz.prog env2 60 7 [] []=some (.dat 4 (.bool true),[]):=by kernel_rfl
theorem awake_fx:FX Tryz.prog 7 [] [] (.dat 4 (.bool true)) []:=(run_sound env2_ok 60 7 [] [] _ awake_run).1
def awakeC:Option Bool:=some true
theorem awakeC_fx {r:Bool} (h:awakeC=some r):FX Tryz.prog 7 [] [] (.dat 4 (.bool r)) []:=by
 cases h
 exact awake_fx
end Go.Proofs.YtpifchdngodgjaaGreatDoor
