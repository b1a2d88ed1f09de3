/- The fixed example of the package: awake() answers true. -/
import Derived.Test.YtmecfjhdnbgfeaaGreatDoorOK
set_option linter.unusedVariables false
set_option linter.unusedSimpArgs false
namespace Go.Proofs.YtmecfjhdnbgfeaaGreatDoor
open Go.RowKit Go.Am
def Jg (A:List AV) (R:Res) (args:List AV) (objs:List Ob):Option Res:=bif (C9 args A&&isNil objs) then some R else none
theorem Cb {A:List AV} {R:Res} {f:Nat} {args:List AV} {objs:List Ob} {q:Res} (hr:run Tryz.prog Aw.env 60 f A []=some R) (h:Jg A R args objs=some q):FX Tryz.prog f args objs q.1 q.2∧HasBody Tryz.prog f:=by
 obtain⟨h1,h2⟩:=bif_some h
 obtain rfl:=yE (and_l h1)
 cases h2
 cases objs with
 |nil=>exact Jj Aw.env_ok 60 f _ _ _ hr
 |cons o r=>cases and_r h1
noncomputable def aqv:Env:={Aw.env with orc:=fun f=>bif Nat.beq f 35 then some (Jg A9 Ba) else bif Nat.beq f 11 then some (Jg Ho Hq) else bif Nat.beq f 19 then some (Jg Bb Bc) else bif Nat.beq f 14 then some (Jg Ea Eb) else bif Nat.beq f 39 then some (Jg Hr Ht) else bif Nat.beq f 27 then some (Jg Ec Ed) else none}
theorem aky:EnvOK Tryz.prog aqv:={
 fns:=Aw.env_ok.fns
 orc:=fun f oc args objs q h1 h2=>by
  have h1:(bif Nat.beq f 35 then some (Jg A9 Ba) else bif Nat.beq f 11 then some (Jg Ho Hq) else bif Nat.beq f 19 then some (Jg Bb Bc) else bif Nat.beq f 14 then some (Jg Ea Eb) else bif Nat.beq f 39 then some (Jg Hr Ht) else bif Nat.beq f 27 then some (Jg Ec Ed) else none)=some oc:=h1
  rcases Aw.bset h1 with⟨hb,h1⟩| ⟨_,h1⟩
  · have e:=beq_eq hb;subst e;cases h1
    exact Cb Zt h2
  rcases Aw.bset h1 with⟨hb,h1⟩| ⟨_,h1⟩
  · have e:=beq_eq hb;subst e;cases h1
    exact Cb ags h2
  rcases Aw.bset h1 with⟨hb,h1⟩| ⟨_,h1⟩
  · have e:=beq_eq hb;subst e;cases h1
    exact Cb Zu h2
  rcases Aw.bset h1 with⟨hb,h1⟩| ⟨_,h1⟩
  · have e:=beq_eq hb;subst e;cases h1
    exact Cb adn h2
  rcases Aw.bset h1 with⟨hb,h1⟩| ⟨_,h1⟩
  · have e:=beq_eq hb;subst e;cases h1
    exact Cb agt h2
  rcases Aw.bset h1 with⟨hb,h1⟩| ⟨_,h1⟩
  · have e:=beq_eq hb;subst e;cases h1
    exact Cb ado h2
  cases h1
 mix:=Aw.env_ok.mix}
set_option maxRecDepth 1000000 in
theorem adS:run Tryz.prog aqv 60 10 [] []=some (.dat 4 (.bool true),[]):=by kernel_rfl
theorem aiw:FX Tryz.prog 10 [] [] (.dat 4 (.bool true)) []:=(Jj aky 60 10 [] [] _ adS).1
def EC:Option Bool:=some true
theorem adT {r:Bool} (h:EC=some r):FX Tryz.prog 10 [] [] (.dat 4 (.bool r)) []:=by
 cases h
 exact aiw
end Go.Proofs.YtmecfjhdnbgfeaaGreatDoor
