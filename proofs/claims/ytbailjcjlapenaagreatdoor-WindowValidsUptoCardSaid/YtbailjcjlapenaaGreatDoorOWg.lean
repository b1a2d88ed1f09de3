/- The other checks of a stage: contracts that say nothing; the stage of a window uses its window alone. -/
import Derived.Test.YtbailjcjlapenaaGreatDoorAwEnv
import Derived.KernelRfl
set_option linter.unusedVariables false
set_option linter.unusedSimpArgs false
namespace Go.Proofs.YtbailjcjlapenaaGreatDoor
open Go.RowKit Go.Am
def predN (_:Dt):Option Int:=none
theorem predN_fx {a:Dt} {r:Int} (h:predN a=some r):FX Tryz.prog 43 [.dat 44 a] [] (.dat 34 (.int r)) []:=by cases h
def projN (_:Dt):Option Int:=none
theorem projN_fx {a:Dt} {r:Int} (h:projN a=some r):FX Tryz.prog 44 [.dat 49 a] [] (.dat 34 (.int r)) []:=by cases h
def setsN (_:List Dt):Option Int:=none
theorem setsN_fx {a:List Dt} {r:Int} (h:setsN a=some r):FX Tryz.prog 45 [.dat 47 (.lst a)] [] (.dat 34 (.int r)) []:=by cases h
def groupN (_:Dt):Option Int:=none
theorem groupN_fx {a:Dt} {r:Int} (h:groupN a=some r):FX Tryz.prog 50 [.dat 52 a] [] (.dat 34 (.int r)) []:=by cases h
def lookN (_:Int) (_:Dt):Option Int:=none
theorem lookN_fx {n:Int} {a:Dt} {r:Int} (h:lookN n a=some r):FX Tryz.prog 52 [.dat 3 (.int n),.dat 55 a] [] (.dat 34 (.int r)) []:=by cases h
def facetN (_:List Dt):Option Int:=none
theorem facetN_fx {a:List Dt} {r:Int} (h:facetN a=some r):FX Tryz.prog 53 [.dat 56 (.lst a)] [] (.dat 34 (.int r)) []:=by cases h
def buckN (_:Dt):Option Int:=none
theorem buckN_fx {a:Dt} {r:Int} (h:buckN a=some r):FX Tryz.prog 54 [.dat 60 a] [] (.dat 34 (.int r)) []:=by cases h
def nearN (_:Dt):Option Int:=none
theorem nearN_fx {a:Dt} {r:Int} (h:nearN a=some r):FX Tryz.prog 56 [.dat 60 a] [] (.dat 34 (.int r)) []:=by cases h
def mergeN (_:Dt):Option Int:=none
theorem mergeN_fx {a:Dt} {r:Int} (h:mergeN a=some r):FX Tryz.prog 57 [.dat 58 a] [] (.dat 34 (.int r)) []:=by cases h
def e0:Dt:= .str (ByteArray.mk (List.toArray []))
def zVal:Dt:= .agg [.int 0,.int 0,e0,.lst [],.lst []]
def zExp:Dt:= .agg [.int 0,.lst [],e0,.lst [],zVal,.int 0,.lst []]
def zShp:Dt:= .agg [.int 0,.lst [],.int 0]
def zPrd:Dt:= .agg [.int 0,.lst [],zVal,.lst [],.int 0,.int 0,zShp,zExp,.lst []]
def stgW (w:Dt):Dt:= .agg [.int 9,zPrd,.agg [.bool false,.lst [],.bool false,.lst [],.lst []],.lst [],.lst [],.int 0,.lst [],e0,.bool false,zExp,.agg [zExp,.lst []],w,.agg [e0,.lst [],.lst [],e0,.lst []],.lst [],.lst [],.agg [e0,.lst [],.int 0,.int 0],zShp]
set_option maxRecDepth 1000000 in
theorem used_run (w:Dt):run Tryz.prog Aw.env 60 23 [.dat 60 (stgW w)] []=some (.dat 4 (.bool true),[]):=by kernel_rfl
noncomputable def usedC (s:Dt):Option Bool:=open Classical in if ∃w,s=stgW w then some true else none
theorem usedC_eq (w:Dt):usedC (stgW w)=some true:=by
 unfold usedC
 rw[if_pos ⟨w,rfl⟩]
theorem usedC_fx {s:Dt} {r:Bool} (h:usedC s=some r):FX Tryz.prog 23 [.dat 60 s] [] (.dat 4 (.bool r)) []:=by
 by_cases hc:∃w,s=stgW w
 ·obtain⟨w,rfl⟩:=hc
  rw[usedC_eq] at h
  cases h
  exact(run_sound Aw.env_ok 60 23 _ _ _ (used_run w)).1
 ·unfold usedC at h
  rw[if_neg hc] at h
  cases h
end Go.Proofs.YtbailjcjlapenaaGreatDoor
