/- The law on reading, in plain Lean. -/
import Derived.Test.YtmejbpmceflcjaaGreatDoorNU
import Derived.Test.YtmejbpmceflcjaaGreatDoorMC
import Derived.Test.YtmejbpmceflcjaaGreatDoorFx
set_option linter.unusedVariables false
set_option linter.unusedSimpArgs false
namespace Go.Proofs.YtmejbpmceflcjaaGreatDoor
open Go.Am
theorem nul_wv:WV kza2373:=sc_wv 0 0 _
theorem law_nparses (s:ByteArray):law05_NotationParses (1000000000+1) s=some true:=by
 rw[law05_NotationParses]
 by_cases hs:10000<s.size
 ·rw[decide_eq_true (show (10000:Int)<(s.size:Int) by omega)]
  rfl
 rw[decide_eq_false (show ¬(10000:Int)<(s.size:Int) by omega),cond_false,law05_NotationParses_j0]
 have hp:=parse_sim 999999997 s (by omega) (by omega)
 have hr:=rparse_sim 999999997 s (by omega) (by omega) (by omega)
 have hp':notation_Parse 1000000000 s=_:=hp
 have hr':ref05_Parse 1000000000 s=_:=hr
 have hg:=parse_good s.data.toList
 have same:∀d:Dt,WV d→d.bulk≤100000*100→ref05_Same 1000000000 d d=some true:=fun d hw hb=>by
  have:=r2_refl d.bulk d (Nat.le_refl _) (by omega) hw 999999998 (by omega)
  have this:ref02_Same 999999999 d d=some true:=this
  show ((ref02_Same 999999999 d d).bind fun r0=>some r0)=some true
  rw[this];rfl
 obtain⟨X,hX,hsX⟩:∃X:Dt×Int×Int,(match sParse s.data.toList with| .er e l=>(kza2373,((s.size-l.length:Nat):Int),(e:Int))| .ok v _=>(v,0,0))=X∧ref05_Same 1000000000 X.1 X.1=some true:=by
  cases hr:sParse s.data.toList with
  |er e l=>exact⟨_,rfl,same kza2373 nul_wv (by decide)⟩
  |ok v l=>
   rw[hr] at hg
   obtain⟨hw,_,_,_,hb⟩:=hg
   rw[lenB] at hb
   exact⟨_,rfl,same v hw (by omega)⟩
 have hp2:notation_Parse 1000000000 s=some X:=hp'.trans (congrArg some hX)
 have hr2:ref05_Parse 1000000000 s=some X:=hr'.trans (congrArg some hX)
 rw[hp2,hr2,Option.bind_some,Option.bind_some,hsX,Option.bind_some,cond_true,beq_self_eq_true,cond_true,beq_self_eq_true,cond_true]
 rfl
theorem nparses_fx {ds:List Dt} (h:HasTys Tryz.prog Tryz.f4.params.toList ds):FX Tryz.prog 4 (dats Tryz.f4.params.toList ds) [] (.dat 4 (.bool true)) []:=by
 have h':HasTys Tryz.prog [9] ds:=h
 cases h' with
 | @cons _ d _ _ h1 r=>
   cases r
   obtain⟨e,_⟩:=ty_str Tryz.underlying9 h1
   rw[e]
   exact law05_NotationParses_fx 1000000000 (ct_ok 1000000000) _ (law_nparses d.toStr)
end Go.Proofs.YtmejbpmceflcjaaGreatDoor
