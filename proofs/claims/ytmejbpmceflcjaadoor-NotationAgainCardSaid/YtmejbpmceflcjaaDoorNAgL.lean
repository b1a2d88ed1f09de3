/- The law on reading again, in plain Lean. -/
import Derived.Test.YtmejbpmceflcjaaDoorNH
import Derived.Test.YtmejbpmceflcjaaDoorNI
set_option linter.unusedVariables false
set_option linter.unusedSimpArgs false
namespace Go.Proofs.YtmejbpmceflcjaaDoor
open Go.Am
theorem nul_wv:WV kza2373:=sc_wv 0 0 _
theorem law_nagain (s:ByteArray):law05_NotationAgain (400000000000+1) s=some true:=by
 rw[law05_NotationAgain]
 by_cases hs:10000<s.size
 ·rw[decide_eq_true (show (10000:Int)<(s.size:Int) by omega)]
  rfl
 rw[decide_eq_false (show ¬(10000:Int)<(s.size:Int) by omega),cond_false,law05_NotationAgain_j0]
 have hp:=parse_sim 399999999997 s (by omega) (by omega)
 have hp':notation_Parse 400000000000 s=_:=hp
 have hg:=parse_good s.data.toList
 have same:∀d:Dt,WV d→d.bulk≤100000→ref05_Same 400000000000 d d=some true:=fun d hw hb=>by
  have:=s5_refl d.bulk d (Nat.le_refl _) (by omega) hw 399999999998 (by omega)
  have this:ref02_Same 399999999999 d d=some true:=this
  show ((ref02_Same 399999999999 d d).bind fun r0=>some r0)=some true
  rw[this];rfl
 rw[hp']
 cases hr:sParse s.data.toList with
 |er e l=>
  rw[hr] at hg
  have he:e=2∨e=4:=hg
  have h1:=same kza2373 nul_wv (by decide)
  have d1:decide ((0:Int)≤((s.size-l.length:Nat):Int))=true:=decide_eq_true (by omega)
  have d2:decide (((s.size-l.length:Nat):Int)≤(s.size:Int))=true:=decide_eq_true (by omega)
  simp only[Option.bind_some,d1,d2,cond_true]
  rcases he with rfl|rfl
  ·show (bif (((2:Nat):Int) !=0) then(bif (((2:Nat):Int)==4) then _ else(bif (((2:Nat):Int)==2) then((ref05_Same 400000000000 kza2373 kza2373).bind _) else _)) else _)=_
   rw[h1];rfl
  ·show (bif (((4:Nat):Int) !=0) then(bif (((4:Nat):Int)==4) then((ref05_Same 400000000000 kza2373 kza2373).bind _) else _) else _)=_
   rw[h1];rfl
 |ok v l=>
  rw[hr] at hg
  obtain⟨hw,hwr,hok,hpe,hb⟩:=hg
  rw[lenB] at hb
  have h1:=same v hw (by omega)
  have h2:notation_Print 400000000000 v=some (prt v):=Print_eq hw hwr (by omega) 399999999993 (by omega)
  have h3:ref05_WellFormed 400000000000 v=some (okF v):=rWellFormed_eq hw 399999999996 (by omega) (by omega) (by omega)
  have h4:=parse_back 399999999997 v (by omega) hw hwr hok hpe [] [] (fun c hc=>by cases hc) (fun c hc=>by cases hc) (by simp) (by simp) (by omega)
  rw[List.nil_append,List.append_nil] at h4
  have h4':notation_Parse 400000000000 ⟨(txt v.bulk v).toArray⟩=some (v,0,0):=h4
  have hprt:prt v=(⟨(txt v.bulk v).toArray⟩,0):=by
   unfold prt
   rw[hok,hpe];rfl
  rw[hok] at h3
  simp only[Option.bind_some]
  show law05_NotationAgain_j1 400000000000 0 v=some true
  rw[law05_NotationAgain_j1,h2,hprt]
  simp only[Option.bind_some,h4',h3,h1]
  rfl
theorem nagain_fx {ds:List Dt} (h:HasTys Tryd.prog Tryd.f5.params.toList ds):FX Tryd.prog 5 (dats Tryd.f5.params.toList ds) [] (.dat 4 (.bool true)) []:=by
 have h':HasTys Tryd.prog [9] ds:=h
 cases h' with
 | @cons _ d _ _ h1 r=>
   cases r
   obtain⟨e,_⟩:=ty_str Tryd.underlying9 h1
   rw[e]
   exact law05_NotationAgain_fx 400000000000 (ct_ok 400000000000) _ (law_nagain d.toStr)
end Go.Proofs.YtmejbpmceflcjaaDoor
