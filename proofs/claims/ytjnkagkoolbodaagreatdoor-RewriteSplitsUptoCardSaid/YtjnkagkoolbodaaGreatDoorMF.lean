/- Data of the struct types, put together again; the types of their parts (printed by qre.py).
Copies of lists are the lists (printed by qcp.py).
Copies are what they copy. -/
import Derived.Test.YtjnkagkoolbodaaGreatDoorMA
import Derived.Test.YtjnkagkoolbodaaGreatDoorMC
set_option linter.unusedVariables false
set_option linter.unusedSimpArgs false
namespace Go.Proofs.YtjnkagkoolbodaaGreatDoor
open Go.Am
theorem arZ {d:Dt} (h:HasTy Tryz.prog 36 d):d= .agg [.int (Dt.I d 0),.lst (Dt.L d 1),.str (Dt.S d 2),.lst (Dt.L d 3),Dt.fld d 4,.int (Dt.I d 5),.lst (Dt.L d 6)]:=by
 obtain⟨⟨ds,e,hl⟩,hf⟩:=aK Tryz.underlying36 h
 have hl:ds.length=7:=hl
 have e0:=(dw Tryz.underlying3 (show HasTy Tryz.prog 3 (d.fld 0) from hf 0 _ rfl)).1
 have e1:=(aM Tryz.underlying26 (show HasTy Tryz.prog 26 (d.fld 1) from hf 1 _ rfl)).1
 have e2:=(kV Tryz.underlying9 (show HasTy Tryz.prog 9 (d.fld 2) from hf 2 _ rfl)).1
 have e3:=(aM Tryz.underlying26 (show HasTy Tryz.prog 26 (d.fld 3) from hf 3 _ rfl)).1
 have e5:=(dw Tryz.underlying3 (show HasTy Tryz.prog 3 (d.fld 5) from hf 5 _ rfl)).1
 have e6:=(aM Tryz.underlying34 (show HasTy Tryz.prog 34 (d.fld 6) from hf 6 _ rfl)).1
 subst e
 match ds,hl with
 | [x0,x1,x2,x3,x4,x5,x6],_=>
   have e0:x0= .int x0.toInt:=e0
   have e1:x1= .lst x1.toLst:=e1
   have e2:x2= .str x2.toStr:=e2
   have e3:x3= .lst x3.toLst:=e3
   have e5:x5= .int x5.toInt:=e5
   have e6:x6= .lst x6.toLst:=e6
   show Dt.agg [x0,x1,x2,x3,x4,x5,x6]=Dt.agg [.int x0.toInt,.lst x1.toLst,.str x2.toStr,.lst x3.toLst,x4,.int x5.toInt,.lst x6.toLst]
   rw[←e0,←e1,←e2,←e3,←e5,←e6]
theorem Mw {d:Dt} (h:HasTy Tryz.prog 36 d):HasTy Tryz.prog 30 (Dt.fld d 4):=(aK Tryz.underlying36 h).2 4 _ rfl
theorem Mx {d:Dt} (h:HasTy Tryz.prog 36 d):∀e∈Dt.L d 6,HasTy Tryz.prog 36 e:=(aM (E:=36) Tryz.underlying34 ((aK Tryz.underlying36 h).2 6 _ rfl)).2.2
theorem ahw {d:Dt} (h:HasTy Tryz.prog 33 d):d= .agg [.int (Dt.I d 0),.lst (Dt.L d 1),.int (Dt.I d 2)]:=by
 obtain⟨⟨ds,e,hl⟩,hf⟩:=aK Tryz.underlying33 h
 have hl:ds.length=3:=hl
 have e0:=(dw Tryz.underlying3 (show HasTy Tryz.prog 3 (d.fld 0) from hf 0 _ rfl)).1
 have e1:=(aM Tryz.underlying31 (show HasTy Tryz.prog 31 (d.fld 1) from hf 1 _ rfl)).1
 have e2:=(dw Tryz.underlying3 (show HasTy Tryz.prog 3 (d.fld 2) from hf 2 _ rfl)).1
 subst e
 match ds,hl with
 | [x0,x1,x2],_=>
   have e0:x0= .int x0.toInt:=e0
   have e1:x1= .lst x1.toLst:=e1
   have e2:x2= .int x2.toInt:=e2
   show Dt.agg [x0,x1,x2]=Dt.agg [.int x0.toInt,.lst x1.toLst,.int x2.toInt]
   rw[←e0,←e1,←e2]
theorem Vi {d:Dt} (h:HasTy Tryz.prog 39 d):d= .agg [.int (Dt.I d 0),.lst (Dt.L d 1),Dt.fld d 2,.lst (Dt.L d 3),.int (Dt.I d 4),.int (Dt.I d 5),Dt.fld d 6,Dt.fld d 7,.lst (Dt.L d 8)]:=by
 obtain⟨⟨ds,e,hl⟩,hf⟩:=aK Tryz.underlying39 h
 have hl:ds.length=9:=hl
 have e0:=(dw Tryz.underlying3 (show HasTy Tryz.prog 3 (d.fld 0) from hf 0 _ rfl)).1
 have e1:=(aM Tryz.underlying26 (show HasTy Tryz.prog 26 (d.fld 1) from hf 1 _ rfl)).1
 have e3:=(aM Tryz.underlying27 (show HasTy Tryz.prog 27 (d.fld 3) from hf 3 _ rfl)).1
 have e4:=(dw Tryz.underlying3 (show HasTy Tryz.prog 3 (d.fld 4) from hf 4 _ rfl)).1
 have e5:=(dw Tryz.underlying3 (show HasTy Tryz.prog 3 (d.fld 5) from hf 5 _ rfl)).1
 have e8:=(aM Tryz.underlying37 (show HasTy Tryz.prog 37 (d.fld 8) from hf 8 _ rfl)).1
 subst e
 match ds,hl with
 | [x0,x1,x2,x3,x4,x5,x6,x7,x8],_=>
   have e0:x0= .int x0.toInt:=e0
   have e1:x1= .lst x1.toLst:=e1
   have e3:x3= .lst x3.toLst:=e3
   have e4:x4= .int x4.toInt:=e4
   have e5:x5= .int x5.toInt:=e5
   have e8:x8= .lst x8.toLst:=e8
   show Dt.agg [x0,x1,x2,x3,x4,x5,x6,x7,x8]=Dt.agg [.int x0.toInt,.lst x1.toLst,x2,.lst x3.toLst,.int x4.toInt,.int x5.toInt,x6,x7,.lst x8.toLst]
   rw[←e0,←e1,←e3,←e4,←e5,←e8]
theorem xJ {d:Dt} (h:HasTy Tryz.prog 39 d):HasTy Tryz.prog 30 (Dt.fld d 2):=(aK Tryz.underlying39 h).2 2 _ rfl
theorem xK {d:Dt} (h:HasTy Tryz.prog 39 d):∀e∈Dt.L d 3,HasTy Tryz.prog 30 e:=(aM (E:=30) Tryz.underlying27 ((aK Tryz.underlying39 h).2 3 _ rfl)).2.2
theorem ahx {d:Dt} (h:HasTy Tryz.prog 39 d):HasTy Tryz.prog 33 (Dt.fld d 6):=(aK Tryz.underlying39 h).2 6 _ rfl
theorem xL {d:Dt} (h:HasTy Tryz.prog 39 d):HasTy Tryz.prog 36 (Dt.fld d 7):=(aK Tryz.underlying39 h).2 7 _ rfl
theorem xM {d:Dt} (h:HasTy Tryz.prog 39 d):∀e∈Dt.L d 8,HasTy Tryz.prog 39 e:=(aM (E:=39) Tryz.underlying37 ((aK Tryz.underlying39 h).2 8 _ rfl)).2.2
theorem ahy {d:Dt} (h:HasTy Tryz.prog 73 d):d= .agg [.lst (Dt.L d 0),.bool (Dt.B d 1)]:=by
 obtain⟨⟨ds,e,hl⟩,hf⟩:=aK Tryz.underlying73 h
 have hl:ds.length=2:=hl
 have e0:=(aM Tryz.underlying26 (show HasTy Tryz.prog 26 (d.fld 0) from hf 0 _ rfl)).1
 have e1:=rR Tryz.underlying4 (show HasTy Tryz.prog 4 (d.fld 1) from hf 1 _ rfl)
 subst e
 match ds,hl with
 | [x0,x1],_=>
   have e0:x0= .lst x0.toLst:=e0
   have e1:x1= .bool x1.toBool:=e1
   show Dt.agg [x0,x1]=Dt.agg [.lst x0.toLst,.bool x1.toBool]
   rw[←e0,←e1]
theorem ahz {d:Dt} (h:HasTy Tryz.prog 106 d):d= .agg [.lst (Dt.L d 0),.int (Dt.I d 1),.int (Dt.I d 2)]:=by
 obtain⟨⟨ds,e,hl⟩,hf⟩:=aK Tryz.underlying106 h
 have hl:ds.length=3:=hl
 have e0:=(aM Tryz.underlying26 (show HasTy Tryz.prog 26 (d.fld 0) from hf 0 _ rfl)).1
 have e1:=(dw Tryz.underlying3 (show HasTy Tryz.prog 3 (d.fld 1) from hf 1 _ rfl)).1
 have e2:=(dw Tryz.underlying3 (show HasTy Tryz.prog 3 (d.fld 2) from hf 2 _ rfl)).1
 subst e
 match ds,hl with
 | [x0,x1,x2],_=>
   have e0:x0= .lst x0.toLst:=e0
   have e1:x1= .int x1.toInt:=e1
   have e2:x2= .int x2.toInt:=e2
   show Dt.agg [x0,x1,x2]=Dt.agg [.lst x0.toLst,.int x1.toInt,.int x2.toInt]
   rw[←e0,←e1,←e2]
theorem MB {d:Dt} (h:HasTy Tryz.prog 110 d):d= .agg [.lst (Dt.L d 0),Dt.fld d 1]:=by
 obtain⟨⟨ds,e,hl⟩,hf⟩:=aK Tryz.underlying110 h
 have hl:ds.length=2:=hl
 have e0:=(aM Tryz.underlying26 (show HasTy Tryz.prog 26 (d.fld 0) from hf 0 _ rfl)).1
 subst e
 match ds,hl with
 | [x0,x1],_=>
   have e0:x0= .lst x0.toLst:=e0
   show Dt.agg [x0,x1]=Dt.agg [.lst x0.toLst,x1]
   rw[←e0]
theorem fQ {d:Dt} (h:HasTy Tryz.prog 110 d):HasTy Tryz.prog 36 (Dt.fld d 1):=(aK Tryz.underlying110 h).2 1 _ rfl
theorem QL {d:Dt} (h:HasTy Tryz.prog 45 d):d= .agg [.bool (Dt.B d 0),.lst (Dt.L d 1),.bool (Dt.B d 2),.lst (Dt.L d 3),.lst (Dt.L d 4)]:=by
 obtain⟨⟨ds,e,hl⟩,hf⟩:=aK Tryz.underlying45 h
 have hl:ds.length=5:=hl
 have e0:=rR Tryz.underlying4 (show HasTy Tryz.prog 4 (d.fld 0) from hf 0 _ rfl)
 have e1:=(aM Tryz.underlying41 (show HasTy Tryz.prog 41 (d.fld 1) from hf 1 _ rfl)).1
 have e2:=rR Tryz.underlying4 (show HasTy Tryz.prog 4 (d.fld 2) from hf 2 _ rfl)
 have e3:=(aM Tryz.underlying42 (show HasTy Tryz.prog 42 (d.fld 3) from hf 3 _ rfl)).1
 have e4:=(aM Tryz.underlying43 (show HasTy Tryz.prog 43 (d.fld 4) from hf 4 _ rfl)).1
 subst e
 match ds,hl with
 | [x0,x1,x2,x3,x4],_=>
   have e0:x0= .bool x0.toBool:=e0
   have e1:x1= .lst x1.toLst:=e1
   have e2:x2= .bool x2.toBool:=e2
   have e3:x3= .lst x3.toLst:=e3
   have e4:x4= .lst x4.toLst:=e4
   show Dt.agg [x0,x1,x2,x3,x4]=Dt.agg [.bool x0.toBool,.lst x1.toLst,.bool x2.toBool,.lst x3.toLst,.lst x4.toLst]
   rw[←e0,←e1,←e2,←e3,←e4]
theorem MC {d:Dt} (h:HasTy Tryz.prog 45 d):∀e∈Dt.L d 1,HasTy Tryz.prog 26 e:=(aM (E:=26) Tryz.underlying41 ((aK Tryz.underlying45 h).2 1 _ rfl)).2.2
theorem ME {d:Dt} (h:HasTy Tryz.prog 45 d):∀e∈Dt.L d 3,HasTy Tryz.prog 106 e:=(aM (E:=106) Tryz.underlying42 ((aK Tryz.underlying45 h).2 3 _ rfl)).2.2
theorem kJ {d:Dt} (h:HasTy Tryz.prog 45 d):∀e∈Dt.L d 4,HasTy Tryz.prog 110 e:=(aM (E:=110) Tryz.underlying43 ((aK Tryz.underlying45 h).2 4 _ rfl)).2.2
theorem aAw {d:Dt} (h:HasTy Tryz.prog 114 d):d= .agg [.str (Dt.S d 0),.int (Dt.I d 1),Dt.fld d 2,.lst (Dt.L d 3),.int (Dt.I d 4)]:=by
 obtain⟨⟨ds,e,hl⟩,hf⟩:=aK Tryz.underlying114 h
 have hl:ds.length=5:=hl
 have e0:=(kV Tryz.underlying9 (show HasTy Tryz.prog 9 (d.fld 0) from hf 0 _ rfl)).1
 have e1:=(dw Tryz.underlying3 (show HasTy Tryz.prog 3 (d.fld 1) from hf 1 _ rfl)).1
 have e3:=(aM Tryz.underlying40 (show HasTy Tryz.prog 40 (d.fld 3) from hf 3 _ rfl)).1
 have e4:=(dw Tryz.underlying3 (show HasTy Tryz.prog 3 (d.fld 4) from hf 4 _ rfl)).1
 subst e
 match ds,hl with
 | [x0,x1,x2,x3,x4],_=>
   have e0:x0= .str x0.toStr:=e0
   have e1:x1= .int x1.toInt:=e1
   have e3:x3= .lst x3.toLst:=e3
   have e4:x4= .int x4.toInt:=e4
   show Dt.agg [x0,x1,x2,x3,x4]=Dt.agg [.str x0.toStr,.int x1.toInt,x2,.lst x3.toLst,.int x4.toInt]
   rw[←e0,←e1,←e3,←e4]
theorem IJ {d:Dt} (h:HasTy Tryz.prog 114 d):HasTy Tryz.prog 36 (Dt.fld d 2):=(aK Tryz.underlying114 h).2 2 _ rfl
theorem ar0 {d:Dt} (h:HasTy Tryz.prog 114 d):∀e∈Dt.L d 3,HasTy Tryz.prog 73 e:=(aM (E:=73) Tryz.underlying40 ((aK Tryz.underlying114 h).2 3 _ rfl)).2.2
theorem ahA {d:Dt} (h:HasTy Tryz.prog 61 d):d= .agg [Dt.fld d 0,.lst (Dt.L d 1)]:=by
 obtain⟨⟨ds,e,hl⟩,hf⟩:=aK Tryz.underlying61 h
 have hl:ds.length=2:=hl
 have e1:=(aM Tryz.underlying59 (show HasTy Tryz.prog 59 (d.fld 1) from hf 1 _ rfl)).1
 subst e
 match ds,hl with
 | [x0,x1],_=>
   have e1:x1= .lst x1.toLst:=e1
   show Dt.agg [x0,x1]=Dt.agg [x0,.lst x1.toLst]
   rw[←e1]
theorem sO {d:Dt} (h:HasTy Tryz.prog 61 d):HasTy Tryz.prog 36 (Dt.fld d 0):=(aK Tryz.underlying61 h).2 0 _ rfl
theorem sP {d:Dt} (h:HasTy Tryz.prog 61 d):∀e∈Dt.L d 1,HasTy Tryz.prog 114 e:=(aM (E:=114) Tryz.underlying59 ((aK Tryz.underlying61 h).2 1 _ rfl)).2.2
theorem aAx {d:Dt} (h:HasTy Tryz.prog 118 d):d= .agg [.str (Dt.S d 0),.int (Dt.I d 1),Dt.fld d 2,.int (Dt.I d 3),.int (Dt.I d 4),.bool (Dt.B d 5)]:=by
 obtain⟨⟨ds,e,hl⟩,hf⟩:=aK Tryz.underlying118 h
 have hl:ds.length=6:=hl
 have e0:=(kV Tryz.underlying9 (show HasTy Tryz.prog 9 (d.fld 0) from hf 0 _ rfl)).1
 have e1:=(dw Tryz.underlying3 (show HasTy Tryz.prog 3 (d.fld 1) from hf 1 _ rfl)).1
 have e3:=(dw Tryz.underlying3 (show HasTy Tryz.prog 3 (d.fld 3) from hf 3 _ rfl)).1
 have e4:=(dw Tryz.underlying3 (show HasTy Tryz.prog 3 (d.fld 4) from hf 4 _ rfl)).1
 have e5:=rR Tryz.underlying4 (show HasTy Tryz.prog 4 (d.fld 5) from hf 5 _ rfl)
 subst e
 match ds,hl with
 | [x0,x1,x2,x3,x4,x5],_=>
   have e0:x0= .str x0.toStr:=e0
   have e1:x1= .int x1.toInt:=e1
   have e3:x3= .int x3.toInt:=e3
   have e4:x4= .int x4.toInt:=e4
   have e5:x5= .bool x5.toBool:=e5
   show Dt.agg [x0,x1,x2,x3,x4,x5]=Dt.agg [.str x0.toStr,.int x1.toInt,x2,.int x3.toInt,.int x4.toInt,.bool x5.toBool]
   rw[←e0,←e1,←e3,←e4,←e5]
theorem IK {d:Dt} (h:HasTy Tryz.prog 118 d):HasTy Tryz.prog 36 (Dt.fld d 2):=(aK Tryz.underlying118 h).2 2 _ rfl
theorem Zb {d:Dt} (h:HasTy Tryz.prog 64 d):d= .agg [Dt.fld d 0,.lst (Dt.L d 1),.lst (Dt.L d 2)]:=by
 obtain⟨⟨ds,e,hl⟩,hf⟩:=aK Tryz.underlying64 h
 have hl:ds.length=3:=hl
 have e1:=(aM Tryz.underlying40 (show HasTy Tryz.prog 40 (d.fld 1) from hf 1 _ rfl)).1
 have e2:=(aM Tryz.underlying62 (show HasTy Tryz.prog 62 (d.fld 2) from hf 2 _ rfl)).1
 subst e
 match ds,hl with
 | [x0,x1,x2],_=>
   have e1:x1= .lst x1.toLst:=e1
   have e2:x2= .lst x2.toLst:=e2
   show Dt.agg [x0,x1,x2]=Dt.agg [x0,.lst x1.toLst,.lst x2.toLst]
   rw[←e1,←e2]
theorem oF {d:Dt} (h:HasTy Tryz.prog 64 d):HasTy Tryz.prog 36 (Dt.fld d 0):=(aK Tryz.underlying64 h).2 0 _ rfl
theorem QM {d:Dt} (h:HasTy Tryz.prog 64 d):∀e∈Dt.L d 1,HasTy Tryz.prog 73 e:=(aM (E:=73) Tryz.underlying40 ((aK Tryz.underlying64 h).2 1 _ rfl)).2.2
theorem oG {d:Dt} (h:HasTy Tryz.prog 64 d):∀e∈Dt.L d 2,HasTy Tryz.prog 118 e:=(aM (E:=118) Tryz.underlying62 ((aK Tryz.underlying64 h).2 2 _ rfl)).2.2
theorem Zc {d:Dt} (h:HasTy Tryz.prog 66 d):d= .agg [.str (Dt.S d 0),.lst (Dt.L d 1),.lst (Dt.L d 2),.str (Dt.S d 3),.lst (Dt.L d 4)]:=by
 obtain⟨⟨ds,e,hl⟩,hf⟩:=aK Tryz.underlying66 h
 have hl:ds.length=5:=hl
 have e0:=(kV Tryz.underlying9 (show HasTy Tryz.prog 9 (d.fld 0) from hf 0 _ rfl)).1
 have e1:=(aM Tryz.underlying26 (show HasTy Tryz.prog 26 (d.fld 1) from hf 1 _ rfl)).1
 have e2:=(aM Tryz.underlying26 (show HasTy Tryz.prog 26 (d.fld 2) from hf 2 _ rfl)).1
 have e3:=(kV Tryz.underlying9 (show HasTy Tryz.prog 9 (d.fld 3) from hf 3 _ rfl)).1
 have e4:=(aM Tryz.underlying22 (show HasTy Tryz.prog 22 (d.fld 4) from hf 4 _ rfl)).1
 subst e
 match ds,hl with
 | [x0,x1,x2,x3,x4],_=>
   have e0:x0= .str x0.toStr:=e0
   have e1:x1= .lst x1.toLst:=e1
   have e2:x2= .lst x2.toLst:=e2
   have e3:x3= .str x3.toStr:=e3
   have e4:x4= .lst x4.toLst:=e4
   show Dt.agg [x0,x1,x2,x3,x4]=Dt.agg [.str x0.toStr,.lst x1.toLst,.lst x2.toLst,.str x3.toStr,.lst x4.toLst]
   rw[←e0,←e1,←e2,←e3,←e4]
theorem oH {d:Dt} (h:HasTy Tryz.prog 66 d):∀e∈Dt.L d 4,HasTy Tryz.prog 71 e:=(aM (E:=71) Tryz.underlying22 ((aK Tryz.underlying66 h).2 4 _ rfl)).2.2
theorem ahB {d:Dt} (h:HasTy Tryz.prog 122 d):d= .agg [.str (Dt.S d 0),.lst (Dt.L d 1)]:=by
 obtain⟨⟨ds,e,hl⟩,hf⟩:=aK Tryz.underlying122 h
 have hl:ds.length=2:=hl
 have e0:=(kV Tryz.underlying9 (show HasTy Tryz.prog 9 (d.fld 0) from hf 0 _ rfl)).1
 have e1:=(aM Tryz.underlying22 (show HasTy Tryz.prog 22 (d.fld 1) from hf 1 _ rfl)).1
 subst e
 match ds,hl with
 | [x0,x1],_=>
   have e0:x0= .str x0.toStr:=e0
   have e1:x1= .lst x1.toLst:=e1
   show Dt.agg [x0,x1]=Dt.agg [.str x0.toStr,.lst x1.toLst]
   rw[←e0,←e1]
theorem sQ {d:Dt} (h:HasTy Tryz.prog 122 d):∀e∈Dt.L d 1,HasTy Tryz.prog 71 e:=(aM (E:=71) Tryz.underlying22 ((aK Tryz.underlying122 h).2 1 _ rfl)).2.2
theorem ahC {d:Dt} (h:HasTy Tryz.prog 69 d):d= .agg [.str (Dt.S d 0),.lst (Dt.L d 1),.int (Dt.I d 2),.int (Dt.I d 3)]:=by
 obtain⟨⟨ds,e,hl⟩,hf⟩:=aK Tryz.underlying69 h
 have hl:ds.length=4:=hl
 have e0:=(kV Tryz.underlying9 (show HasTy Tryz.prog 9 (d.fld 0) from hf 0 _ rfl)).1
 have e1:=(aM Tryz.underlying41 (show HasTy Tryz.prog 41 (d.fld 1) from hf 1 _ rfl)).1
 have e2:=(dw Tryz.underlying3 (show HasTy Tryz.prog 3 (d.fld 2) from hf 2 _ rfl)).1
 have e3:=(dw Tryz.underlying3 (show HasTy Tryz.prog 3 (d.fld 3) from hf 3 _ rfl)).1
 subst e
 match ds,hl with
 | [x0,x1,x2,x3],_=>
   have e0:x0= .str x0.toStr:=e0
   have e1:x1= .lst x1.toLst:=e1
   have e2:x2= .int x2.toInt:=e2
   have e3:x3= .int x3.toInt:=e3
   show Dt.agg [x0,x1,x2,x3]=Dt.agg [.str x0.toStr,.lst x1.toLst,.int x2.toInt,.int x3.toInt]
   rw[←e0,←e1,←e2,←e3]
theorem Zd {d:Dt} (h:HasTy Tryz.prog 69 d):∀e∈Dt.L d 1,HasTy Tryz.prog 26 e:=(aM (E:=26) Tryz.underlying41 ((aK Tryz.underlying69 h).2 1 _ rfl)).2.2
theorem ahD {d:Dt} (h:HasTy Tryz.prog 71 d):d= .agg [.int (Dt.I d 0),Dt.fld d 1,Dt.fld d 2,.lst (Dt.L d 3),.lst (Dt.L d 4),.int (Dt.I d 5),.lst (Dt.L d 6),.str (Dt.S d 7),.bool (Dt.B d 8),Dt.fld d 9,Dt.fld d 10,Dt.fld d 11,Dt.fld d 12,.lst (Dt.L d 13),.lst (Dt.L d 14),Dt.fld d 15,Dt.fld d 16]:=by
 obtain⟨⟨ds,e,hl⟩,hf⟩:=aK Tryz.underlying71 h
 have hl:ds.length=17:=hl
 have e0:=(dw Tryz.underlying3 (show HasTy Tryz.prog 3 (d.fld 0) from hf 0 _ rfl)).1
 have e3:=(aM Tryz.underlying43 (show HasTy Tryz.prog 43 (d.fld 3) from hf 3 _ rfl)).1
 have e4:=(aM Tryz.underlying40 (show HasTy Tryz.prog 40 (d.fld 4) from hf 4 _ rfl)).1
 have e5:=(dw Tryz.underlying3 (show HasTy Tryz.prog 3 (d.fld 5) from hf 5 _ rfl)).1
 have e6:=(aM Tryz.underlying26 (show HasTy Tryz.prog 26 (d.fld 6) from hf 6 _ rfl)).1
 have e7:=(kV Tryz.underlying9 (show HasTy Tryz.prog 9 (d.fld 7) from hf 7 _ rfl)).1
 have e8:=rR Tryz.underlying4 (show HasTy Tryz.prog 4 (d.fld 8) from hf 8 _ rfl)
 have e13:=(aM Tryz.underlying67 (show HasTy Tryz.prog 67 (d.fld 13) from hf 13 _ rfl)).1
 have e14:=(aM Tryz.underlying27 (show HasTy Tryz.prog 27 (d.fld 14) from hf 14 _ rfl)).1
 subst e
 match ds,hl with
 | [x0,x1,x2,x3,x4,x5,x6,x7,x8,x9,x10,x11,x12,x13,x14,x15,x16],_=>
   have e0:x0= .int x0.toInt:=e0
   have e3:x3= .lst x3.toLst:=e3
   have e4:x4= .lst x4.toLst:=e4
   have e5:x5= .int x5.toInt:=e5
   have e6:x6= .lst x6.toLst:=e6
   have e7:x7= .str x7.toStr:=e7
   have e8:x8= .bool x8.toBool:=e8
   have e13:x13= .lst x13.toLst:=e13
   have e14:x14= .lst x14.toLst:=e14
   show Dt.agg [x0,x1,x2,x3,x4,x5,x6,x7,x8,x9,x10,x11,x12,x13,x14,x15,x16]=Dt.agg [.int x0.toInt,x1,x2,.lst x3.toLst,.lst x4.toLst,.int x5.toInt,.lst x6.toLst,.str x7.toStr,.bool x8.toBool,x9,x10,x11,x12,.lst x13.toLst,.lst x14.toLst,x15,x16]
   rw[←e0,←e3,←e4,←e5,←e6,←e7,←e8,←e13,←e14]
theorem sS {d:Dt} (h:HasTy Tryz.prog 71 d):HasTy Tryz.prog 39 (Dt.fld d 1):=(aK Tryz.underlying71 h).2 1 _ rfl
theorem sU {d:Dt} (h:HasTy Tryz.prog 71 d):HasTy Tryz.prog 45 (Dt.fld d 2):=(aK Tryz.underlying71 h).2 2 _ rfl
theorem sV {d:Dt} (h:HasTy Tryz.prog 71 d):∀e∈Dt.L d 3,HasTy Tryz.prog 110 e:=(aM (E:=110) Tryz.underlying43 ((aK Tryz.underlying71 h).2 3 _ rfl)).2.2
theorem Fp {d:Dt} (h:HasTy Tryz.prog 71 d):∀e∈Dt.L d 4,HasTy Tryz.prog 73 e:=(aM (E:=73) Tryz.underlying40 ((aK Tryz.underlying71 h).2 4 _ rfl)).2.2
theorem lV {d:Dt} (h:HasTy Tryz.prog 71 d):HasTy Tryz.prog 36 (Dt.fld d 9):=(aK Tryz.underlying71 h).2 9 _ rfl
theorem oI {d:Dt} (h:HasTy Tryz.prog 71 d):HasTy Tryz.prog 61 (Dt.fld d 10):=(aK Tryz.underlying71 h).2 10 _ rfl
theorem oJ {d:Dt} (h:HasTy Tryz.prog 71 d):HasTy Tryz.prog 64 (Dt.fld d 11):=(aK Tryz.underlying71 h).2 11 _ rfl
theorem oK {d:Dt} (h:HasTy Tryz.prog 71 d):HasTy Tryz.prog 66 (Dt.fld d 12):=(aK Tryz.underlying71 h).2 12 _ rfl
theorem oL {d:Dt} (h:HasTy Tryz.prog 71 d):∀e∈Dt.L d 13,HasTy Tryz.prog 122 e:=(aM (E:=122) Tryz.underlying67 ((aK Tryz.underlying71 h).2 13 _ rfl)).2.2
theorem oM {d:Dt} (h:HasTy Tryz.prog 71 d):∀e∈Dt.L d 14,HasTy Tryz.prog 30 e:=(aM (E:=30) Tryz.underlying27 ((aK Tryz.underlying71 h).2 14 _ rfl)).2.2
theorem QN {d:Dt} (h:HasTy Tryz.prog 71 d):HasTy Tryz.prog 69 (Dt.fld d 15):=(aK Tryz.underlying71 h).2 15 _ rfl
theorem QO {d:Dt} (h:HasTy Tryz.prog 71 d):HasTy Tryz.prog 33 (Dt.fld d 16):=(aK Tryz.underlying71 h).2 16 _ rfl
end Go.Proofs.YtjnkagkoolbodaaGreatDoor
namespace Go.Proofs.YtjnkagkoolbodaaGreatDoor
open Go.Am
theorem kK (n:Nat) (z:Dt) (h:n≤137438953472):mkL (n:Int) (n:Int) z=some (List.replicate n z):=by
 unfold mkL
 rw[if_pos ⟨by omega,by omega,by omega⟩,Int.toNat_natCast]
theorem aCU (n:Nat) (z:Dt) (h:n≤2147483648):mkB (n:Int) (n:Int) z=some (List.replicate n z):=by
 unfold mkB
 rw[if_pos ⟨by omega,by omega,by omega⟩,Int.toNat_natCast]
theorem ahE (l:List Dt) (z:Dt) (i:Nat) (h:i≤l.length):(l.take i++List.replicate (l.length-i) z).length=l.length:=by simp;omega
theorem ahF (l:List Dt) (z:Dt) (i:Nat) (h:i<l.length):(l.take i++List.replicate (l.length-i) z).set i l[i]=l.take (i+1)++List.replicate (l.length-(i+1)) z:=by
 have lm:(l.take i).length=i:=by simp;omega
 rw[List.set_append_right _ _ (by omega),lm,Nat.sub_self,show l.length-i=(l.length-(i+1))+1 by omega,List.replicate_succ,List.set_cons_zero,List.take_succ_eq_append_getElem h,List.append_assoc]
 rfl
theorem cO (l:List Dt) (hl:l.length≤1000000000) (z:Dt) (F:Nat→Int→List Dt→Option (List Dt)) (h0:∀M c,F (M+1) (l.length:Int) c=some c) (hs:∀M (i:Nat) (c:List Dt) (hi:i<l.length),c.length=l.length→F (M+1) (i:Int) c=F M ((i+1:Nat):Int) (c.set i l[i])) (N:Nat) (hN:l.length<N):F N 0 (List.replicate l.length z)=some l:=by
 have key:∀(M i:Nat),i≤l.length→l.length-i<M→F M (i:Int) (l.take i++List.replicate (l.length-i) z)=some l:=by
  intro M
  induction M with
  |zero=>intro i _ h;omega
  |succ M ih=>
   intro i hi h
   by_cases hlt:i<l.length
   ·    rw[hs M i _ hlt (ahE l z i hi),ahF l z i hlt]
        exact ih (i+1) (by omega) (by omega)
   ·    have e:i=l.length:=by omega
        subst e
        rw[h0,List.take_length,Nat.sub_self]
        simp
 have:=key N 0 (Nat.zero_le _) (by omega)
 simpa using this
theorem fF {a:Dt} {r:List Dt}:((((a::r).length:Nat):Int)==0)=false:=by rw[beq_eq_false_iff_ne,List.length_cons];omega
theorem ahG (m:Nat) (l:List Dt) (hm:l.length≤m) (hl:l.length≤1000000000) (h:∀e∈l,yD m e=some e):i32 (m+1) l=some l:=by
 have key:=fun z=>cO l hl z (fun M i c=>oW m (yD m) M l (l.length:Int) i c) (fun M c=>by simp only[oW,dlt,Nat.lt_irrefl,decide_false,cond_false,yx,ze,zf,zh,zk]) (fun M i c hi hc=>by simp only[oW,dlt,hi,decide_true,cond_true,yx,ze,zf,zh,zk,aA hi,Option.bind_some,h _ (List.getElem_mem hi),fI (show i<c.length by omega),Int.toNat_natCast,List.getElem?_eq_getElem (show i<c.length by omega),aF (show i<9223372036854775807 by omega)]) (m+1) (by omega)
 rw[i32]
 cases l with
 |nil=>rfl
 |cons a r=>
  rw[fF,cond_false]
  simp only[yx,ze,zf,zh,zk]
  rw[kK _ _ (by omega),Option.bind_some]
  exact key _
theorem aCV (m:Nat) (l:List Dt) (hm:l.length≤m) (hl:l.length≤1000000000) (h:∀e∈l,yQ m e=some e):i69 (m+1) l=some l:=by
 have key:=fun z=>cO l hl z (fun M i c=>oZ m (yQ m) M l (l.length:Int) i c) (fun M c=>by simp only[oZ,dlt,Nat.lt_irrefl,decide_false,cond_false,zl,zm,zn,zo,zq]) (fun M i c hi hc=>by simp only[oZ,dlt,hi,decide_true,cond_true,zl,zm,zn,zo,zq,aA hi,Option.bind_some,h _ (List.getElem_mem hi),fI (show i<c.length by omega),Int.toNat_natCast,List.getElem?_eq_getElem (show i<c.length by omega),aF (show i<9223372036854775807 by omega)]) (m+1) (by omega)
 rw[i69]
 cases l with
 |nil=>rfl
 |cons a r=>
  rw[fF,cond_false]
  simp only[zl,zm,zn,zo,zq]
  rw[kK _ _ (by omega),Option.bind_some]
  exact key _
theorem aAy (m:Nat) (l:List Dt) (hm:l.length≤m) (hl:l.length≤1000000000) (h:∀e∈l,z7 m e=some e):i68 (m+1) l=some l:=by
 have key:=fun z=>cO l hl z (fun M i c=>o7 m (z7 m) M l (l.length:Int) i c) (fun M c=>by simp only[o7,dlt,Nat.lt_irrefl,decide_false,cond_false,zu,zw,zx,zy,Aa]) (fun M i c hi hc=>by simp only[o7,dlt,hi,decide_true,cond_true,zu,zw,zx,zy,Aa,aA hi,Option.bind_some,h _ (List.getElem_mem hi),fI (show i<c.length by omega),Int.toNat_natCast,List.getElem?_eq_getElem (show i<c.length by omega),aF (show i<9223372036854775807 by omega)]) (m+1) (by omega)
 rw[i68]
 cases l with
 |nil=>rfl
 |cons a r=>
  rw[fF,cond_false]
  simp only[zu,zw,zx,zy,Aa]
  rw[kK _ _ (by omega),Option.bind_some]
  exact key _
theorem aCW (m:Nat) (l:List Dt) (hm:l.length≤m) (hl:l.length≤1000000000) (h:∀e∈l,yH m e=some e):i65 (m+1) l=some l:=by
 have key:=fun z=>cO l hl z (fun M i c=>pE m (yH m) M l (l.length:Int) i c) (fun M c=>by simp only[pE,dlt,Nat.lt_irrefl,decide_false,cond_false,AB,AJ,AL,AO,AP]) (fun M i c hi hc=>by simp only[pE,dlt,hi,decide_true,cond_true,AB,AJ,AL,AO,AP,aA hi,Option.bind_some,h _ (List.getElem_mem hi),fI (show i<c.length by omega),Int.toNat_natCast,List.getElem?_eq_getElem (show i<c.length by omega),aF (show i<9223372036854775807 by omega)]) (m+1) (by omega)
 rw[i65]
 cases l with
 |nil=>rfl
 |cons a r=>
  rw[fF,cond_false]
  simp only[AB,AJ,AL,AO,AP]
  rw[kK _ _ (by omega),Option.bind_some]
  exact key _
theorem aCX (m:Nat) (l:List Dt) (hm:l.length≤m) (hl:l.length≤1000000000) (h:∀e∈l,y4 m e=some e):i12 (m+1) l=some l:=by
 have key:=fun z=>cO l hl z (fun M i c=>oV m M l (l.length:Int) i c) (fun M c=>by simp only[oV,dlt,Nat.lt_irrefl,decide_false,cond_false,yh,yj,yt,yu,yw]) (fun M i c hi hc=>by simp only[oV,dlt,hi,decide_true,cond_true,yh,yj,yt,yu,yw,aA hi,Option.bind_some,h _ (List.getElem_mem hi),fI (show i<c.length by omega),Int.toNat_natCast,List.getElem?_eq_getElem (show i<c.length by omega),aF (show i<9223372036854775807 by omega)]) (m+1) (by omega)
 rw[i12]
 cases l with
 |nil=>rfl
 |cons a r=>
  rw[fF,cond_false]
  simp only[yh,yj,yt,yu,yw]
  rw[kK _ _ (by omega),Option.bind_some]
  exact key _
theorem aCY (m:Nat) (l:List Dt) (hm:l.length≤m) (hl:l.length≤1000000000) (h:∀e∈l,y5 m e=some e):i66 (m+1) l=some l:=by
 have key:=fun z=>cO l hl z (fun M i c=>pF m M l (l.length:Int) i c) (fun M c=>by simp only[pF,dlt,Nat.lt_irrefl,decide_false,cond_false,AU,AX,AY,AZ,A8]) (fun M i c hi hc=>by simp only[pF,dlt,hi,decide_true,cond_true,AU,AX,AY,AZ,A8,aA hi,Option.bind_some,h _ (List.getElem_mem hi),fI (show i<c.length by omega),Int.toNat_natCast,List.getElem?_eq_getElem (show i<c.length by omega),aF (show i<9223372036854775807 by omega)]) (m+1) (by omega)
 rw[i66]
 cases l with
 |nil=>rfl
 |cons a r=>
  rw[fF,cond_false]
  simp only[AU,AX,AY,AZ,A8]
  rw[kK _ _ (by omega),Option.bind_some]
  exact key _
theorem aCZ (m:Nat) (l:List Dt) (hm:l.length≤m) (hl:l.length≤1000000000) (h:∀e∈l,yX m e=some e):i22 (m+1) l=some l:=by
 have key:=fun z=>cO l hl z (fun M i c=>o8 m M l (l.length:Int) i c) (fun M c=>by simp only[o8,dlt,Nat.lt_irrefl,decide_false,cond_false,Ab,Ac,Ad,Ae,Af]) (fun M i c hi hc=>by simp only[o8,dlt,hi,decide_true,cond_true,Ab,Ac,Ad,Ae,Af,aA hi,Option.bind_some,h _ (List.getElem_mem hi),fI (show i<c.length by omega),Int.toNat_natCast,List.getElem?_eq_getElem (show i<c.length by omega),aF (show i<9223372036854775807 by omega)]) (m+1) (by omega)
 rw[i22]
 cases l with
 |nil=>rfl
 |cons a r=>
  rw[fF,cond_false]
  simp only[Ab,Ac,Ad,Ae,Af]
  rw[kK _ _ (by omega),Option.bind_some]
  exact key _
theorem aC0 (m:Nat) (l:List Dt) (hm:l.length≤m) (hl:l.length≤1000000000) (h:∀e∈l,vC m e=some e):i26 (m+1) l=some l:=by
 have key:=fun z=>cO l hl z (fun M i c=>o9 m M l (l.length:Int) i c) (fun M c=>by simp only[o9,dlt,Nat.lt_irrefl,decide_false,cond_false,Ag,Ah,Ai,Aj,Ak]) (fun M i c hi hc=>by simp only[o9,dlt,hi,decide_true,cond_true,Ag,Ah,Ai,Aj,Ak,aA hi,Option.bind_some,h _ (List.getElem_mem hi),fI (show i<c.length by omega),Int.toNat_natCast,List.getElem?_eq_getElem (show i<c.length by omega),aF (show i<9223372036854775807 by omega)]) (m+1) (by omega)
 rw[i26]
 cases l with
 |nil=>rfl
 |cons a r=>
  rw[fF,cond_false]
  simp only[Ag,Ah,Ai,Aj,Ak]
  rw[kK _ _ (by omega),Option.bind_some]
  exact key _
theorem aC1 (m:Nat) (l:List Dt) (hm:l.length≤m) (hl:l.length≤1000000000) (h:∀e∈l,vD m e=some e):i28 (m+1) l=some l:=by
 have key:=fun z=>cO l hl z (fun M i c=>pq m M l (l.length:Int) i c) (fun M c=>by simp only[pq,dlt,Nat.lt_irrefl,decide_false,cond_false,Al,Ao,Ap,Aq,Ar]) (fun M i c hi hc=>by simp only[pq,dlt,hi,decide_true,cond_true,Al,Ao,Ap,Aq,Ar,aA hi,Option.bind_some,h _ (List.getElem_mem hi),fI (show i<c.length by omega),Int.toNat_natCast,List.getElem?_eq_getElem (show i<c.length by omega),aF (show i<9223372036854775807 by omega)]) (m+1) (by omega)
 rw[i28]
 cases l with
 |nil=>rfl
 |cons a r=>
  rw[fF,cond_false]
  simp only[Al,Ao,Ap,Aq,Ar]
  rw[kK _ _ (by omega),Option.bind_some]
  exact key _
theorem aC2 (m:Nat) (l:List Dt) (hm:l.length≤m) (hl:l.length≤1000000000) (h:∀e∈l,yM m e=some e):i30 (m+1) l=some l:=by
 have key:=fun z=>cO l hl z (fun M i c=>pI m (yM m) M l (l.length:Int) i c) (fun M c=>by simp only[pI,dlt,Nat.lt_irrefl,decide_false,cond_false,Bf,Bg,Bh,Bj,Bl]) (fun M i c hi hc=>by simp only[pI,dlt,hi,decide_true,cond_true,Bf,Bg,Bh,Bj,Bl,aA hi,Option.bind_some,h _ (List.getElem_mem hi),fI (show i<c.length by omega),Int.toNat_natCast,List.getElem?_eq_getElem (show i<c.length by omega),aF (show i<9223372036854775807 by omega)]) (m+1) (by omega)
 rw[i30]
 cases l with
 |nil=>rfl
 |cons a r=>
  rw[fF,cond_false]
  simp only[Bf,Bg,Bh,Bj,Bl]
  rw[kK _ _ (by omega),Option.bind_some]
  exact key _
theorem ahH (m:Nat) (l:List Dt) (hm:l.length≤m) (hl:l.length≤1000000000) (h:∀e∈l,yJ m e=some e):i10 (m+1) l=some l:=by
 have key:=fun z=>cO l hl z (fun M i c=>pG m (yJ m) M l (l.length:Int) i c) (fun M c=>by simp only[pG,dlt,Nat.lt_irrefl,decide_false,cond_false,A9,Ba,Bb,Bc,Bd]) (fun M i c hi hc=>by simp only[pG,dlt,hi,decide_true,cond_true,A9,Ba,Bb,Bc,Bd,aA hi,Option.bind_some,h _ (List.getElem_mem hi),fI (show i<c.length by omega),Int.toNat_natCast,List.getElem?_eq_getElem (show i<c.length by omega),aF (show i<9223372036854775807 by omega)]) (m+1) (by omega)
 rw[i10]
 cases l with
 |nil=>rfl
 |cons a r=>
  rw[fF,cond_false]
  simp only[A9,Ba,Bb,Bc,Bd]
  rw[aCU _ _ (by omega),Option.bind_some]
  exact key _
theorem aC3 (m:Nat) (l:List Dt) (hm:l.length≤m) (hl:l.length≤1000000000) (h:∀e∈l,zW m e.toLst=some e.toLst∧Dt.lst e.toLst=e):i34 (m+1) l=some l:=by
 have key:=fun z=>cO l hl z (fun M i c=>pz m M l (l.length:Int) i c) (fun M c=>by simp only[pz,dlt,Nat.lt_irrefl,decide_false,cond_false,Au,Av,Ay,Az,AA]) (fun M i c hi hc=>by simp only[pz,dlt,hi,decide_true,cond_true,Au,Av,Ay,Az,AA,aA hi,Option.bind_some,(h _ (List.getElem_mem hi)).1,(h _ (List.getElem_mem hi)).2,fI (show i<c.length by omega),Int.toNat_natCast,List.getElem?_eq_getElem (show i<c.length by omega),aF (show i<9223372036854775807 by omega)]) (m+1) (by omega)
 rw[i34]
 cases l with
 |nil=>rfl
 |cons a r=>
  rw[fF,cond_false]
  simp only[Au,Av,Ay,Az,AA]
  rw[kK _ _ (by omega),Option.bind_some]
  exact key _
end Go.Proofs.YtjnkagkoolbodaaGreatDoor
namespace Go.Proofs.YtjnkagkoolbodaaGreatDoor
open Go.Am
theorem cStr (m:Nat) (l:List Dt) (hl:l.length≤1000000000):zW (m+1) l=some l:=by
 rw[zW,jB (show ([]:List Dt).length+l.length≤137438953472 by simp;omega),Option.bind_some,List.nil_append]
theorem cVal:∀(N:Nat) (d:Dt),d.bulk≤N→N≤1000000000→WV d→∀m,4*N≤m→yD (m+1) d=some d
 |0,d,h,_,_,_,_=>by have:=aR d;omega
 |N +   1,d,h,hN,hw,m,hm=>by
  obtain⟨q,rfl⟩:∃q,m=q+4:=⟨m-4,by omega⟩
  cases hw with
  | @mk   k i t l ds hl hd=>
    rw[eB] at h
    have hl1:=bf l
    have hd1:=bf ds
    have h1:i32 (q+4) l=some l:=ahG (q+3) l (by omega) (by omega) fun e he=>cVal N e (by have:=bM he;omega) (by omega) (hl e he) (q+2) (by omega)
    have h2:i69 (q+4) ds=some ds:=aCV (q+3) ds (by omega) (by omega) fun f hf=>by
        have hb:=bM hf
        cases hd f hf with
        | @mk s v hv=>
          rw[rT] at hb
          have:=cVal N v (by omega) (by omega) hv (q+1) (by omega)
          show Option.bind (yD (q+2) v) _=_
          rw[this]
          rfl
    show Option.bind (i32 (q+4) l) _=_
    rw[h1,Option.bind_some]
    show Option.bind (i69 (q+4) ds) _=_
    rw[h2,Option.bind_some]
    rfl
theorem Vj (d:Dt) (hb:d.bulk≤10000000) (h:HasTy Tryz.prog 30 d) (m:Nat) (hm:4*d.bulk+1≤m):yD m d=some d:=by
 obtain⟨q,rfl⟩:∃q,m=q+1:=⟨m-1,by omega⟩
 exact cVal d.bulk d (Nat.le_refl _) (by omega) (OC h) q (by omega)
theorem cExpr:∀(N:Nat) (d:Dt),d.bulk≤N→N≤10000000→HasTy Tryz.prog 36 d→∀m,8*N≤m→z7 (m+1) d=some d
 |0,d,h,_,_,_,_=>by have:=aR d;omega
 |N+1,d,h,hN,ht,m,hm=>by
  obtain⟨q,rfl⟩:∃q,m=q+4:=⟨m-4,by omega⟩
  have l1:=aD d 1
  have l3:=aD d 3
  have l6:=aD d 6
  have f4:=aB d 4
  have h2:=Vj (Dt.fld d 4) (by omega) (Mw ht) (q+4) (by omega)
  have h3:i68 (q+4) (Dt.L d 6)=some (Dt.L d 6):=aAy (q+3) _ (by omega) (by omega) fun e he=>cExpr N e (by have:=aL he;omega) (by omega) (Mx ht e he) (q+2) (by omega)
  rw[z7,cStr (q+3) _ (by omega),Option.bind_some,cStr (q+3) _ (by omega),Option.bind_some,h2,Option.bind_some,h3,Option.bind_some]
  exact congrArg some (arZ ht).symm
theorem oN (d:Dt) (hb:d.bulk≤10000000) (h:HasTy Tryz.prog 36 d) (m:Nat) (hm:8*d.bulk+1≤m):z7 m d=some d:=by
 obtain⟨q,rfl⟩:∃q,m=q+1:=⟨m-1,by omega⟩
 exact cExpr d.bulk d (Nat.le_refl _) hb h q (by omega)
theorem ahI (m:Nat) {d:Dt} (hb:d.bulk≤10000000) (h:HasTy Tryz.prog 33 d):yY (m+1) d=some d:=by
 have l1:=aD d 1
 rw[yY,jB (show ([]:List Dt).length+(Dt.L d 1).length≤137438953472 by simp;omega),Option.bind_some,List.nil_append]
 exact congrArg some (ahw h).symm
theorem av7:∀(N:Nat) (d:Dt),d.bulk≤N→N≤10000000→HasTy Tryz.prog 39 d→∀m,16*N≤m→yH (m+1) d=some d
 |0,d,h,_,_,_,_=>by have:=aR d;omega
 |N+1,d,h,hN,ht,m,hm=>by
  obtain⟨q,rfl⟩:∃q,m=q+4:=⟨m-4,by omega⟩
  have l1:=aD d 1
  have l3:=aD d 3
  have l8:=aD d 8
  have f2:=aB d 2
  have f6:=aB d 6
  have f7:=aB d 7
  have h2:=Vj (Dt.fld d 2) (by omega) (xJ ht) (q+4) (by omega)
  have h3:i32 (q+4) (Dt.L d 3)=some (Dt.L d 3):=ahG (q+3) _ (by omega) (by omega) fun e he=>Vj e (by have:=aL he;omega) (xK ht e he) (q+3) (by have:=aL he;omega)
  have h6:=ahI (q+3) (by omega) (ahx ht)
  have h7:=oN (Dt.fld d 7) (by omega) (xL ht) (q+4) (by omega)
  have h8:i65 (q+4) (Dt.L d 8)=some (Dt.L d 8):=aCW (q+3) _ (by omega) (by omega) fun e he=>av7 N e (by have:=aL he;omega) (by omega) (xM ht e he) (q+2) (by omega)
  rw[yH,cStr (q+3) _ (by omega),Option.bind_some,h2,Option.bind_some,h3,Option.bind_some,h6,Option.bind_some,h7,Option.bind_some,h8,Option.bind_some]
  exact congrArg some (Vi ht).symm
theorem aAz (m:Nat) {d:Dt} (hb:d.bulk≤10000000) (h:HasTy Tryz.prog 73 d):y4 (m+2) d=some d:=by
 have l0:=aD d 0
 rw[y4,cStr m _ (by omega),Option.bind_some]
 exact congrArg some (ahy h).symm
theorem vP (m:Nat) (l:List Dt) (hb:∀e∈l,e.bulk≤10000000) (hl:l.length≤10000000) (hm:l.length≤m) (h:∀e∈l,HasTy Tryz.prog 73 e):i12 (m+3) l=some l:=
 aCX (m+2) l (by omega) (by omega) fun e he=>aAz m (hb e he) (h e he)
theorem aAA (m:Nat) {d:Dt} (hb:d.bulk≤10000000) (h:HasTy Tryz.prog 106 d):y5 (m+2) d=some d:=by
 have l0:=aD d 0
 rw[y5,cStr m _ (by omega),Option.bind_some]
 exact congrArg some (ahz h).symm
theorem Ze {d:Dt} (hb:d.bulk≤10000000) (h:HasTy Tryz.prog 110 d) (m:Nat) (hm:8*d.bulk+1≤m):yX (m+1) d=some d:=by
 obtain⟨q,rfl⟩:∃q,m=q+1:=⟨m-1,by omega⟩
 have l0:=aD d 0
 have f1:=aB d 1
 rw[yX,cStr q _ (by omega),Option.bind_some,oN (Dt.fld d 1) (by omega) (fQ h) (q+1) (by omega),Option.bind_some]
 exact congrArg some (MB h).symm
theorem xO (m:Nat) (B:Nat) (hB:B≤10000000) (l:List Dt) (hb:∀e∈l,e.bulk≤B) (hl:l.length≤B) (hm:8*B+10≤m) (h:∀e∈l,HasTy Tryz.prog 110 e):i22 m l=some l:=by
 obtain⟨q,rfl⟩:∃q,m=q+2:=⟨m-2,by omega⟩
 exact aCZ (q+1) l (by omega) (by omega) fun e he=>Ze (by have:=hb e he;omega) (h e he) q (by have:=hb e he;omega)
theorem ahJ (m:Nat) (B:Nat) (hB:B≤10000000) (l:List Dt) (hb:∀e∈l,e.bulk≤B) (hl:l.length≤B) (hm:B+10≤m) (h:∀e∈l,HasTy Tryz.prog 26 e):i34 m l=some l:=by
 obtain⟨q,rfl⟩:∃q,m=q+2:=⟨m-2,by omega⟩
 refine aC3 (q+1) l (by omega) (by omega) fun e he=>?_
 have e1:=(aM Tryz.underlying26 (h e he)).1
 have e2:=hb e he
 have e3:e.toLst.length≤e.bulk:=by
  cases e with
  |lst es=>have:=bf es;simp only[Dt.bulk,Dt.toLst];omega
  |_=>simp[Dt.toLst]
 exact⟨cStr q _ (by omega),e1.symm⟩
theorem ahK {d:Dt} (hb:d.bulk≤10000000) (h:HasTy Tryz.prog 45 d) (m:Nat) (hm:8*d.bulk+20≤m):yZ (m+1) d=some d:=by
 obtain⟨q,rfl⟩:∃q,m=q+4:=⟨m-4,by omega⟩
 have l1:=aD d 1
 have l3:=aD d 3
 have l4:=aD d 4
 have h1:=ahJ (q+4) d.bulk hb (Dt.L d 1) (fun e he=>Nat.le_of_lt (aL he)) (by omega) (by omega) (MC h)
 have h3:i66 (q+4) (Dt.L d 3)=some (Dt.L d 3):=aCY (q+3) _ (by omega) (by omega) fun e he=>aAA (q+1) (by have:=aL he;omega) (ME h e he)
 have h4:=xO (q+4) d.bulk hb (Dt.L d 4) (fun e he=>Nat.le_of_lt (aL he)) (by omega) (by omega) (kJ h)
 rw[yZ,h1,Option.bind_some,h3,Option.bind_some,h4,Option.bind_some]
 exact congrArg some (QL h).symm
theorem aF3 {d:Dt} (hb:d.bulk≤10000000) (h:HasTy Tryz.prog 114 d) (m:Nat) (hm:8*d.bulk+10≤m):vC (m+1) d=some d:=by
 obtain⟨q,rfl⟩:∃q,m=q+3:=⟨m-3,by omega⟩
 have l3:=aD d 3
 have f2:=aB d 2
 rw[vC,oN (Dt.fld d 2) (by omega) (IJ h) (q+3) (by omega),Option.bind_some,vP q (Dt.L d 3) (fun e he=>by have:=aL he;omega) (by omega) (by omega) (ar0 h),Option.bind_some]
 exact congrArg some (aAw h).symm
theorem cOut {d:Dt} (hb:d.bulk≤10000000) (h:HasTy Tryz.prog 118 d) (m:Nat) (hm:8*d.bulk+10≤m):vD (m+1) d=some d:=by
 have f2:=aB d 2
 rw[vD,oN (Dt.fld d 2) (by omega) (IK h) m (by omega),Option.bind_some]
 exact congrArg some (aAx h).symm
theorem QS:∀(N:Nat) (d:Dt),d.bulk≤N→N≤10000000→HasTy Tryz.prog 71 d→∀m,32*N≤m→yJ (m+1) d=some d
 |0,d,h,_,_,_,_=>by have:=aR d;omega
 |N+1,d,h,hN,ht,m,hm=>by
  obtain⟨q,rfl⟩:∃q,m=q+6:=⟨m-6,by omega⟩
  have f1:=aB d 1
  have f2:=aB d 2
  have f9:=aB d 9
  have f10:=aB d 10
  have f11:=aB d 11
  have f12:=aB d 12
  have f15:=aB d 15
  have f16:=aB d 16
  have f100:=aB (Dt.fld d 10) 0
  have f110:=aB (Dt.fld d 11) 0
  have l3:=aD d 3
  have l4:=aD d 4
  have l6:=aD d 6
  have aF6:=aD (Dt.fld d 10) 1
  have Jg:=aD (Dt.fld d 11) 1
  have aGa:=aD (Dt.fld d 11) 2
  have l121:=aD (Dt.fld d 12) 1
  have l122:=aD (Dt.fld d 12) 2
  have l124:=aD (Dt.fld d 12) 4
  have l13:=aD d 13
  have l14:=aD d 14
  have l151:=aD (Dt.fld d 15) 1
  have t10:=oI ht
  have t11:=oJ ht
  have t12:=oK ht
  have t15:=QN ht
  have g0:yH (q+6) (Dt.fld d 1)=some (Dt.fld d 1):=av7 (Dt.fld d 1).bulk _ (Nat.le_refl _) (by omega) (sS ht) (q+5) (by omega)
  have g1:yZ (q+6) (Dt.fld d 2)=some (Dt.fld d 2):=ahK (by omega) (sU ht) (q+5) (by omega)
  have g2:=xO (q+6) (N+1) hN (Dt.L d 3) (fun e he=>by have:=aL he;omega) (by omega) (by omega) (sV ht)
  have g3:i12 (q+6) (Dt.L d 4)=some (Dt.L d 4):=vP (q+3) _ (fun e he=>by have:=aL he;omega) (by omega) (by omega) (Fp ht)
  have g4:zW (q+6) (Dt.L d 6)=some (Dt.L d 6):=cStr (q+5) _ (by omega)
  have g5:=oN (Dt.fld d 9) (by omega) (lV ht) (q+6) (by omega)
  have g6:=oN (Dt.fld (Dt.fld d 10) 0) (by omega) (sO t10) (q+6) (by omega)
  have g7:i26 (q+6) (Dt.L (Dt.fld d 10) 1)=some (Dt.L (Dt.fld d 10) 1):=aC0 (q+5) _ (by omega) (by omega) fun e he=>aF3 (by have:=aL he;omega) (sP t10 e he) (q+4) (by have:=aL he;omega)
  have g8:=oN (Dt.fld (Dt.fld d 11) 0) (by omega) (oF t11) (q+6) (by omega)
  have g9:i12 (q+6) (Dt.L (Dt.fld d 11) 1)=some (Dt.L (Dt.fld d 11) 1):=vP (q+3) _ (fun e he=>by have:=aL he;omega) (by omega) (by omega) (QM t11)
  have g10:i28 (q+6) (Dt.L (Dt.fld d 11) 2)=some (Dt.L (Dt.fld d 11) 2):=aC1 (q+5) _ (by omega) (by omega) fun e he=>cOut (by have:=aL he;omega) (oG t11 e he) (q+4) (by have:=aL he;omega)
  have g11:zW (q+6) (Dt.L (Dt.fld d 12) 1)=some (Dt.L (Dt.fld d 12) 1):=cStr (q+5) _ (by omega)
  have g12:zW (q+6) (Dt.L (Dt.fld d 12) 2)=some (Dt.L (Dt.fld d 12) 2):=cStr (q+5) _ (by omega)
  have g13:i10 (q+6) (Dt.L (Dt.fld d 12) 4)=some (Dt.L (Dt.fld d 12) 4):=ahH (q+5) _ (by omega) (by omega) fun e he=>QS N e (by have:=aL he;omega) (by omega) (oH t12 e he) (q+4) (by omega)
  have g14:i30 (q+6) (Dt.L d 13)=some (Dt.L d 13):=aC2 (q+5) _ (by omega) (by omega) fun f hf=>by
   have hb:=aL hf
   have l1:=aD f 1
   have tf:=oL ht f hf
   have g:i10 (q+4) (Dt.L f 1)=some (Dt.L f 1):=ahH (q+3) _ (by omega) (by omega) fun e he=>QS N e (by have:=aL he;omega) (by omega) (sQ tf e he) (q+2) (by omega)
   rw[yM,g,Option.bind_some]
   exact congrArg some (ahB tf).symm
  have g15:i32 (q+6) (Dt.L d 14)=some (Dt.L d 14):=ahG (q+5) _ (by omega) (by omega) fun e he=>Vj e (by have:=aL he;omega) (oM ht e he) (q+5) (by have:=aL he;omega)
  have g16:=ahJ (q+6) (N+1) hN (Dt.L (Dt.fld d 15) 1) (fun e he=>by have:=aL he;omega) (by omega) (by omega) (Zd t15)
  have g17:yY (q+6) (Dt.fld d 16)=some (Dt.fld d 16):=ahI (q+5) (by omega) (QO ht)
  rw[yJ,g0,Option.bind_some,g1,Option.bind_some,g2,Option.bind_some,g3,Option.bind_some,g4,Option.bind_some,g5,Option.bind_some,g6,Option.bind_some,g7,Option.bind_some,g8,Option.bind_some,g9,Option.bind_some,g10,Option.bind_some,g11,Option.bind_some,g12,Option.bind_some,g13,Option.bind_some,g14,Option.bind_some,g15,Option.bind_some,g16,Option.bind_some,g17,Option.bind_some]
  rw[←ahA t10,←Zb t11,←Zc t12,←ahC t15]
  exact congrArg some (ahD ht).symm
end Go.Proofs.YtjnkagkoolbodaaGreatDoor
