/- Data of the struct types, put together again; the types of their parts (printed by qre.py).
Copies of lists are the lists (printed by qcp.py).
Copies are what they copy. -/
import Derived.Test.YtjnkagkoolbodaaGreatDoorMA
import Derived.Test.YtjnkagkoolbodaaGreatDoorMC
set_option linter.unusedVariables false
set_option linter.unusedSimpArgs false
namespace Go.Proofs.YtjnkagkoolbodaaGreatDoor
open Go.Am
theorem aNw {d:Dt} (h:HasTy Tryz.prog 36 d):d= .agg [.int (Dt.I d 0),.lst (Dt.L d 1),.str (Dt.S d 2),.lst (Dt.L d 3),Dt.fld d 4,.int (Dt.I d 5),.lst (Dt.L d 6)]:=by
 obtain⟨⟨ds,e,hl⟩,hf⟩:=bP Tryz.underlying36 h
 have hl:ds.length=7:=hl
 have e0:=(uP Tryz.underlying3 (show HasTy Tryz.prog 3 (d.fld 0) from hf 0 _ rfl)).1
 have e1:=(bU Tryz.underlying26 (show HasTy Tryz.prog 26 (d.fld 1) from hf 1 _ rfl)).1
 have e2:=(Vp Tryz.underlying9 (show HasTy Tryz.prog 9 (d.fld 2) from hf 2 _ rfl)).1
 have e3:=(bU Tryz.underlying26 (show HasTy Tryz.prog 26 (d.fld 3) from hf 3 _ rfl)).1
 have e5:=(uP Tryz.underlying3 (show HasTy Tryz.prog 3 (d.fld 5) from hf 5 _ rfl)).1
 have e6:=(bU Tryz.underlying34 (show HasTy Tryz.prog 34 (d.fld 6) from hf 6 _ rfl)).1
 subst e
 match ds,hl with
 | [x0,x1,x2,x3,x4,x5,x6],_=>
   have e0:x0= .int x0.toInt:=e0
   have e1:x1= .lst x1.toLst:=e1
   have e2:x2= .str x2.toStr:=e2
   have e3:x3= .lst x3.toLst:=e3
   have e5:x5= .int x5.toInt:=e5
   have e6:x6= .lst x6.toLst:=e6
   show Dt.agg [x0,x1,x2,x3,x4,x5,x6]=Dt.agg [.int x0.toInt,.lst x1.toLst,.str x2.toStr,.lst x3.toLst,x4,.int x5.toInt,.lst x6.toLst]
   rw[←e0,←e1,←e2,←e3,←e5,←e6]
theorem avm {d:Dt} (h:HasTy Tryz.prog 36 d):HasTy Tryz.prog 30 (Dt.fld d 4):=(bP Tryz.underlying36 h).2 4 _ rfl
theorem avn {d:Dt} (h:HasTy Tryz.prog 36 d):∀e∈Dt.L d 6,HasTy Tryz.prog 36 e:=(bU (E:=36) Tryz.underlying34 ((bP Tryz.underlying36 h).2 6 _ rfl)).2.2
theorem aII {d:Dt} (h:HasTy Tryz.prog 33 d):d= .agg [.int (Dt.I d 0),.lst (Dt.L d 1),.int (Dt.I d 2)]:=by
 obtain⟨⟨ds,e,hl⟩,hf⟩:=bP Tryz.underlying33 h
 have hl:ds.length=3:=hl
 have e0:=(uP Tryz.underlying3 (show HasTy Tryz.prog 3 (d.fld 0) from hf 0 _ rfl)).1
 have e1:=(bU Tryz.underlying31 (show HasTy Tryz.prog 31 (d.fld 1) from hf 1 _ rfl)).1
 have e2:=(uP Tryz.underlying3 (show HasTy Tryz.prog 3 (d.fld 2) from hf 2 _ rfl)).1
 subst e
 match ds,hl with
 | [x0,x1,x2],_=>
   have e0:x0= .int x0.toInt:=e0
   have e1:x1= .lst x1.toLst:=e1
   have e2:x2= .int x2.toInt:=e2
   show Dt.agg [x0,x1,x2]=Dt.agg [.int x0.toInt,.lst x1.toLst,.int x2.toInt]
   rw[←e0,←e1,←e2]
theorem aAL {d:Dt} (h:HasTy Tryz.prog 39 d):d= .agg [.int (Dt.I d 0),.lst (Dt.L d 1),Dt.fld d 2,.lst (Dt.L d 3),.int (Dt.I d 4),.int (Dt.I d 5),Dt.fld d 6,Dt.fld d 7,.lst (Dt.L d 8)]:=by
 obtain⟨⟨ds,e,hl⟩,hf⟩:=bP Tryz.underlying39 h
 have hl:ds.length=9:=hl
 have e0:=(uP Tryz.underlying3 (show HasTy Tryz.prog 3 (d.fld 0) from hf 0 _ rfl)).1
 have e1:=(bU Tryz.underlying26 (show HasTy Tryz.prog 26 (d.fld 1) from hf 1 _ rfl)).1
 have e3:=(bU Tryz.underlying27 (show HasTy Tryz.prog 27 (d.fld 3) from hf 3 _ rfl)).1
 have e4:=(uP Tryz.underlying3 (show HasTy Tryz.prog 3 (d.fld 4) from hf 4 _ rfl)).1
 have e5:=(uP Tryz.underlying3 (show HasTy Tryz.prog 3 (d.fld 5) from hf 5 _ rfl)).1
 have e8:=(bU Tryz.underlying37 (show HasTy Tryz.prog 37 (d.fld 8) from hf 8 _ rfl)).1
 subst e
 match ds,hl with
 | [x0,x1,x2,x3,x4,x5,x6,x7,x8],_=>
   have e0:x0= .int x0.toInt:=e0
   have e1:x1= .lst x1.toLst:=e1
   have e3:x3= .lst x3.toLst:=e3
   have e4:x4= .int x4.toInt:=e4
   have e5:x5= .int x5.toInt:=e5
   have e8:x8= .lst x8.toLst:=e8
   show Dt.agg [x0,x1,x2,x3,x4,x5,x6,x7,x8]=Dt.agg [.int x0.toInt,.lst x1.toLst,x2,.lst x3.toLst,.int x4.toInt,.int x5.toInt,x6,x7,.lst x8.toLst]
   rw[←e0,←e1,←e3,←e4,←e5,←e8]
theorem aeC {d:Dt} (h:HasTy Tryz.prog 39 d):HasTy Tryz.prog 30 (Dt.fld d 2):=(bP Tryz.underlying39 h).2 2 _ rfl
theorem aeD {d:Dt} (h:HasTy Tryz.prog 39 d):∀e∈Dt.L d 3,HasTy Tryz.prog 30 e:=(bU (E:=30) Tryz.underlying27 ((bP Tryz.underlying39 h).2 3 _ rfl)).2.2
theorem aIJ {d:Dt} (h:HasTy Tryz.prog 39 d):HasTy Tryz.prog 33 (Dt.fld d 6):=(bP Tryz.underlying39 h).2 6 _ rfl
theorem aeE {d:Dt} (h:HasTy Tryz.prog 39 d):HasTy Tryz.prog 36 (Dt.fld d 7):=(bP Tryz.underlying39 h).2 7 _ rfl
theorem aeF {d:Dt} (h:HasTy Tryz.prog 39 d):∀e∈Dt.L d 8,HasTy Tryz.prog 39 e:=(bU (E:=39) Tryz.underlying37 ((bP Tryz.underlying39 h).2 8 _ rfl)).2.2
theorem aIK {d:Dt} (h:HasTy Tryz.prog 73 d):d= .agg [.lst (Dt.L d 0),.bool (Dt.B d 1)]:=by
 obtain⟨⟨ds,e,hl⟩,hf⟩:=bP Tryz.underlying73 h
 have hl:ds.length=2:=hl
 have e0:=(bU Tryz.underlying26 (show HasTy Tryz.prog 26 (d.fld 0) from hf 0 _ rfl)).1
 have e1:=aff Tryz.underlying4 (show HasTy Tryz.prog 4 (d.fld 1) from hf 1 _ rfl)
 subst e
 match ds,hl with
 | [x0,x1],_=>
   have e0:x0= .lst x0.toLst:=e0
   have e1:x1= .bool x1.toBool:=e1
   show Dt.agg [x0,x1]=Dt.agg [.lst x0.toLst,.bool x1.toBool]
   rw[←e0,←e1]
theorem aIL {d:Dt} (h:HasTy Tryz.prog 106 d):d= .agg [.lst (Dt.L d 0),.int (Dt.I d 1),.int (Dt.I d 2)]:=by
 obtain⟨⟨ds,e,hl⟩,hf⟩:=bP Tryz.underlying106 h
 have hl:ds.length=3:=hl
 have e0:=(bU Tryz.underlying26 (show HasTy Tryz.prog 26 (d.fld 0) from hf 0 _ rfl)).1
 have e1:=(uP Tryz.underlying3 (show HasTy Tryz.prog 3 (d.fld 1) from hf 1 _ rfl)).1
 have e2:=(uP Tryz.underlying3 (show HasTy Tryz.prog 3 (d.fld 2) from hf 2 _ rfl)).1
 subst e
 match ds,hl with
 | [x0,x1,x2],_=>
   have e0:x0= .lst x0.toLst:=e0
   have e1:x1= .int x1.toInt:=e1
   have e2:x2= .int x2.toInt:=e2
   show Dt.agg [x0,x1,x2]=Dt.agg [.lst x0.toLst,.int x1.toInt,.int x2.toInt]
   rw[←e0,←e1,←e2]
theorem avo {d:Dt} (h:HasTy Tryz.prog 110 d):d= .agg [.lst (Dt.L d 0),Dt.fld d 1]:=by
 obtain⟨⟨ds,e,hl⟩,hf⟩:=bP Tryz.underlying110 h
 have hl:ds.length=2:=hl
 have e0:=(bU Tryz.underlying26 (show HasTy Tryz.prog 26 (d.fld 0) from hf 0 _ rfl)).1
 subst e
 match ds,hl with
 | [x0,x1],_=>
   have e0:x0= .lst x0.toLst:=e0
   show Dt.agg [x0,x1]=Dt.agg [.lst x0.toLst,x1]
   rw[←e0]
theorem Ah {d:Dt} (h:HasTy Tryz.prog 110 d):HasTy Tryz.prog 36 (Dt.fld d 1):=(bP Tryz.underlying110 h).2 1 _ rfl
theorem axj {d:Dt} (h:HasTy Tryz.prog 45 d):d= .agg [.bool (Dt.B d 0),.lst (Dt.L d 1),.bool (Dt.B d 2),.lst (Dt.L d 3),.lst (Dt.L d 4)]:=by
 obtain⟨⟨ds,e,hl⟩,hf⟩:=bP Tryz.underlying45 h
 have hl:ds.length=5:=hl
 have e0:=aff Tryz.underlying4 (show HasTy Tryz.prog 4 (d.fld 0) from hf 0 _ rfl)
 have e1:=(bU Tryz.underlying41 (show HasTy Tryz.prog 41 (d.fld 1) from hf 1 _ rfl)).1
 have e2:=aff Tryz.underlying4 (show HasTy Tryz.prog 4 (d.fld 2) from hf 2 _ rfl)
 have e3:=(bU Tryz.underlying42 (show HasTy Tryz.prog 42 (d.fld 3) from hf 3 _ rfl)).1
 have e4:=(bU Tryz.underlying43 (show HasTy Tryz.prog 43 (d.fld 4) from hf 4 _ rfl)).1
 subst e
 match ds,hl with
 | [x0,x1,x2,x3,x4],_=>
   have e0:x0= .bool x0.toBool:=e0
   have e1:x1= .lst x1.toLst:=e1
   have e2:x2= .bool x2.toBool:=e2
   have e3:x3= .lst x3.toLst:=e3
   have e4:x4= .lst x4.toLst:=e4
   show Dt.agg [x0,x1,x2,x3,x4]=Dt.agg [.bool x0.toBool,.lst x1.toLst,.bool x2.toBool,.lst x3.toLst,.lst x4.toLst]
   rw[←e0,←e1,←e2,←e3,←e4]
theorem avp {d:Dt} (h:HasTy Tryz.prog 45 d):∀e∈Dt.L d 1,HasTy Tryz.prog 26 e:=(bU (E:=26) Tryz.underlying41 ((bP Tryz.underlying45 h).2 1 _ rfl)).2.2
theorem avq {d:Dt} (h:HasTy Tryz.prog 45 d):∀e∈Dt.L d 3,HasTy Tryz.prog 106 e:=(bU (E:=106) Tryz.underlying42 ((bP Tryz.underlying45 h).2 3 _ rfl)).2.2
theorem KX {d:Dt} (h:HasTy Tryz.prog 45 d):∀e∈Dt.L d 4,HasTy Tryz.prog 110 e:=(bU (E:=110) Tryz.underlying43 ((bP Tryz.underlying45 h).2 4 _ rfl)).2.2
theorem aUW {d:Dt} (h:HasTy Tryz.prog 114 d):d= .agg [.str (Dt.S d 0),.int (Dt.I d 1),Dt.fld d 2,.lst (Dt.L d 3),.int (Dt.I d 4)]:=by
 obtain⟨⟨ds,e,hl⟩,hf⟩:=bP Tryz.underlying114 h
 have hl:ds.length=5:=hl
 have e0:=(Vp Tryz.underlying9 (show HasTy Tryz.prog 9 (d.fld 0) from hf 0 _ rfl)).1
 have e1:=(uP Tryz.underlying3 (show HasTy Tryz.prog 3 (d.fld 1) from hf 1 _ rfl)).1
 have e3:=(bU Tryz.underlying40 (show HasTy Tryz.prog 40 (d.fld 3) from hf 3 _ rfl)).1
 have e4:=(uP Tryz.underlying3 (show HasTy Tryz.prog 3 (d.fld 4) from hf 4 _ rfl)).1
 subst e
 match ds,hl with
 | [x0,x1,x2,x3,x4],_=>
   have e0:x0= .str x0.toStr:=e0
   have e1:x1= .int x1.toInt:=e1
   have e3:x3= .lst x3.toLst:=e3
   have e4:x4= .int x4.toInt:=e4
   show Dt.agg [x0,x1,x2,x3,x4]=Dt.agg [.str x0.toStr,.int x1.toInt,x2,.lst x3.toLst,.int x4.toInt]
   rw[←e0,←e1,←e3,←e4]
theorem arX {d:Dt} (h:HasTy Tryz.prog 114 d):HasTy Tryz.prog 36 (Dt.fld d 2):=(bP Tryz.underlying114 h).2 2 _ rfl
theorem aNx {d:Dt} (h:HasTy Tryz.prog 114 d):∀e∈Dt.L d 3,HasTy Tryz.prog 73 e:=(bU (E:=73) Tryz.underlying40 ((bP Tryz.underlying114 h).2 3 _ rfl)).2.2
theorem aIM {d:Dt} (h:HasTy Tryz.prog 61 d):d= .agg [Dt.fld d 0,.lst (Dt.L d 1)]:=by
 obtain⟨⟨ds,e,hl⟩,hf⟩:=bP Tryz.underlying61 h
 have hl:ds.length=2:=hl
 have e1:=(bU Tryz.underlying59 (show HasTy Tryz.prog 59 (d.fld 1) from hf 1 _ rfl)).1
 subst e
 match ds,hl with
 | [x0,x1],_=>
   have e1:x1= .lst x1.toLst:=e1
   show Dt.agg [x0,x1]=Dt.agg [x0,.lst x1.toLst]
   rw[←e1]
theorem ahJ {d:Dt} (h:HasTy Tryz.prog 61 d):HasTy Tryz.prog 36 (Dt.fld d 0):=(bP Tryz.underlying61 h).2 0 _ rfl
theorem ahK {d:Dt} (h:HasTy Tryz.prog 61 d):∀e∈Dt.L d 1,HasTy Tryz.prog 114 e:=(bU (E:=114) Tryz.underlying59 ((bP Tryz.underlying61 h).2 1 _ rfl)).2.2
theorem aUX {d:Dt} (h:HasTy Tryz.prog 118 d):d= .agg [.str (Dt.S d 0),.int (Dt.I d 1),Dt.fld d 2,.int (Dt.I d 3),.int (Dt.I d 4),.bool (Dt.B d 5)]:=by
 obtain⟨⟨ds,e,hl⟩,hf⟩:=bP Tryz.underlying118 h
 have hl:ds.length=6:=hl
 have e0:=(Vp Tryz.underlying9 (show HasTy Tryz.prog 9 (d.fld 0) from hf 0 _ rfl)).1
 have e1:=(uP Tryz.underlying3 (show HasTy Tryz.prog 3 (d.fld 1) from hf 1 _ rfl)).1
 have e3:=(uP Tryz.underlying3 (show HasTy Tryz.prog 3 (d.fld 3) from hf 3 _ rfl)).1
 have e4:=(uP Tryz.underlying3 (show HasTy Tryz.prog 3 (d.fld 4) from hf 4 _ rfl)).1
 have e5:=aff Tryz.underlying4 (show HasTy Tryz.prog 4 (d.fld 5) from hf 5 _ rfl)
 subst e
 match ds,hl with
 | [x0,x1,x2,x3,x4,x5],_=>
   have e0:x0= .str x0.toStr:=e0
   have e1:x1= .int x1.toInt:=e1
   have e3:x3= .int x3.toInt:=e3
   have e4:x4= .int x4.toInt:=e4
   have e5:x5= .bool x5.toBool:=e5
   show Dt.agg [x0,x1,x2,x3,x4,x5]=Dt.agg [.str x0.toStr,.int x1.toInt,x2,.int x3.toInt,.int x4.toInt,.bool x5.toBool]
   rw[←e0,←e1,←e3,←e4,←e5]
theorem arY {d:Dt} (h:HasTy Tryz.prog 118 d):HasTy Tryz.prog 36 (Dt.fld d 2):=(bP Tryz.underlying118 h).2 2 _ rfl
theorem aC3 {d:Dt} (h:HasTy Tryz.prog 64 d):d= .agg [Dt.fld d 0,.lst (Dt.L d 1),.lst (Dt.L d 2)]:=by
 obtain⟨⟨ds,e,hl⟩,hf⟩:=bP Tryz.underlying64 h
 have hl:ds.length=3:=hl
 have e1:=(bU Tryz.underlying40 (show HasTy Tryz.prog 40 (d.fld 1) from hf 1 _ rfl)).1
 have e2:=(bU Tryz.underlying62 (show HasTy Tryz.prog 62 (d.fld 2) from hf 2 _ rfl)).1
 subst e
 match ds,hl with
 | [x0,x1,x2],_=>
   have e1:x1= .lst x1.toLst:=e1
   have e2:x2= .lst x2.toLst:=e2
   show Dt.agg [x0,x1,x2]=Dt.agg [x0,.lst x1.toLst,.lst x2.toLst]
   rw[←e1,←e2]
theorem aaJ {d:Dt} (h:HasTy Tryz.prog 64 d):HasTy Tryz.prog 36 (Dt.fld d 0):=(bP Tryz.underlying64 h).2 0 _ rfl
theorem axk {d:Dt} (h:HasTy Tryz.prog 64 d):∀e∈Dt.L d 1,HasTy Tryz.prog 73 e:=(bU (E:=73) Tryz.underlying40 ((bP Tryz.underlying64 h).2 1 _ rfl)).2.2
theorem aaK {d:Dt} (h:HasTy Tryz.prog 64 d):∀e∈Dt.L d 2,HasTy Tryz.prog 118 e:=(bU (E:=118) Tryz.underlying62 ((bP Tryz.underlying64 h).2 2 _ rfl)).2.2
theorem aC4 {d:Dt} (h:HasTy Tryz.prog 66 d):d= .agg [.str (Dt.S d 0),.lst (Dt.L d 1),.lst (Dt.L d 2),.str (Dt.S d 3),.lst (Dt.L d 4)]:=by
 obtain⟨⟨ds,e,hl⟩,hf⟩:=bP Tryz.underlying66 h
 have hl:ds.length=5:=hl
 have e0:=(Vp Tryz.underlying9 (show HasTy Tryz.prog 9 (d.fld 0) from hf 0 _ rfl)).1
 have e1:=(bU Tryz.underlying26 (show HasTy Tryz.prog 26 (d.fld 1) from hf 1 _ rfl)).1
 have e2:=(bU Tryz.underlying26 (show HasTy Tryz.prog 26 (d.fld 2) from hf 2 _ rfl)).1
 have e3:=(Vp Tryz.underlying9 (show HasTy Tryz.prog 9 (d.fld 3) from hf 3 _ rfl)).1
 have e4:=(bU Tryz.underlying22 (show HasTy Tryz.prog 22 (d.fld 4) from hf 4 _ rfl)).1
 subst e
 match ds,hl with
 | [x0,x1,x2,x3,x4],_=>
   have e0:x0= .str x0.toStr:=e0
   have e1:x1= .lst x1.toLst:=e1
   have e2:x2= .lst x2.toLst:=e2
   have e3:x3= .str x3.toStr:=e3
   have e4:x4= .lst x4.toLst:=e4
   show Dt.agg [x0,x1,x2,x3,x4]=Dt.agg [.str x0.toStr,.lst x1.toLst,.lst x2.toLst,.str x3.toStr,.lst x4.toLst]
   rw[←e0,←e1,←e2,←e3,←e4]
theorem aaL {d:Dt} (h:HasTy Tryz.prog 66 d):∀e∈Dt.L d 4,HasTy Tryz.prog 71 e:=(bU (E:=71) Tryz.underlying22 ((bP Tryz.underlying66 h).2 4 _ rfl)).2.2
theorem aIN {d:Dt} (h:HasTy Tryz.prog 122 d):d= .agg [.str (Dt.S d 0),.lst (Dt.L d 1)]:=by
 obtain⟨⟨ds,e,hl⟩,hf⟩:=bP Tryz.underlying122 h
 have hl:ds.length=2:=hl
 have e0:=(Vp Tryz.underlying9 (show HasTy Tryz.prog 9 (d.fld 0) from hf 0 _ rfl)).1
 have e1:=(bU Tryz.underlying22 (show HasTy Tryz.prog 22 (d.fld 1) from hf 1 _ rfl)).1
 subst e
 match ds,hl with
 | [x0,x1],_=>
   have e0:x0= .str x0.toStr:=e0
   have e1:x1= .lst x1.toLst:=e1
   show Dt.agg [x0,x1]=Dt.agg [.str x0.toStr,.lst x1.toLst]
   rw[←e0,←e1]
theorem ahL {d:Dt} (h:HasTy Tryz.prog 122 d):∀e∈Dt.L d 1,HasTy Tryz.prog 71 e:=(bU (E:=71) Tryz.underlying22 ((bP Tryz.underlying122 h).2 1 _ rfl)).2.2
theorem aIO {d:Dt} (h:HasTy Tryz.prog 69 d):d= .agg [.str (Dt.S d 0),.lst (Dt.L d 1),.int (Dt.I d 2),.int (Dt.I d 3)]:=by
 obtain⟨⟨ds,e,hl⟩,hf⟩:=bP Tryz.underlying69 h
 have hl:ds.length=4:=hl
 have e0:=(Vp Tryz.underlying9 (show HasTy Tryz.prog 9 (d.fld 0) from hf 0 _ rfl)).1
 have e1:=(bU Tryz.underlying41 (show HasTy Tryz.prog 41 (d.fld 1) from hf 1 _ rfl)).1
 have e2:=(uP Tryz.underlying3 (show HasTy Tryz.prog 3 (d.fld 2) from hf 2 _ rfl)).1
 have e3:=(uP Tryz.underlying3 (show HasTy Tryz.prog 3 (d.fld 3) from hf 3 _ rfl)).1
 subst e
 match ds,hl with
 | [x0,x1,x2,x3],_=>
   have e0:x0= .str x0.toStr:=e0
   have e1:x1= .lst x1.toLst:=e1
   have e2:x2= .int x2.toInt:=e2
   have e3:x3= .int x3.toInt:=e3
   show Dt.agg [x0,x1,x2,x3]=Dt.agg [.str x0.toStr,.lst x1.toLst,.int x2.toInt,.int x3.toInt]
   rw[←e0,←e1,←e2,←e3]
theorem aC5 {d:Dt} (h:HasTy Tryz.prog 69 d):∀e∈Dt.L d 1,HasTy Tryz.prog 26 e:=(bU (E:=26) Tryz.underlying41 ((bP Tryz.underlying69 h).2 1 _ rfl)).2.2
theorem aIP {d:Dt} (h:HasTy Tryz.prog 71 d):d= .agg [.int (Dt.I d 0),Dt.fld d 1,Dt.fld d 2,.lst (Dt.L d 3),.lst (Dt.L d 4),.int (Dt.I d 5),.lst (Dt.L d 6),.str (Dt.S d 7),.bool (Dt.B d 8),Dt.fld d 9,Dt.fld d 10,Dt.fld d 11,Dt.fld d 12,.lst (Dt.L d 13),.lst (Dt.L d 14),Dt.fld d 15,Dt.fld d 16]:=by
 obtain⟨⟨ds,e,hl⟩,hf⟩:=bP Tryz.underlying71 h
 have hl:ds.length=17:=hl
 have e0:=(uP Tryz.underlying3 (show HasTy Tryz.prog 3 (d.fld 0) from hf 0 _ rfl)).1
 have e3:=(bU Tryz.underlying43 (show HasTy Tryz.prog 43 (d.fld 3) from hf 3 _ rfl)).1
 have e4:=(bU Tryz.underlying40 (show HasTy Tryz.prog 40 (d.fld 4) from hf 4 _ rfl)).1
 have e5:=(uP Tryz.underlying3 (show HasTy Tryz.prog 3 (d.fld 5) from hf 5 _ rfl)).1
 have e6:=(bU Tryz.underlying26 (show HasTy Tryz.prog 26 (d.fld 6) from hf 6 _ rfl)).1
 have e7:=(Vp Tryz.underlying9 (show HasTy Tryz.prog 9 (d.fld 7) from hf 7 _ rfl)).1
 have e8:=aff Tryz.underlying4 (show HasTy Tryz.prog 4 (d.fld 8) from hf 8 _ rfl)
 have e13:=(bU Tryz.underlying67 (show HasTy Tryz.prog 67 (d.fld 13) from hf 13 _ rfl)).1
 have e14:=(bU Tryz.underlying27 (show HasTy Tryz.prog 27 (d.fld 14) from hf 14 _ rfl)).1
 subst e
 match ds,hl with
 | [x0,x1,x2,x3,x4,x5,x6,x7,x8,x9,x10,x11,x12,x13,x14,x15,x16],_=>
   have e0:x0= .int x0.toInt:=e0
   have e3:x3= .lst x3.toLst:=e3
   have e4:x4= .lst x4.toLst:=e4
   have e5:x5= .int x5.toInt:=e5
   have e6:x6= .lst x6.toLst:=e6
   have e7:x7= .str x7.toStr:=e7
   have e8:x8= .bool x8.toBool:=e8
   have e13:x13= .lst x13.toLst:=e13
   have e14:x14= .lst x14.toLst:=e14
   show Dt.agg [x0,x1,x2,x3,x4,x5,x6,x7,x8,x9,x10,x11,x12,x13,x14,x15,x16]=Dt.agg [.int x0.toInt,x1,x2,.lst x3.toLst,.lst x4.toLst,.int x5.toInt,.lst x6.toLst,.str x7.toStr,.bool x8.toBool,x9,x10,x11,x12,.lst x13.toLst,.lst x14.toLst,x15,x16]
   rw[←e0,←e3,←e4,←e5,←e6,←e7,←e8,←e13,←e14]
theorem OL {d:Dt} (h:HasTy Tryz.prog 71 d):HasTy Tryz.prog 39 (Dt.fld d 1):=(bP Tryz.underlying71 h).2 1 _ rfl
theorem OM {d:Dt} (h:HasTy Tryz.prog 71 d):HasTy Tryz.prog 45 (Dt.fld d 2):=(bP Tryz.underlying71 h).2 2 _ rfl
theorem ahM {d:Dt} (h:HasTy Tryz.prog 71 d):∀e∈Dt.L d 3,HasTy Tryz.prog 110 e:=(bU (E:=110) Tryz.underlying43 ((bP Tryz.underlying71 h).2 3 _ rfl)).2.2
theorem aqP {d:Dt} (h:HasTy Tryz.prog 71 d):∀e∈Dt.L d 4,HasTy Tryz.prog 73 e:=(bU (E:=73) Tryz.underlying40 ((bP Tryz.underlying71 h).2 4 _ rfl)).2.2
theorem Wd {d:Dt} (h:HasTy Tryz.prog 71 d):HasTy Tryz.prog 36 (Dt.fld d 9):=(bP Tryz.underlying71 h).2 9 _ rfl
theorem aaM {d:Dt} (h:HasTy Tryz.prog 71 d):HasTy Tryz.prog 61 (Dt.fld d 10):=(bP Tryz.underlying71 h).2 10 _ rfl
theorem aaN {d:Dt} (h:HasTy Tryz.prog 71 d):HasTy Tryz.prog 64 (Dt.fld d 11):=(bP Tryz.underlying71 h).2 11 _ rfl
theorem aaO {d:Dt} (h:HasTy Tryz.prog 71 d):HasTy Tryz.prog 66 (Dt.fld d 12):=(bP Tryz.underlying71 h).2 12 _ rfl
theorem aaP {d:Dt} (h:HasTy Tryz.prog 71 d):∀e∈Dt.L d 13,HasTy Tryz.prog 122 e:=(bU (E:=122) Tryz.underlying67 ((bP Tryz.underlying71 h).2 13 _ rfl)).2.2
theorem aaQ {d:Dt} (h:HasTy Tryz.prog 71 d):∀e∈Dt.L d 14,HasTy Tryz.prog 30 e:=(bU (E:=30) Tryz.underlying27 ((bP Tryz.underlying71 h).2 14 _ rfl)).2.2
theorem axl {d:Dt} (h:HasTy Tryz.prog 71 d):HasTy Tryz.prog 69 (Dt.fld d 15):=(bP Tryz.underlying71 h).2 15 _ rfl
theorem axm {d:Dt} (h:HasTy Tryz.prog 71 d):HasTy Tryz.prog 33 (Dt.fld d 16):=(bP Tryz.underlying71 h).2 16 _ rfl
end Go.Proofs.YtjnkagkoolbodaaGreatDoor
namespace Go.Proofs.YtjnkagkoolbodaaGreatDoor
open Go.Am
theorem Uz (n:Nat) (z:Dt) (h:n≤137438953472):mkL (n:Int) (n:Int) z=some (List.replicate n z):=by
 unfold mkL
 rw[if_pos ⟨by omega,by omega,by omega⟩,Int.toNat_natCast]
theorem aWK (n:Nat) (z:Dt) (h:n≤2147483648):mkB (n:Int) (n:Int) z=some (List.replicate n z):=by
 unfold mkB
 rw[if_pos ⟨by omega,by omega,by omega⟩,Int.toNat_natCast]
theorem aIQ (l:List Dt) (z:Dt) (i:Nat) (h:i≤l.length):(l.take i++List.replicate (l.length-i) z).length=l.length:=by simp;omega
theorem aIR (l:List Dt) (z:Dt) (i:Nat) (h:i<l.length):(l.take i++List.replicate (l.length-i) z).set i l[i]=l.take (i+1)++List.replicate (l.length-(i+1)) z:=by
 have lm:(l.take i).length=i:=by simp;omega
 rw[List.set_append_right _ _ (by omega),lm,Nat.sub_self,show l.length-i=(l.length-(i+1))+1 by omega,List.replicate_succ,List.set_cons_zero,List.take_succ_eq_append_getElem h,List.append_assoc]
 rfl
theorem sQ (l:List Dt) (hl:l.length≤1000000000) (z:Dt) (F:Nat→Int→List Dt→Option (List Dt)) (h0:∀M c,F (M+1) (l.length:Int) c=some c) (hs:∀M (i:Nat) (c:List Dt) (hi:i<l.length),c.length=l.length→F (M+1) (i:Int) c=F M ((i+1:Nat):Int) (c.set i l[i])) (N:Nat) (hN:l.length<N):F N 0 (List.replicate l.length z)=some l:=by
 have key:∀(M i:Nat),i≤l.length→l.length-i<M→F M (i:Int) (l.take i++List.replicate (l.length-i) z)=some l:=by
  intro M
  induction M with
  |zero=>intro i _ h;omega
  |succ M ih=>
   intro i hi h
   by_cases hlt:i<l.length
   ·    rw[hs M i _ hlt (aIQ l z i hi),aIR l z i hlt]
        exact ih (i+1) (by omega) (by omega)
   ·    have e:i=l.length:=by omega
        subst e
        rw[h0,List.take_length,Nat.sub_self]
        simp
 have:=key N 0 (Nat.zero_le _) (by omega)
 simpa using this
theorem ED {a:Dt} {r:List Dt}:((((a::r).length:Nat):Int)==0)=false:=by rw[beq_eq_false_iff_ne,List.length_cons];omega
theorem aAM (m:Nat) (l:List Dt) (hm:l.length≤m) (hl:l.length≤1000000000) (h:∀e∈l,aS m e=some e):i31 (m+1) l=some l:=by
 have key:=fun z=>sQ l hl z (fun M i c=>aaX m (aS m) M l (l.length:Int) i c) (fun M c=>by simp only[aaX,dlt,Nat.lt_irrefl,decide_false,cond_false,amw,amx,aeM,amy,amz,amA,aeN]) (fun M i c hi hc=>by simp only[aaX,dlt,hi,decide_true,cond_true,amw,amx,aeM,amy,amz,amA,aeN,ay hi,Option.bind_some,h _ (List.getElem_mem hi),Gl (show i<c.length by omega),Int.toNat_natCast,List.getElem?_eq_getElem (show i<c.length by omega),aT (show i<9223372036854775807 by omega)]) (m+1) (by omega)
 rw[i31]
 cases l with
 |nil=>rfl
 |cons a r=>
  rw[ED,cond_false]
  simp only[amw,amx,aeM,amy,amz,amA,aeN]
  rw[Uz _ _ (by omega),Option.bind_some]
  exact key _
theorem aWL (m:Nat) (l:List Dt) (hm:l.length≤m) (hl:l.length≤1000000000) (h:∀e∈l,bn m e=some e):i79 (m+1) l=some l:=by
 have key:=fun z=>sQ l hl z (fun M i c=>aaY m (bn m) M l (l.length:Int) i c) (fun M c=>by simp only[aaY,dlt,Nat.lt_irrefl,decide_false,cond_false,amB,amC,aeO,amD,amE,amF,aeP]) (fun M i c hi hc=>by simp only[aaY,dlt,hi,decide_true,cond_true,amB,amC,aeO,amD,amE,amF,aeP,ay hi,Option.bind_some,h _ (List.getElem_mem hi),Gl (show i<c.length by omega),Int.toNat_natCast,List.getElem?_eq_getElem (show i<c.length by omega),aT (show i<9223372036854775807 by omega)]) (m+1) (by omega)
 rw[i79]
 cases l with
 |nil=>rfl
 |cons a r=>
  rw[ED,cond_false]
  simp only[amB,amC,aeO,amD,amE,amF,aeP]
  rw[Uz _ _ (by omega),Option.bind_some]
  exact key _
theorem aUY (m:Nat) (l:List Dt) (hm:l.length≤m) (hl:l.length≤1000000000) (h:∀e∈l,aK m e=some e):i81 (m+1) l=some l:=by
 have key:=fun z=>sQ l hl z (fun M i c=>aaZ m (aK m) M l (l.length:Int) i c) (fun M c=>by simp only[aaZ,dlt,Nat.lt_irrefl,decide_false,cond_false,amG,amH,aeQ,amI,amJ,amK,aeR]) (fun M i c hi hc=>by simp only[aaZ,dlt,hi,decide_true,cond_true,amG,amH,aeQ,amI,amJ,amK,aeR,ay hi,Option.bind_some,h _ (List.getElem_mem hi),Gl (show i<c.length by omega),Int.toNat_natCast,List.getElem?_eq_getElem (show i<c.length by omega),aT (show i<9223372036854775807 by omega)]) (m+1) (by omega)
 rw[i81]
 cases l with
 |nil=>rfl
 |cons a r=>
  rw[ED,cond_false]
  simp only[amG,amH,aeQ,amI,amJ,amK,aeR]
  rw[Uz _ _ (by omega),Option.bind_some]
  exact key _
theorem aSO (m:Nat) (l:List Dt) (hm:l.length≤m) (hl:l.length≤1000000000) (h:∀e∈l,aQ m e=some e):i34 (m+1) l=some l:=by
 have key:=fun z=>sQ l hl z (fun M i c=>aa0 m (aQ m) M l (l.length:Int) i c) (fun M c=>by simp only[aa0,dlt,Nat.lt_irrefl,decide_false,cond_false,amL,amM,aeS,amN,amO,amP,aeT]) (fun M i c hi hc=>by simp only[aa0,dlt,hi,decide_true,cond_true,amL,amM,aeS,amN,amO,amP,aeT,ay hi,Option.bind_some,h _ (List.getElem_mem hi),Gl (show i<c.length by omega),Int.toNat_natCast,List.getElem?_eq_getElem (show i<c.length by omega),aT (show i<9223372036854775807 by omega)]) (m+1) (by omega)
 rw[i34]
 cases l with
 |nil=>rfl
 |cons a r=>
  rw[ED,cond_false]
  simp only[amL,amM,aeS,amN,amO,amP,aeT]
  rw[Uz _ _ (by omega),Option.bind_some]
  exact key _
theorem aWM (m:Nat) (l:List Dt) (hm:l.length≤m) (hl:l.length≤1000000000) (h:∀e∈l,fG m e=some e):i12 (m+1) l=some l:=by
 have key:=fun z=>sQ l hl z (fun M i c=>aaW m M l (l.length:Int) i c) (fun M c=>by simp only[aaW,dlt,Nat.lt_irrefl,decide_false,cond_false,amr,ams,aeK,amt,amu,amv,aeL]) (fun M i c hi hc=>by simp only[aaW,dlt,hi,decide_true,cond_true,amr,ams,aeK,amt,amu,amv,aeL,ay hi,Option.bind_some,h _ (List.getElem_mem hi),Gl (show i<c.length by omega),Int.toNat_natCast,List.getElem?_eq_getElem (show i<c.length by omega),aT (show i<9223372036854775807 by omega)]) (m+1) (by omega)
 rw[i12]
 cases l with
 |nil=>rfl
 |cons a r=>
  rw[ED,cond_false]
  simp only[amr,ams,aeK,amt,amu,amv,aeL]
  rw[Uz _ _ (by omega),Option.bind_some]
  exact key _
theorem aWN (m:Nat) (l:List Dt) (hm:l.length≤m) (hl:l.length≤1000000000) (h:∀e∈l,fH m e=some e):i36 (m+1) l=some l:=by
 have key:=fun z=>sQ l hl z (fun M i c=>aa2 m M l (l.length:Int) i c) (fun M c=>by simp only[aa2,dlt,Nat.lt_irrefl,decide_false,cond_false,amV,amW,aeW,amX,amY,amZ,aeX]) (fun M i c hi hc=>by simp only[aa2,dlt,hi,decide_true,cond_true,amV,amW,aeW,amX,amY,amZ,aeX,ay hi,Option.bind_some,h _ (List.getElem_mem hi),Gl (show i<c.length by omega),Int.toNat_natCast,List.getElem?_eq_getElem (show i<c.length by omega),aT (show i<9223372036854775807 by omega)]) (m+1) (by omega)
 rw[i36]
 cases l with
 |nil=>rfl
 |cons a r=>
  rw[ED,cond_false]
  simp only[amV,amW,aeW,amX,amY,amZ,aeX]
  rw[Uz _ _ (by omega),Option.bind_some]
  exact key _
theorem aWO (m:Nat) (l:List Dt) (hm:l.length≤m) (hl:l.length≤1000000000) (h:∀e∈l,dH m e=some e):i38 (m+1) l=some l:=by
 have key:=fun z=>sQ l hl z (fun M i c=>aa3 m M l (l.length:Int) i c) (fun M c=>by simp only[aa3,dlt,Nat.lt_irrefl,decide_false,cond_false,am0,am1,aeY,am2,am3,am4,aeZ]) (fun M i c hi hc=>by simp only[aa3,dlt,hi,decide_true,cond_true,am0,am1,aeY,am2,am3,am4,aeZ,ay hi,Option.bind_some,h _ (List.getElem_mem hi),Gl (show i<c.length by omega),Int.toNat_natCast,List.getElem?_eq_getElem (show i<c.length by omega),aT (show i<9223372036854775807 by omega)]) (m+1) (by omega)
 rw[i38]
 cases l with
 |nil=>rfl
 |cons a r=>
  rw[ED,cond_false]
  simp only[am0,am1,aeY,am2,am3,am4,aeZ]
  rw[Uz _ _ (by omega),Option.bind_some]
  exact key _
theorem aWP (m:Nat) (l:List Dt) (hm:l.length≤m) (hl:l.length≤1000000000) (h:∀e∈l,iC m e=some e):i40 (m+1) l=some l:=by
 have key:=fun z=>sQ l hl z (fun M i c=>aa4 m M l (l.length:Int) i c) (fun M c=>by simp only[aa4,dlt,Nat.lt_irrefl,decide_false,cond_false,am5,am6,ae0,am7,am8,am9,ae1]) (fun M i c hi hc=>by simp only[aa4,dlt,hi,decide_true,cond_true,am5,am6,ae0,am7,am8,am9,ae1,ay hi,Option.bind_some,h _ (List.getElem_mem hi),Gl (show i<c.length by omega),Int.toNat_natCast,List.getElem?_eq_getElem (show i<c.length by omega),aT (show i<9223372036854775807 by omega)]) (m+1) (by omega)
 rw[i40]
 cases l with
 |nil=>rfl
 |cons a r=>
  rw[ED,cond_false]
  simp only[am5,am6,ae0,am7,am8,am9,ae1]
  rw[Uz _ _ (by omega),Option.bind_some]
  exact key _
theorem aWQ (m:Nat) (l:List Dt) (hm:l.length≤m) (hl:l.length≤1000000000) (h:∀e∈l,iD m e=some e):i42 (m+1) l=some l:=by
 have key:=fun z=>sQ l hl z (fun M i c=>aa5 m M l (l.length:Int) i c) (fun M c=>by simp only[aa5,dlt,Nat.lt_irrefl,decide_false,cond_false,ana,anb,ae2,anc,ane,anf,ae3]) (fun M i c hi hc=>by simp only[aa5,dlt,hi,decide_true,cond_true,ana,anb,ae2,anc,ane,anf,ae3,ay hi,Option.bind_some,h _ (List.getElem_mem hi),Gl (show i<c.length by omega),Int.toNat_natCast,List.getElem?_eq_getElem (show i<c.length by omega),aT (show i<9223372036854775807 by omega)]) (m+1) (by omega)
 rw[i42]
 cases l with
 |nil=>rfl
 |cons a r=>
  rw[ED,cond_false]
  simp only[ana,anb,ae2,anc,ane,anf,ae3]
  rw[Uz _ _ (by omega),Option.bind_some]
  exact key _
theorem aWR (m:Nat) (l:List Dt) (hm:l.length≤m) (hl:l.length≤1000000000) (h:∀e∈l,aZ m e=some e):i44 (m+1) l=some l:=by
 have key:=fun z=>sQ l hl z (fun M i c=>aa7 m (aZ m) M l (l.length:Int) i c) (fun M c=>by simp only[aa7,dlt,Nat.lt_irrefl,decide_false,cond_false,anl,anm,ae6,ano,anp,anq,ae7]) (fun M i c hi hc=>by simp only[aa7,dlt,hi,decide_true,cond_true,anl,anm,ae6,ano,anp,anq,ae7,ay hi,Option.bind_some,h _ (List.getElem_mem hi),Gl (show i<c.length by omega),Int.toNat_natCast,List.getElem?_eq_getElem (show i<c.length by omega),aT (show i<9223372036854775807 by omega)]) (m+1) (by omega)
 rw[i44]
 cases l with
 |nil=>rfl
 |cons a r=>
  rw[ED,cond_false]
  simp only[anl,anm,ae6,ano,anp,anq,ae7]
  rw[Uz _ _ (by omega),Option.bind_some]
  exact key _
theorem aIS (m:Nat) (l:List Dt) (hm:l.length≤m) (hl:l.length≤1000000000) (h:∀e∈l,aX m e=some e):i15 (m+1) l=some l:=by
 have key:=fun z=>sQ l hl z (fun M i c=>aa6 m (aX m) M l (l.length:Int) i c) (fun M c=>by simp only[aa6,dlt,Nat.lt_irrefl,decide_false,cond_false,ang,anh,ae4,ani,anj,ank,ae5]) (fun M i c hi hc=>by simp only[aa6,dlt,hi,decide_true,cond_true,ang,anh,ae4,ani,anj,ank,ae5,ay hi,Option.bind_some,h _ (List.getElem_mem hi),Gl (show i<c.length by omega),Int.toNat_natCast,List.getElem?_eq_getElem (show i<c.length by omega),aT (show i<9223372036854775807 by omega)]) (m+1) (by omega)
 rw[i15]
 cases l with
 |nil=>rfl
 |cons a r=>
  rw[ED,cond_false]
  simp only[ang,anh,ae4,ani,anj,ank,ae5]
  rw[aWK _ _ (by omega),Option.bind_some]
  exact key _
theorem aWS (m:Nat) (l:List Dt) (hm:l.length≤m) (hl:l.length≤1000000000) (h:∀e∈l,aM m e.toLst=some e.toLst∧Dt.lst e.toLst=e):i35 (m+1) l=some l:=by
 have key:=fun z=>sQ l hl z (fun M i c=>aa1 m M l (l.length:Int) i c) (fun M c=>by simp only[aa1,dlt,Nat.lt_irrefl,decide_false,cond_false,amQ,amR,aeU,amS,amT,amU,aeV]) (fun M i c hi hc=>by simp only[aa1,dlt,hi,decide_true,cond_true,amQ,amR,aeU,amS,amT,amU,aeV,ay hi,Option.bind_some,(h _ (List.getElem_mem hi)).1,(h _ (List.getElem_mem hi)).2,Gl (show i<c.length by omega),Int.toNat_natCast,List.getElem?_eq_getElem (show i<c.length by omega),aT (show i<9223372036854775807 by omega)]) (m+1) (by omega)
 rw[i35]
 cases l with
 |nil=>rfl
 |cons a r=>
  rw[ED,cond_false]
  simp only[amQ,amR,aeU,amS,amT,amU,aeV]
  rw[Uz _ _ (by omega),Option.bind_some]
  exact key _
end Go.Proofs.YtjnkagkoolbodaaGreatDoor
namespace Go.Proofs.YtjnkagkoolbodaaGreatDoor
open Go.Am
theorem cStr (m:Nat) (l:List Dt) (hl:l.length≤1000000000):aM (m+1) l=some l:=by
 rw[aM,J8 (show ([]:List Dt).length+l.length≤137438953472 by simp;omega),Option.bind_some,List.nil_append]
theorem cVal:∀(N:Nat) (d:Dt),d.bulk≤N→N≤1000000000→WV d→∀m,4*N≤m→aS (m+1) d=some d
 |0,d,h,_,_,_,_=>by have:=bQ d;omega
 |N +   1,d,h,hN,hw,m,hm=>by
  obtain⟨q,rfl⟩:∃q,m=q+4:=⟨m-4,by omega⟩
  cases hw with
  | @mk   k i t l ds hl hd=>
    rw[Ch] at h
    have hl1:=gK l
    have hd1:=gK ds
    have h1:i31 (q+4) l=some l:=aAM (q+3) l (by omega) (by omega) fun e he=>cVal N e (by have:=oP he;omega) (by omega) (hl e he) (q+2) (by omega)
    have h2:i79 (q+4) ds=some ds:=aWL (q+3) ds (by omega) (by omega) fun f hf=>by
        have hb:=oP hf
        cases hd f hf with
        | @mk s v hv=>
          rw[afg] at hb
          have:=cVal N v (by omega) (by omega) hv (q+1) (by omega)
          show Option.bind (aS (q+2) v) _=_
          rw[this]
          rfl
    show Option.bind (i31 (q+4) l) _=_
    rw[h1,Option.bind_some]
    show Option.bind (i79 (q+4) ds) _=_
    rw[h2,Option.bind_some]
    rfl
theorem avr (d:Dt) (hb:d.bulk≤10000000) (h:HasTy Tryz.prog 30 d) (m:Nat) (hm:4*d.bulk+1≤m):aS m d=some d:=by
 obtain⟨q,rfl⟩:∃q,m=q+1:=⟨m-1,by omega⟩
 exact cVal d.bulk d (Nat.le_refl _) (by omega) (ajx h) q (by omega)
theorem cExpr:∀(N:Nat) (d:Dt),d.bulk≤N→N≤10000000→HasTy Tryz.prog 36 d→∀m,8*N≤m→aK (m+1) d=some d
 |0,d,h,_,_,_,_=>by have:=bQ d;omega
 |N+1,d,h,hN,ht,m,hm=>by
  obtain⟨q,rfl⟩:∃q,m=q+4:=⟨m-4,by omega⟩
  have l1:=aO d 1
  have l3:=aO d 3
  have l6:=aO d 6
  have f4:=aA d 4
  have h2:=avr (Dt.fld d 4) (by omega) (avm ht) (q+4) (by omega)
  have h3:i81 (q+4) (Dt.L d 6)=some (Dt.L d 6):=aUY (q+3) _ (by omega) (by omega) fun e he=>cExpr N e (by have:=bA he;omega) (by omega) (avn ht e he) (q+2) (by omega)
  rw[aK,cStr (q+3) _ (by omega),Option.bind_some,cStr (q+3) _ (by omega),Option.bind_some,h2,Option.bind_some,h3,Option.bind_some]
  exact congrArg some (aNw ht).symm
theorem UA (d:Dt) (hb:d.bulk≤10000000) (h:HasTy Tryz.prog 36 d) (m:Nat) (hm:8*d.bulk+1≤m):aK m d=some d:=by
 obtain⟨q,rfl⟩:∃q,m=q+1:=⟨m-1,by omega⟩
 exact cExpr d.bulk d (Nat.le_refl _) hb h q (by omega)
theorem axn (m:Nat) {d:Dt} (hb:d.bulk≤10000000) (h:HasTy Tryz.prog 33 d):dD (m+1) d=some d:=by
 have l1:=aO d 1
 rw[dD,J8 (show ([]:List Dt).length+(Dt.L d 1).length≤137438953472 by simp;omega),Option.bind_some,List.nil_append]
 exact congrArg some (aII h).symm
theorem aAN:∀(N:Nat) (d:Dt),d.bulk≤N→N≤10000000→HasTy Tryz.prog 39 d→∀m,16*N≤m→aQ (m+1) d=some d
 |0,d,h,_,_,_,_=>by have:=bQ d;omega
 |N+1,d,h,hN,ht,m,hm=>by
  obtain⟨q,rfl⟩:∃q,m=q+4:=⟨m-4,by omega⟩
  have l1:=aO d 1
  have l3:=aO d 3
  have l8:=aO d 8
  have f2:=aA d 2
  have f6:=aA d 6
  have f7:=aA d 7
  have h2:=avr (Dt.fld d 2) (by omega) (aeC ht) (q+4) (by omega)
  have h3:i31 (q+4) (Dt.L d 3)=some (Dt.L d 3):=aAM (q+3) _ (by omega) (by omega) fun e he=>avr e (by have:=bA he;omega) (aeD ht e he) (q+3) (by have:=bA he;omega)
  have h6:=axn (q+3) (by omega) (aIJ ht)
  have h7:=UA (Dt.fld d 7) (by omega) (aeE ht) (q+4) (by omega)
  have h8:i34 (q+4) (Dt.L d 8)=some (Dt.L d 8):=aSO (q+3) _ (by omega) (by omega) fun e he=>aAN N e (by have:=bA he;omega) (by omega) (aeF ht e he) (q+2) (by omega)
  rw[aQ,cStr (q+3) _ (by omega),Option.bind_some,h2,Option.bind_some,h3,Option.bind_some,h6,Option.bind_some,h7,Option.bind_some,h8,Option.bind_some]
  exact congrArg some (aAL ht).symm
theorem aUZ (m:Nat) {d:Dt} (hb:d.bulk≤10000000) (h:HasTy Tryz.prog 73 d):fG (m+2) d=some d:=by
 have l0:=aO d 0
 rw[fG,cStr m _ (by omega),Option.bind_some]
 exact congrArg some (aIK h).symm
theorem akR (m:Nat) (l:List Dt) (hb:∀e∈l,e.bulk≤10000000) (hl:l.length≤10000000) (hm:l.length≤m) (h:∀e∈l,HasTy Tryz.prog 73 e):i12 (m+3) l=some l:=
 aWM (m+2) l (by omega) (by omega) fun e he=>aUZ m (hb e he) (h e he)
theorem aU0 (m:Nat) {d:Dt} (hb:d.bulk≤10000000) (h:HasTy Tryz.prog 106 d):fH (m+2) d=some d:=by
 have l0:=aO d 0
 rw[fH,cStr m _ (by omega),Option.bind_some]
 exact congrArg some (aIL h).symm
theorem aC6 {d:Dt} (hb:d.bulk≤10000000) (h:HasTy Tryz.prog 110 d) (m:Nat) (hm:8*d.bulk+1≤m):dH (m+1) d=some d:=by
 obtain⟨q,rfl⟩:∃q,m=q+1:=⟨m-1,by omega⟩
 have l0:=aO d 0
 have f1:=aA d 1
 rw[dH,cStr q _ (by omega),Option.bind_some,UA (Dt.fld d 1) (by omega) (Ah h) (q+1) (by omega),Option.bind_some]
 exact congrArg some (avo h).symm
theorem ame (m:Nat) (B:Nat) (hB:B≤10000000) (l:List Dt) (hb:∀e∈l,e.bulk≤B) (hl:l.length≤B) (hm:8*B+10≤m) (h:∀e∈l,HasTy Tryz.prog 110 e):i38 m l=some l:=by
 obtain⟨q,rfl⟩:∃q,m=q+2:=⟨m-2,by omega⟩
 exact aWO (q+1) l (by omega) (by omega) fun e he=>aC6 (by have:=hb e he;omega) (h e he) q (by have:=hb e he;omega)
theorem aIT (m:Nat) (B:Nat) (hB:B≤10000000) (l:List Dt) (hb:∀e∈l,e.bulk≤B) (hl:l.length≤B) (hm:B+10≤m) (h:∀e∈l,HasTy Tryz.prog 26 e):i35 m l=some l:=by
 obtain⟨q,rfl⟩:∃q,m=q+2:=⟨m-2,by omega⟩
 refine aWS (q+1) l (by omega) (by omega) fun e he=>?_
 have e1:=(bU Tryz.underlying26 (h e he)).1
 have e2:=hb e he
 have e3:e.toLst.length≤e.bulk:=by
  cases e with
  |lst es=>have:=gK es;simp only[Dt.bulk,Dt.toLst];omega
  |_=>simp[Dt.toLst]
 exact⟨cStr q _ (by omega),e1.symm⟩
theorem avt {d:Dt} (hb:d.bulk≤10000000) (h:HasTy Tryz.prog 45 d) (m:Nat) (hm:8*d.bulk+20≤m):bW (m+1) d=some d:=by
 obtain⟨q,rfl⟩:∃q,m=q+4:=⟨m-4,by omega⟩
 have l1:=aO d 1
 have l3:=aO d 3
 have l4:=aO d 4
 have h1:=aIT (q+4) d.bulk hb (Dt.L d 1) (fun e he=>Nat.le_of_lt (bA he)) (by omega) (by omega) (avp h)
 have h3:i36 (q+4) (Dt.L d 3)=some (Dt.L d 3):=aWN (q+3) _ (by omega) (by omega) fun e he=>aU0 (q+1) (by have:=bA he;omega) (avq h e he)
 have h4:=ame (q+4) d.bulk hb (Dt.L d 4) (fun e he=>Nat.le_of_lt (bA he)) (by omega) (by omega) (KX h)
 rw[bW,h1,Option.bind_some,h3,Option.bind_some,h4,Option.bind_some]
 exact congrArg some (axj h).symm
theorem aXr {d:Dt} (hb:d.bulk≤10000000) (h:HasTy Tryz.prog 114 d) (m:Nat) (hm:8*d.bulk+10≤m):iC (m+1) d=some d:=by
 obtain⟨q,rfl⟩:∃q,m=q+3:=⟨m-3,by omega⟩
 have l3:=aO d 3
 have f2:=aA d 2
 rw[iC,UA (Dt.fld d 2) (by omega) (arX h) (q+3) (by omega),Option.bind_some,akR q (Dt.L d 3) (fun e he=>by have:=bA he;omega) (by omega) (by omega) (aNx h),Option.bind_some]
 exact congrArg some (aUW h).symm
theorem cOut {d:Dt} (hb:d.bulk≤10000000) (h:HasTy Tryz.prog 118 d) (m:Nat) (hm:8*d.bulk+10≤m):iD (m+1) d=some d:=by
 have f2:=aA d 2
 rw[iD,UA (Dt.fld d 2) (by omega) (arY h) m (by omega),Option.bind_some]
 exact congrArg some (aUX h).symm
theorem axo:∀(N:Nat) (d:Dt),d.bulk≤N→N≤10000000→HasTy Tryz.prog 71 d→∀m,32*N≤m→aX (m+1) d=some d
 |0,d,h,_,_,_,_=>by have:=bQ d;omega
 |N+1,d,h,hN,ht,m,hm=>by
  obtain⟨q,rfl⟩:∃q,m=q+6:=⟨m-6,by omega⟩
  have f1:=aA d 1
  have f2:=aA d 2
  have f9:=aA d 9
  have f10:=aA d 10
  have f11:=aA d 11
  have f12:=aA d 12
  have f15:=aA d 15
  have f16:=aA d 16
  have f100:=aA (Dt.fld d 10) 0
  have f110:=aA (Dt.fld d 11) 0
  have l3:=aO d 3
  have l4:=aO d 4
  have l6:=aO d 6
  have aJF:=aO (Dt.fld d 10) 1
  have aXw:=aO (Dt.fld d 11) 1
  have aXy:=aO (Dt.fld d 11) 2
  have aW1:=aO (Dt.fld d 12) 1
  have aCY:=aO (Dt.fld d 12) 2
  have aW2:=aO (Dt.fld d 12) 4
  have l13:=aO d 13
  have l14:=aO d 14
  have aW3:=aO (Dt.fld d 15) 1
  have t10:=aaM ht
  have t11:=aaN ht
  have t12:=aaO ht
  have t15:=axl ht
  have g0:aQ (q+6) (Dt.fld d 1)=some (Dt.fld d 1):=aAN (Dt.fld d 1).bulk _ (Nat.le_refl _) (by omega) (OL ht) (q+5) (by omega)
  have g1:bW (q+6) (Dt.fld d 2)=some (Dt.fld d 2):=avt (by omega) (OM ht) (q+5) (by omega)
  have g2:=ame (q+6) (N+1) hN (Dt.L d 3) (fun e he=>by have:=bA he;omega) (by omega) (by omega) (ahM ht)
  have g3:i12 (q+6) (Dt.L d 4)=some (Dt.L d 4):=akR (q+3) _ (fun e he=>by have:=bA he;omega) (by omega) (by omega) (aqP ht)
  have g4:aM (q+6) (Dt.L d 6)=some (Dt.L d 6):=cStr (q+5) _ (by omega)
  have g5:=UA (Dt.fld d 9) (by omega) (Wd ht) (q+6) (by omega)
  have g6:=UA (Dt.fld (Dt.fld d 10) 0) (by omega) (ahJ t10) (q+6) (by omega)
  have g7:i40 (q+6) (Dt.L (Dt.fld d 10) 1)=some (Dt.L (Dt.fld d 10) 1):=aWP (q+5) _ (by omega) (by omega) fun e he=>aXr (by have:=bA he;omega) (ahK t10 e he) (q+4) (by have:=bA he;omega)
  have g8:=UA (Dt.fld (Dt.fld d 11) 0) (by omega) (aaJ t11) (q+6) (by omega)
  have g9:i12 (q+6) (Dt.L (Dt.fld d 11) 1)=some (Dt.L (Dt.fld d 11) 1):=akR (q+3) _ (fun e he=>by have:=bA he;omega) (by omega) (by omega) (axk t11)
  have g10:i42 (q+6) (Dt.L (Dt.fld d 11) 2)=some (Dt.L (Dt.fld d 11) 2):=aWQ (q+5) _ (by omega) (by omega) fun e he=>cOut (by have:=bA he;omega) (aaK t11 e he) (q+4) (by have:=bA he;omega)
  have g11:aM (q+6) (Dt.L (Dt.fld d 12) 1)=some (Dt.L (Dt.fld d 12) 1):=cStr (q+5) _ (by omega)
  have g12:aM (q+6) (Dt.L (Dt.fld d 12) 2)=some (Dt.L (Dt.fld d 12) 2):=cStr (q+5) _ (by omega)
  have g13:i15 (q+6) (Dt.L (Dt.fld d 12) 4)=some (Dt.L (Dt.fld d 12) 4):=aIS (q+5) _ (by omega) (by omega) fun e he=>axo N e (by have:=bA he;omega) (by omega) (aaL t12 e he) (q+4) (by omega)
  have g14:i44 (q+6) (Dt.L d 13)=some (Dt.L d 13):=aWR (q+5) _ (by omega) (by omega) fun f hf=>by
   have hb:=bA hf
   have l1:=aO f 1
   have tf:=aaP ht f hf
   have g:i15 (q+4) (Dt.L f 1)=some (Dt.L f 1):=aIS (q+3) _ (by omega) (by omega) fun e he=>axo N e (by have:=bA he;omega) (by omega) (ahL tf e he) (q+2) (by omega)
   rw[aZ,g,Option.bind_some]
   exact congrArg some (aIN tf).symm
  have g15:i31 (q+6) (Dt.L d 14)=some (Dt.L d 14):=aAM (q+5) _ (by omega) (by omega) fun e he=>avr e (by have:=bA he;omega) (aaQ ht e he) (q+5) (by have:=bA he;omega)
  have g16:=aIT (q+6) (N+1) hN (Dt.L (Dt.fld d 15) 1) (fun e he=>by have:=bA he;omega) (by omega) (by omega) (aC5 t15)
  have g17:dD (q+6) (Dt.fld d 16)=some (Dt.fld d 16):=axn (q+5) (by omega) (axm ht)
  rw[aX,g0,Option.bind_some,g1,Option.bind_some,g2,Option.bind_some,g3,Option.bind_some,g4,Option.bind_some,g5,Option.bind_some,g6,Option.bind_some,g7,Option.bind_some,g8,Option.bind_some,g9,Option.bind_some,g10,Option.bind_some,g11,Option.bind_some,g12,Option.bind_some,g13,Option.bind_some,g14,Option.bind_some,g15,Option.bind_some,g16,Option.bind_some,g17,Option.bind_some]
  rw[←aIM t10,←aC3 t11,←aC4 t12,←aIO t15]
  exact congrArg some (aIP ht).symm
theorem aNy (l:List Dt) (B:Nat) (hB:B≤10000000) (hb:Dt.bulkL l≤B) (h:∀e∈l,HasTy Tryz.prog 71 e) (m:Nat) (hm:32*B+10≤m):i15 m l=some l:=by
 obtain⟨q,rfl⟩:∃q,m=q+2:=⟨m-2,by omega⟩
 have:=gK l
 exact aIS (q+1) l (by omega) (by omega) fun e he=>axo B e (by have:=oP he;omega) hB (h e he) q (by omega)
end Go.Proofs.YtjnkagkoolbodaaGreatDoor
