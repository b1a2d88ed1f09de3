/- Generated: each function's run in the abstract machine is its shallow function. -/
import Derived.Test.YtjnkagkoolbodaaGreatDoorCt
import Derived.Test.YtjnkagkoolbodaaGreatDoorAmEnv
import Derived.KernelRfl
set_option linter.unusedVariables false
set_option linter.unusedSimpArgs false
namespace Go.Proofs.YtjnkagkoolbodaaGreatDoor
open Go.Am
set_option maxRecDepth 100000
def XA:List Nat:=[1,0,1,0,1]
noncomputable def e9 (J:Q0) (m:Nat):=evAt Tryz.prog env (ct m) J (m+1) 32 10 Tryz.f32 d9
noncomputable def aBz:St:=⟨tsOf [],[],0⟩
noncomputable def XB (x0:Bool):St:=⟨tsOf [(4,.dat 4 (.bool x0))],[],0⟩
theorem abh m:e9 jn m [1,1] [] aBz=aic m:=
 tq (g:=fun J=>some false) (by rfl)
theorem abj m x0:e9 jn m XA [] (XB x0)=yc m x0:=
 tq (g:=fun J=>(bif x0 then
  some true
   else
  (jj J 0 8 0 aBz (e9 J m [1,1] [])))) (by simp only[ah,abh m];rfl)
theorem aBA m a0:e9 jn m [] [] ⟨[.dat 3 (.int a0)],[],0⟩=yI (m+1) a0:=
 tq (g:=fun J=>(bif (a0==1) then
  (jj J 0 7 0 (XB (a0==1)) (e9 J m XA []))
   else
  (bif (a0==3) then
  (jj J 0 7 0 (XB (a0==3)) (e9 J m XA []))
  else
  (bif (a0==2) then
  (jj J 0 7 0 (XB (a0==2)) (e9 J m XA []))
  else
  (bif (a0==7) then
  (jj J 0 7 0 (XB (a0==7)) (e9 J m XA []))
  else
  (jj J 0 7 0 (XB (a0==16)) (e9 J m XA []))))))) (by simp only[ah,abj m];rfl)
noncomputable def e14 (J:Q0) (m:Nat):=evAt Tryz.prog env (ct m) J (m+1) 26 20 Tryz.f26 d9
noncomputable def l14 (J:Q0) (m:Nat):=loopAt Tryz.prog env (ct m) J (m+1) 26 20 Tryz.f26 d9
theorem aBB m a0 a1 a2:e14 jn m [] [] ⟨[.dat 22 (.lst a0),.dat 3 (.int a1),.dat 3 (.int a2)],[],0⟩=vH (m+1) a0 a1 a2:=
 tq (g:=fun J=>(bif (decide (a1<(List.length a0:Int))) then
  ((idx a0 a1).bind fun v0=>
  some ((Dt.I v0 0)==a2))
   else
  some false)) (by rfl)
def XC:List Nat:=[1,1,0,0,0,1]
noncomputable def e4 (J:Q35) (m:Nat):=evAt Tryz.prog env (ct m) J (m+1) 12 51 Tryz.f12 d4
noncomputable def l4 (J:Q35) (m:Nat):=loopAt Tryz.prog env (ct m) J (m+1) 12 51 Tryz.f12 d4
noncomputable def lZ (x0:List Dt) (x1:Int):St:=⟨tsOf [(0,.dat 22 (.lst x0)),(5,.dat 3 (.int x1))],[],0⟩
abbrev aFX (m M1:Nat) (rec1:Q32):Prop:=∀x0 x1,l4 jn m [1,1,0,0] [] M1 (lZ x0 x1)=rec1 x0 x1
theorem abk m M1 rec1 (h1:aFX m M1 rec1) x0 x1:e4 jn m XC [M1] (lZ x0 x1)=yg m rec1 x0 x1:=
 tq (g:=fun J=>(jj J 1 2 M1 (lZ x0 (IntKind.wrap .i64 (x1+1))) (l4 J m [1,1,0,0] [] M1))) (by simp only[ah,h1];rfl)
theorem abl m x0 x1:e4 jn m [1,1,1,1] [] (lZ x0 x1)=Vw m x0 x1:=
 tq (g:=fun J=>((cutL x0 0 x1).bind fun v9=>
  ((cutL x0 x1 (List.length x0:Int)).bind fun v10=>
  some (v9,v10,[])))) (by rfl)
theorem abm m x0 x1:e4 jn m [1,1,1] [] (lZ x0 x1)=MO m x0 x1:=
 tq (g:=fun J=>((vH m x0 x1 4).bind fun r5=>
  (bif r5 then
  ((cutL x0 0 x1).bind fun v6=>
  ((cutL x0 x1 (List.length x0:Int)).bind fun v7=>
  ((idx x0 x1).bind fun v8=>
  some (v6,v7,(Dt.L v8 4)))))
  else
  (jj J 0 6 0 (lZ x0 x1) (e4 J m [1,1,1,1] []))))) (by simp only[ah,abl m];rfl)
theorem KD m:∀M1 x0 x1,l4 jn m [1,1,0,0] [] M1 (lZ x0 x1)=nL m M1 x0 x1
 |0,_,_=>rfl
 | M1+1,x0,x1=>
   tl (g:=fun J=>((vH m x0 x1 1).bind fun r0=>
  (bif r0 then
  (jj J 0 3 0 (lZ x0 x1) (e4 J m XC [M1]))
  else
  ((vH m x0 x1 3).bind fun r1=>
  (bif r1 then
  (jj J 0 3 0 (lZ x0 x1) (e4 J m XC [M1]))
  else
  ((vH m x0 x1 2).bind fun r2=>
  (bif r2 then
  (jj J 0 3 0 (lZ x0 x1) (e4 J m XC [M1]))
  else
  ((vH m x0 x1 7).bind fun r3=>
  (bif r3 then
  (jj J 0 3 0 (lZ x0 x1) (e4 J m XC [M1]))
  else
  ((vH m x0 x1 16).bind fun r4=>
  (bif r4 then
  (jj J 0 3 0 (lZ x0 x1) (e4 J m XC [M1]))
  else
  (jj J 0 4 0 (lZ x0 x1) (e4 J m [1,1,1] []))))))))))))) (by simp only[ah,abk m M1 (nL m M1) (KD m M1),abm m];rfl)
theorem abn m x0 x1:e4 jn m [1,1] [] (lZ x0 x1)=av9 m x0 x1:=
 tq (g:=fun J=>(jj J 1 2 (Nat.succ m) (lZ x0 x1) (l4 J m [1,1,0,0] [] (Nat.succ m)))) (by simp only[ah,KD m];rfl)
theorem aBC m a0:e4 jn m [] [] ⟨[.dat 22 (.lst a0)],[],0⟩=z8 (m+1) a0:=
 tq (g:=fun J=>(jj J 0 2 0 (lZ a0 0) (e4 J m [1,1] []))) (by simp only[ah,abn m];rfl)
def abo:List Nat:=[1,1,1,0,1,0,1]
def KE:List Nat:=abo++[0]
def abp:List Nat:=KE++[0,1]
def atJ:List Nat:=abp++[1]
noncomputable def e17 (J:Q7) (m:Nat):=evAt Tryz.prog env (ct m) J (m+1) 34 39 Tryz.f34 d17
noncomputable def l17 (J:Q7) (m:Nat):=loopAt Tryz.prog env (ct m) J (m+1) 34 39 Tryz.f34 d17
noncomputable def mo (x0:Int) (x1:Dt) (x2:List Dt):St:=⟨tsOf [(1,.ptr 0 [] 0),(3,.row 1),(4,.dat 3 (.int x0))],[.box 71 (.dat 71 x1),.row 90 x2],0⟩
noncomputable def abq (x0:List Dt):St:=⟨tsOf [(3,.row 0)],[.row 90 x0],0⟩
noncomputable def abr (x0:Dt) (x1:List Dt):St:=⟨tsOf [(1,.ptr 0 [] 0),(3,.row 1)],[.box 71 (.dat 71 x0),.row 90 x1],0⟩
noncomputable def abt (x0:Bool) (x1:Dt) (x2:List Dt):St:=⟨tsOf [(1,.ptr 0 [] 0),(3,.row 1),(12,.dat 4 (.bool x0))],[.box 71 (.dat 71 x1),.row 90 x2],0⟩
abbrev atK (m M3:Nat) (rec3:Q16):Prop:=∀x0 x1 x2,l17 jn m KE [] M3 (mo x0 x1 x2)=rec3 x0 x1 x2
theorem abu m M3 rec3 (h3:atK m M3 rec3) x0 x1 x2:e17 jn m atJ [M3] (mo x0 x1 x2)=aie m rec3 x0 x1 x2:=
 tq (g:=fun J=>(jj J 1 6 M3 (mo (IntKind.wrap .i64 (x0+1)) x1 x2) (l17 J m KE [] M3))) (by simp only[ah,h3];rfl)
theorem abv m M3 rec3 (h3:atK m M3 rec3) x0 x1 x2:e17 jn m abp [M3] (mo x0 x1 x2)=aif m rec3 x0 x1 x2:=
 tq (g:=fun J=>((idx (Dt.L x1 13) x0).bind fun v1=>
  ((app x2 [(Dt.lst (Dt.L v1 1))]).bind fun v2=>
  (jj J 0 7 0 (mo x0 x1 v2) (e17 J m atJ [M3]))))) (by simp only[ah,abu m M3 rec3 h3];rfl)
theorem KF m x0:e17 jn m [1,1,1,1] [] (abq x0)=aii m x0:=
 tq (g:=fun J=>some x0) (by rfl)
theorem KG m:∀M3 x0 x1 x2,l17 jn m KE [] M3 (mo x0 x1 x2)=FB m M3 x0 x1 x2
 |0,_,_,_=>rfl
 | M3+1,x0,x1,x2=>
   tl (g:=fun J=>(bif (decide (x0<(List.length (Dt.L x1 13):Int))) then
  (jj J 0 8 0 (mo x0 x1 x2) (e17 J m abp [M3]))
   else
  (jj J 0 9 0 (abq x2) (e17 J m [1,1,1,1] [])))) (by simp only[ah,abv m M3 (FB m M3) (KG m M3),KF m];rfl)
theorem abw m x0 x1 x2:e17 jn m abo [] (mo x0 x1 x2)=awc m x0 x1 x2:=
 tq (g:=fun J=>(jj J 1 6 (Nat.succ m) (mo x0 x1 x2) (l17 J m KE [] (Nat.succ m)))) (by simp only[ah,KG m];rfl)
theorem abx m x0 x1:e17 jn m [1,1,1] [] (abr x0 x1)=MP m x0 x1:=
 tq (g:=fun J=>(bif ((Dt.I x0 0)==11) then
  (jj J 0 6 0 (mo 0 x0 x1) (e17 J m abo []))
   else
  (jj J 0 9 0 (abq x1) (e17 J m [1,1,1,1] [])))) (by simp only[ah,abw m,KF m];rfl)
theorem aby m x0 x1 x2:e17 jn m [1,1,0,1] [] (abt x0 x1 x2)=MQ m x0 x1 x2:=
 tq (g:=fun J=>(bif x0 then
  ((app x2 [(Dt.lst (Dt.L (Dt.fld x1 12) 4))]).bind fun v0=>
  (jj J 0 4 0 (abr x1 v0) (e17 J m [1,1,1] [])))
   else
  (jj J 0 4 0 (abr x1 x2) (e17 J m [1,1,1] [])))) (by simp only[ah,abx m];rfl)
theorem aBD m a0:e17 jn m [] [] ⟨[.dat 71 a0],[],0⟩=zU (m+1) a0:=
 tq (g:=fun J=>(bif ((Dt.I a0 0)==10) then
  (jj J 0 3 0 (abt true a0 []) (e17 J m [1,1,0,1] []))
   else
  (jj J 0 3 0 (abt ((Dt.I a0 0)==15) a0 []) (e17 J m [1,1,0,1] [])))) (by simp only[ah,aby m];rfl)
def aBE:List Nat:=[1,1,1,0,1]
def abz:List Nat:=[1,1,1,0,1,0]
def aq1:List Nat:=abz++[0,1]
def ayy:List Nat:=aq1++[1]
def ayz:List Nat:=aq1++[0,0,1,1]
def abA:List Nat:=ayz++[0]
def ayA:List Nat:=abA++[0,1]
def aBF:List Nat:=ayA++[1]
noncomputable def e7 (J:Q1) (m:Nat):=evAt Tryz.prog env (ct m) J (m+1) 14 58 Tryz.f14 d7
noncomputable def l7 (J:Q1) (m:Nat):=loopAt Tryz.prog env (ct m) J (m+1) 14 58 Tryz.f14 d7
noncomputable def DJ (x0:List Dt) (x1 x2 x3:Int) (x4:List Dt) (x5:Int):St:=⟨tsOf [(0,.dat 22 (.lst x0)),(1,.dat 3 (.int x1)),(5,.dat 3 (.int x2)),(6,.dat 3 (.int x3)),(7,.dat 90 (.lst x4)),(8,.dat 3 (.int x5))],[],0⟩
noncomputable def wO (x0:List Dt) (x1 x2 x3:Int):St:=⟨tsOf [(0,.dat 22 (.lst x0)),(1,.dat 3 (.int x1)),(5,.dat 3 (.int x2)),(6,.dat 3 (.int x3))],[],0⟩
noncomputable def abB (x0:Int):St:=⟨tsOf [(5,.dat 3 (.int x0))],[],0⟩
noncomputable def aBG (x0:List Dt) (x1:Int):St:=⟨tsOf [(0,.dat 22 (.lst x0)),(1,.dat 3 (.int x1))],[],0⟩
noncomputable def aq2 (x0:List Dt) (x1:Int) (x2:Bool):St:=⟨tsOf [(0,.dat 22 (.lst x0)),(1,.dat 3 (.int x1)),(20,.dat 4 (.bool x2))],[],0⟩
abbrev XD (m M3:Nat) (rec3:Q24):Prop:=∀x0 x1 x2 x3,l7 jn m abz [] M3 (wO x0 x1 x2 x3)=rec3 x0 x1 x2 x3
abbrev aBH (m M3 M6:Nat) (rec6:Q36):Prop:=∀x0 x1 x2 x3 x4 x5,l7 jn m abA [M3] M6 (DJ x0 x1 x2 x3 x4 x5)=rec6 x0 x1 x2 x3 x4 x5
theorem abC m M3 rec3 (h3:XD m M3 rec3) M6 rec6 (h6:aBH m M3 M6 rec6) x0 x1 x2 x3 x4 x5:e7 jn m aBF [M3,M6] (DJ x0 x1 x2 x3 x4 x5)=aij m (qW m) rec3 rec6 x0 x1 x2 x3 x4 x5:=
 tq (g:=fun J=>(jj J 1 9 M6 (DJ x0 x1 x2 x3 x4 (IntKind.wrap .i64 (x5+1))) (l7 J m abA [M3] M6))) (by simp only[ah,h6];rfl)
theorem abD m M3 rec3 (h3:XD m M3 rec3) M6 rec6 (h6:aBH m M3 M6 rec6) x0 x1 x2 x3 x4 x5:e7 jn m ayA [M3,M6] (DJ x0 x1 x2 x3 x4 x5)=aik m (qW m) rec3 rec6 x0 x1 x2 x3 x4 x5:=
 tq (g:=fun J=>((idx x4 x5).bind fun v2=>
  ((qW m (Dt.toLst v2) (IntKind.wrap .i64 (x1+1))).bind fun r3=>
  (jj J 0 10 0 (DJ x0 x1 (IntKind.wrap .i64 (x2+r3)) x3 x4 x5) (e7 J m aBF [M3,M6]))))) (by simp only[ah,abC m M3 rec3 h3 M6 rec6 h6];rfl)
theorem abE m M3 rec3 (h3:XD m M3 rec3) x0 x1 x2 x3:e7 jn m ayy [M3] (wO x0 x1 x2 x3)=MR m (qW m) rec3 x0 x1 x2 x3:=
 tq (g:=fun J=>(jj J 1 5 M3 (wO x0 x1 x2 (IntKind.wrap .i64 (x3+1))) (l7 J m abz [] M3))) (by simp only[ah,h3];rfl)
theorem KH m M3 rec3 (h3:XD m M3 rec3):∀M6 x0 x1 x2 x3 x4 x5,l7 jn m abA [M3] M6 (DJ x0 x1 x2 x3 x4 x5)=FC m (qW m) rec3 M6 x0 x1 x2 x3 x4 x5
 |0,_,_,_,_,_,_=>rfl
 | M6+1,x0,x1,x2,x3,x4,x5=>
   tl (g:=fun J=>(bif (decide (x5<(List.length x4:Int))) then
  (bif (decide (x2≤32)) then
  (jj J 0 11 0 (DJ x0 x1 x2 x3 x4 x5) (e7 J m ayA [M3,M6]))
  else
  (jj J 0 6 0 (wO x0 x1 x2 x3) (e7 J m ayy [M3])))
   else
  (jj J 0 6 0 (wO x0 x1 x2 x3) (e7 J m ayy [M3])))) (by simp only[ah,abD m M3 rec3 h3 M6 (FC m (qW m) rec3 M6) (KH m M3 rec3 h3 M6),abE m M3 rec3 h3];rfl)
theorem abF m M3 rec3 (h3:XD m M3 rec3) x0 x1 x2 x3 x4 x5:e7 jn m ayz [M3] (DJ x0 x1 x2 x3 x4 x5)=awd m (qW m) rec3 x0 x1 x2 x3 x4 x5:=
 tq (g:=fun J=>(jj J 1 9 (Nat.succ m) (DJ x0 x1 x2 x3 x4 x5) (l7 J m abA [M3] (Nat.succ m)))) (by simp only[ah,KH m M3 rec3 h3];rfl)
theorem abG m M3 rec3 (h3:XD m M3 rec3) x0 x1 x2 x3:e7 jn m aq1 [M3] (wO x0 x1 x2 x3)=ail m (qW m) rec3 x0 x1 x2 x3:=
 tq (g:=fun J=>((idx x0 x3).bind fun v0=>
  ((zU m v0).bind fun r1=>
  (jj J 0 9 0 (DJ x0 x1 x2 x3 r1 0) (e7 J m ayz [M3]))))) (by simp only[ah,abF m M3 rec3 h3];rfl)
theorem XE m x0:e7 jn m [1,1,1,1] [] (abB x0)=Rj m (qW m) x0:=
 tq (g:=fun J=>some x0) (by rfl)
theorem KI m:∀M3 x0 x1 x2 x3,l7 jn m abz [] M3 (wO x0 x1 x2 x3)=FD m (qW m) M3 x0 x1 x2 x3
 |0,_,_,_,_=>rfl
 | M3+1,x0,x1,x2,x3=>
   tl (g:=fun J=>(bif (decide (x3<(List.length x0:Int))) then
  (bif (decide (x2≤32)) then
  (jj J 0 7 0 (wO x0 x1 x2 x3) (e7 J m aq1 [M3]))
  else
  (jj J 0 12 0 (abB x2) (e7 J m [1,1,1,1] [])))
   else
  (jj J 0 12 0 (abB x2) (e7 J m [1,1,1,1] [])))) (by simp only[ah,abG m M3 (FD m (qW m) M3) (KI m M3),XE m];rfl)
theorem abH m x0 x1 x2 x3:e7 jn m aBE [] (wO x0 x1 x2 x3)=awe m (qW m) x0 x1 x2 x3:=
 tq (g:=fun J=>(jj J 1 5 (Nat.succ m) (wO x0 x1 x2 x3) (l7 J m abz [] (Nat.succ m)))) (by simp only[ah,KI m];rfl)
theorem abI m x0 x1:e7 jn m [1,1] [] (aBG x0 x1)=awf m (qW m) x0 x1:=
 tq (g:=fun J=>(jj J 0 5 0 (wO x0 x1 (List.length x0:Int) 0) (e7 J m aBE []))) (by simp only[ah,abH m];rfl)
theorem abJ m x0 x1 x2:e7 jn m [1,0,1] [] (aq2 x0 x1 x2)=FH m (qW m) x0 x1 x2:=
 tq (g:=fun J=>(bif x2 then
  some 33
   else
  (jj J 0 3 0 (aBG x0 x1) (e7 J m [1,1] [])))) (by simp only[ah,abI m];rfl)
theorem aBI m a0 a1:e7 jn m [] [] ⟨[.dat 22 (.lst a0),.dat 3 (.int a1)],[],0⟩=qW (m+1) a0 a1:=
 tq (g:=fun J=>(bif (decide (16<a1)) then
  (bif (decide (0<(List.length a0:Int))) then
  (jj J 0 2 0 (aq2 a0 a1 true) (e7 J m [1,0,1] []))
  else
  (jj J 0 2 0 (aq2 a0 a1 (decide (32<(List.length a0:Int)))) (e7 J m [1,0,1] [])))
   else
  (jj J 0 2 0 (aq2 a0 a1 (decide (32<(List.length a0:Int)))) (e7 J m [1,0,1] [])))) (by simp only[ah,abJ m];rfl)
noncomputable def e24 (J:Q7) (m:Nat):=evAt Tryz.prog env (ct m) J (m+1) 41 5 Tryz.f41 d24
theorem aBJ m a0:e24 jn m [] [] ⟨[.dat 26 (.lst a0)],[],0⟩=zW (m+1) a0:=
 tq (g:=fun J=>((app [] a0).bind fun v0=>
  some v0)) (by rfl)
noncomputable def e13 (J:Q11) (m:Nat):=evAt Tryz.prog env (ct m) J (m+1) 22 8 Tryz.f22 d13
noncomputable def l13 (J:Q11) (m:Nat):=loopAt Tryz.prog env (ct m) J (m+1) 22 8 Tryz.f22 d13
theorem aBK m a0:e13 jn m [] [] ⟨[.dat 73 a0],[],0⟩=y4 (m+1) a0:=
 tq (g:=fun J=>((zW m (Dt.L a0 0)).bind fun r0=>
  some (Dt.agg [(Dt.lst r0),(Dt.bool (Dt.B a0 1))]))) (by rfl)
def atL:List Nat:=[1,1,1,0,1]
def KJ:List Nat:=[1,1,1,0,1,0]
def abK:List Nat:=KJ++[0,1,1]
def atM:List Nat:=abK++[1]
noncomputable def e12 (J:Q7) (m:Nat):=evAt Tryz.prog env (ct m) J (m+1) 21 29 Tryz.f21 d12
noncomputable def l12 (J:Q7) (m:Nat):=loopAt Tryz.prog env (ct m) J (m+1) 21 29 Tryz.f21 d12
noncomputable def mq (x0:List Dt) (x1 x2:Int) (x3:List Dt):St:=⟨tsOf [(1,.fn 22 []),(5,.row 0),(14,.dat 40 (.lst x0)),(15,.dat 3 (.int x1)),(16,.dat 3 (.int x2))],[.row 40 x3],0⟩
noncomputable def atN (x0:List Dt):St:=⟨tsOf [(5,.row 0)],[.row 40 x0],0⟩
noncomputable def atO (x0:List Dt):St:=⟨tsOf [(0,.dat 40 (.lst x0)),(1,.fn 22 [])],[],0⟩
abbrev atP (m M2:Nat) (rec2:Q3):Prop:=∀x0 x1 x2 x3,l12 jn m KJ [] M2 (mq x0 x1 x2 x3)=rec2 x0 x1 x2 x3
theorem XF m M2 rec2 (h2:atP m M2 rec2) x0 x1 x2 x3:e12 jn m atM [M2] (mq x0 x1 x2 x3)=yh m rec2 x0 x1 x2 x3:=
 tq (g:=fun J=>(jj J 1 5 M2 (mq x0 x1 (IntKind.wrap .i64 (x2+1)) x3) (l12 J m KJ [] M2))) (by simp only[ah,h2];rfl)
theorem XG m M2 rec2 (h2:atP m M2 rec2) x0 x1 x2 x3:e12 jn m abK [M2] (mq x0 x1 x2 x3)=yj m rec2 x0 x1 x2 x3:=
 tq (g:=fun J=>((idx x0 x2).bind fun v1=>
  ((y4 m v1).bind fun r2=>
  ((inL x3 x2).bind fun v3=>
  ((x3[(Int.toNat x2)]?).bind fun v4=>
  (jj J 0 8 0 (mq x0 x1 x2 (List.set x3 (Int.toNat x2) r2)) (e12 J m atM [M2]))))))) (by simp only[ah,XF m M2 rec2 h2];rfl)
theorem XH m x0:e12 jn m [1,1,1,1] [] (atN x0)=yt m x0:=
 tq (g:=fun J=>some x0) (by rfl)
theorem EF m:∀M2 x0 x1 x2 x3,l12 jn m KJ [] M2 (mq x0 x1 x2 x3)=oV m M2 x0 x1 x2 x3
 |0,_,_,_,_=>rfl
 | M2+1,x0,x1,x2,x3=>
   tl (g:=fun J=>(bif (decide (x2<x1)) then
  (jj J 0 6 0 (mq x0 x1 x2 x3) (e12 J m abK [M2]))
   else
  (jj J 0 9 0 (atN x3) (e12 J m [1,1,1,1] [])))) (by simp only[ah,XG m M2 (oV m M2) (EF m M2),XH m];rfl)
theorem XI m x0 x1 x2 x3:e12 jn m atL [] (mq x0 x1 x2 x3)=yu m x0 x1 x2 x3:=
 tq (g:=fun J=>(jj J 1 5 (Nat.succ m) (mq x0 x1 x2 x3) (l12 J m KJ [] (Nat.succ m)))) (by simp only[ah,EF m];rfl)
theorem XJ m x0:e12 jn m [1,1] [] (atO x0)=yw m x0:=
 tq (g:=fun J=>((mkL (List.length x0:Int) (List.length x0:Int) Vo).bind fun v0=>
  (jj J 0 5 0 (mq x0 (List.length x0:Int) 0 v0) (e12 J m atL [])))) (by simp only[ah,XI m];rfl)
theorem ayB m a0:e12 jn m [] [] ⟨[.dat 40 (.lst a0),.fn 22 []],[],0⟩=i12 (m+1) a0:=
 tq (g:=fun J=>(bif ((List.length a0:Int)==0) then
  some []
   else
  (jj J 0 3 0 (atO a0) (e12 J m [1,1] [])))) (by simp only[ah,XJ m];rfl)
def atQ:List Nat:=[1,1,1,0,1]
def KL:List Nat:=[1,1,1,0,1,0]
def abL:List Nat:=KL++[0,1,1]
def atS:List Nat:=abL++[1]
noncomputable def e32 (J:Q7) (m:Nat):=evAt Tryz.prog env (ct m) J (m+1) 43 29 Tryz.f43 d32
noncomputable def l32 (J:Q7) (m:Nat):=loopAt Tryz.prog env (ct m) J (m+1) 43 29 Tryz.f43 d32
noncomputable def mD (x0:List Dt) (x1 x2:Int) (x3:List Dt):St:=⟨tsOf [(1,.fn 42 []),(5,.row 0),(14,.dat 27 (.lst x0)),(15,.dat 3 (.int x1)),(16,.dat 3 (.int x2))],[.row 27 x3],0⟩
noncomputable def atT (x0:List Dt):St:=⟨tsOf [(5,.row 0)],[.row 27 x0],0⟩
noncomputable def atU (x0:List Dt):St:=⟨tsOf [(0,.dat 27 (.lst x0)),(1,.fn 42 [])],[],0⟩
abbrev atV (m M2:Nat) (rec2:Q3):Prop:=∀x0 x1 x2 x3,l32 jn m KL [] M2 (mD x0 x1 x2 x3)=rec2 x0 x1 x2 x3
theorem XK m M2 rec2 (h2:atV m M2 rec2) x0 x1 x2 x3:e32 jn m atS [M2] (mD x0 x1 x2 x3)=yx m (yD m) rec2 x0 x1 x2 x3:=
 tq (g:=fun J=>(jj J 1 5 M2 (mD x0 x1 (IntKind.wrap .i64 (x2+1)) x3) (l32 J m KL [] M2))) (by simp only[ah,h2];rfl)
theorem XL m M2 rec2 (h2:atV m M2 rec2) x0 x1 x2 x3:e32 jn m abL [M2] (mD x0 x1 x2 x3)=ze m (yD m) rec2 x0 x1 x2 x3:=
 tq (g:=fun J=>((idx x0 x2).bind fun v1=>
  ((yD m v1).bind fun r2=>
  ((inL x3 x2).bind fun v3=>
  ((x3[(Int.toNat x2)]?).bind fun v4=>
  (jj J 0 8 0 (mD x0 x1 x2 (List.set x3 (Int.toNat x2) r2)) (e32 J m atS [M2]))))))) (by simp only[ah,XK m M2 rec2 h2];rfl)
theorem XM m x0:e32 jn m [1,1,1,1] [] (atT x0)=zf m (yD m) x0:=
 tq (g:=fun J=>some x0) (by rfl)
theorem EG m:∀M2 x0 x1 x2 x3,l32 jn m KL [] M2 (mD x0 x1 x2 x3)=oW m (yD m) M2 x0 x1 x2 x3
 |0,_,_,_,_=>rfl
 | M2+1,x0,x1,x2,x3=>
   tl (g:=fun J=>(bif (decide (x2<x1)) then
  (jj J 0 6 0 (mD x0 x1 x2 x3) (e32 J m abL [M2]))
   else
  (jj J 0 9 0 (atT x3) (e32 J m [1,1,1,1] [])))) (by simp only[ah,XL m M2 (oW m (yD m) M2) (EG m M2),XM m];rfl)
theorem XP m x0 x1 x2 x3:e32 jn m atQ [] (mD x0 x1 x2 x3)=zh m (yD m) x0 x1 x2 x3:=
 tq (g:=fun J=>(jj J 1 5 (Nat.succ m) (mD x0 x1 x2 x3) (l32 J m KL [] (Nat.succ m)))) (by simp only[ah,EG m];rfl)
theorem XQ m x0:e32 jn m [1,1] [] (atU x0)=zk m (yD m) x0:=
 tq (g:=fun J=>((mkL (List.length x0:Int) (List.length x0:Int) aW).bind fun v0=>
  (jj J 0 5 0 (mD x0 (List.length x0:Int) 0 v0) (e32 J m atQ [])))) (by simp only[ah,XP m];rfl)
theorem ayC m a0:e32 jn m [] [] ⟨[.dat 27 (.lst a0),.fn 42 []],[],0⟩=i32 (m+1) a0:=
 tq (g:=fun J=>(bif ((List.length a0:Int)==0) then
  some []
   else
  (jj J 0 3 0 (atU a0) (e32 J m [1,1] [])))) (by simp only[ah,XQ m];rfl)
noncomputable def e33 (J:Q11) (m:Nat):=evAt Tryz.prog env (ct m) J (m+1) 42 12 Tryz.f42 d33
theorem aBL m a0:e33 jn m [] [] ⟨[.dat 30 a0],[],0⟩=yD (m+1) a0:=
 tq (g:=fun J=>((i32 m (Dt.L a0 3)).bind fun r0=>
  ((i69 m (Dt.L a0 4)).bind fun r1=>
  some (Dt.agg [(Dt.int (Dt.I a0 0)),(Dt.int (Dt.I a0 1)),(Dt.str (Dt.S a0 2)),(Dt.lst r0),(Dt.lst r1)])))) (by rfl)
def atW:List Nat:=[1,1,1,0,1]
def KM:List Nat:=[1,1,1,0,1,0]
def abM:List Nat:=KM++[0,1,1]
def atX:List Nat:=abM++[1]
noncomputable def e69 (J:Q7) (m:Nat):=evAt Tryz.prog env (ct m) J (m+1) 98 29 Tryz.f98 d69
noncomputable def l69 (J:Q7) (m:Nat):=loopAt Tryz.prog env (ct m) J (m+1) 98 29 Tryz.f98 d69
noncomputable def mE (x0:List Dt) (x1 x2:Int) (x3:List Dt):St:=⟨tsOf [(1,.fn 99 []),(5,.row 0),(14,.dat 28 (.lst x0)),(15,.dat 3 (.int x1)),(16,.dat 3 (.int x2))],[.row 28 x3],0⟩
noncomputable def atY (x0:List Dt):St:=⟨tsOf [(5,.row 0)],[.row 28 x0],0⟩
noncomputable def atZ (x0:List Dt):St:=⟨tsOf [(0,.dat 28 (.lst x0)),(1,.fn 99 [])],[],0⟩
abbrev at0 (m M2:Nat) (rec2:Q3):Prop:=∀x0 x1 x2 x3,l69 jn m KM [] M2 (mE x0 x1 x2 x3)=rec2 x0 x1 x2 x3
theorem XR m M2 rec2 (h2:at0 m M2 rec2) x0 x1 x2 x3:e69 jn m atX [M2] (mE x0 x1 x2 x3)=zl m (yQ m) rec2 x0 x1 x2 x3:=
 tq (g:=fun J=>(jj J 1 5 M2 (mE x0 x1 (IntKind.wrap .i64 (x2+1)) x3) (l69 J m KM [] M2))) (by simp only[ah,h2];rfl)
theorem XT m M2 rec2 (h2:at0 m M2 rec2) x0 x1 x2 x3:e69 jn m abM [M2] (mE x0 x1 x2 x3)=zm m (yQ m) rec2 x0 x1 x2 x3:=
 tq (g:=fun J=>((idx x0 x2).bind fun v1=>
  ((yQ m v1).bind fun r2=>
  ((inL x3 x2).bind fun v3=>
  ((x3[(Int.toNat x2)]?).bind fun v4=>
  (jj J 0 8 0 (mE x0 x1 x2 (List.set x3 (Int.toNat x2) r2)) (e69 J m atX [M2]))))))) (by simp only[ah,XR m M2 rec2 h2];rfl)
theorem XU m x0:e69 jn m [1,1,1,1] [] (atY x0)=zn m (yQ m) x0:=
 tq (g:=fun J=>some x0) (by rfl)
theorem EH m:∀M2 x0 x1 x2 x3,l69 jn m KM [] M2 (mE x0 x1 x2 x3)=oZ m (yQ m) M2 x0 x1 x2 x3
 |0,_,_,_,_=>rfl
 | M2+1,x0,x1,x2,x3=>
   tl (g:=fun J=>(bif (decide (x2<x1)) then
  (jj J 0 6 0 (mE x0 x1 x2 x3) (e69 J m abM [M2]))
   else
  (jj J 0 9 0 (atY x3) (e69 J m [1,1,1,1] [])))) (by simp only[ah,XT m M2 (oZ m (yQ m) M2) (EH m M2),XU m];rfl)
theorem XV m x0 x1 x2 x3:e69 jn m atW [] (mE x0 x1 x2 x3)=zo m (yQ m) x0 x1 x2 x3:=
 tq (g:=fun J=>(jj J 1 5 (Nat.succ m) (mE x0 x1 x2 x3) (l69 J m KM [] (Nat.succ m)))) (by simp only[ah,EH m];rfl)
theorem XW m x0:e69 jn m [1,1] [] (atZ x0)=zq m (yQ m) x0:=
 tq (g:=fun J=>((mkL (List.length x0:Int) (List.length x0:Int) Vp).bind fun v0=>
  (jj J 0 5 0 (mE x0 (List.length x0:Int) 0 v0) (e69 J m atW [])))) (by simp only[ah,XV m];rfl)
theorem ayD m a0:e69 jn m [] [] ⟨[.dat 28 (.lst a0),.fn 99 []],[],0⟩=i69 (m+1) a0:=
 tq (g:=fun J=>(bif ((List.length a0:Int)==0) then
  some []
   else
  (jj J 0 3 0 (atZ a0) (e69 J m [1,1] [])))) (by simp only[ah,XW m];rfl)
noncomputable def e70 (J:Q11) (m:Nat):=evAt Tryz.prog env (ct m) J (m+1) 99 9 Tryz.f99 d70
theorem aBM m a0:e70 jn m [] [] ⟨[.dat 156 a0],[],0⟩=yQ (m+1) a0:=
 tq (g:=fun J=>((yD m (Dt.fld a0 1)).bind fun r0=>
  some (Dt.agg [(Dt.str (Dt.S a0 0)),r0]))) (by rfl)
noncomputable def e25 (J:Q11) (m:Nat):=evAt Tryz.prog env (ct m) J (m+1) 45 20 Tryz.f45 d25
theorem aBN m a0:e25 jn m [] [] ⟨[.dat 36 a0],[],0⟩=z7 (m+1) a0:=
 tq (g:=fun J=>((zW m (Dt.L a0 1)).bind fun r0=>
  ((zW m (Dt.L a0 3)).bind fun r1=>
  ((yD m (Dt.fld a0 4)).bind fun r2=>
  ((i68 m (Dt.L a0 6)).bind fun r3=>
  some (Dt.agg [(Dt.int (Dt.I a0 0)),(Dt.lst r0),(Dt.str (Dt.S a0 2)),(Dt.lst r1),r2,(Dt.int (Dt.I a0 5)),(Dt.lst r3)])))))) (by rfl)
def at1:List Nat:=[1,1,1,0,1]
def KN:List Nat:=[1,1,1,0,1,0]
def abN:List Nat:=KN++[0,1,1]
def at5:List Nat:=abN++[1]
noncomputable def e68 (J:Q7) (m:Nat):=evAt Tryz.prog env (ct m) J (m+1) 100 29 Tryz.f100 d68
noncomputable def l68 (J:Q7) (m:Nat):=loopAt Tryz.prog env (ct m) J (m+1) 100 29 Tryz.f100 d68
noncomputable def mF (x0:List Dt) (x1 x2:Int) (x3:List Dt):St:=⟨tsOf [(1,.fn 45 []),(5,.row 0),(14,.dat 34 (.lst x0)),(15,.dat 3 (.int x1)),(16,.dat 3 (.int x2))],[.row 34 x3],0⟩
noncomputable def at6 (x0:List Dt):St:=⟨tsOf [(5,.row 0)],[.row 34 x0],0⟩
noncomputable def at7 (x0:List Dt):St:=⟨tsOf [(0,.dat 34 (.lst x0)),(1,.fn 45 [])],[],0⟩
abbrev aua (m M2:Nat) (rec2:Q3):Prop:=∀x0 x1 x2 x3,l68 jn m KN [] M2 (mF x0 x1 x2 x3)=rec2 x0 x1 x2 x3
theorem XY m M2 rec2 (h2:aua m M2 rec2) x0 x1 x2 x3:e68 jn m at5 [M2] (mF x0 x1 x2 x3)=zu m (z7 m) rec2 x0 x1 x2 x3:=
 tq (g:=fun J=>(jj J 1 5 M2 (mF x0 x1 (IntKind.wrap .i64 (x2+1)) x3) (l68 J m KN [] M2))) (by simp only[ah,h2];rfl)
theorem XZ m M2 rec2 (h2:aua m M2 rec2) x0 x1 x2 x3:e68 jn m abN [M2] (mF x0 x1 x2 x3)=zw m (z7 m) rec2 x0 x1 x2 x3:=
 tq (g:=fun J=>((idx x0 x2).bind fun v1=>
  ((z7 m v1).bind fun r2=>
  ((inL x3 x2).bind fun v3=>
  ((x3[(Int.toNat x2)]?).bind fun v4=>
  (jj J 0 8 0 (mF x0 x1 x2 (List.set x3 (Int.toNat x2) r2)) (e68 J m at5 [M2]))))))) (by simp only[ah,XY m M2 rec2 h2];rfl)
theorem X0 m x0:e68 jn m [1,1,1,1] [] (at6 x0)=zx m (z7 m) x0:=
 tq (g:=fun J=>some x0) (by rfl)
theorem EI m:∀M2 x0 x1 x2 x3,l68 jn m KN [] M2 (mF x0 x1 x2 x3)=o7 m (z7 m) M2 x0 x1 x2 x3
 |0,_,_,_,_=>rfl
 | M2+1,x0,x1,x2,x3=>
   tl (g:=fun J=>(bif (decide (x2<x1)) then
  (jj J 0 6 0 (mF x0 x1 x2 x3) (e68 J m abN [M2]))
   else
  (jj J 0 9 0 (at6 x3) (e68 J m [1,1,1,1] [])))) (by simp only[ah,XZ m M2 (o7 m (z7 m) M2) (EI m M2),X0 m];rfl)
theorem X3 m x0 x1 x2 x3:e68 jn m at1 [] (mF x0 x1 x2 x3)=zy m (z7 m) x0 x1 x2 x3:=
 tq (g:=fun J=>(jj J 1 5 (Nat.succ m) (mF x0 x1 x2 x3) (l68 J m KN [] (Nat.succ m)))) (by simp only[ah,EI m];rfl)
theorem X4 m x0:e68 jn m [1,1] [] (at7 x0)=Aa m (z7 m) x0:=
 tq (g:=fun J=>((mkL (List.length x0:Int) (List.length x0:Int) vQ).bind fun v0=>
  (jj J 0 5 0 (mF x0 (List.length x0:Int) 0 v0) (e68 J m at1 [])))) (by simp only[ah,X3 m];rfl)
theorem ayE m a0:e68 jn m [] [] ⟨[.dat 34 (.lst a0),.fn 45 []],[],0⟩=i68 (m+1) a0:=
 tq (g:=fun J=>(bif ((List.length a0:Int)==0) then
  some []
   else
  (jj J 0 3 0 (at7 a0) (e68 J m [1,1] [])))) (by simp only[ah,X4 m];rfl)
noncomputable def e23 (J:Q11) (m:Nat):=evAt Tryz.prog env (ct m) J (m+1) 51 10 Tryz.f51 d23
theorem aBO m a0:e23 jn m [] [] ⟨[.dat 110 a0],[],0⟩=yX (m+1) a0:=
 tq (g:=fun J=>((zW m (Dt.L a0 0)).bind fun r0=>
  ((z7 m (Dt.fld a0 1)).bind fun r1=>
  some (Dt.agg [(Dt.lst r0),r1])))) (by rfl)
def aub:List Nat:=[1,1,1,0,1]
def KO:List Nat:=[1,1,1,0,1,0]
def abO:List Nat:=KO++[0,1,1]
def auc:List Nat:=abO++[1]
noncomputable def e22 (J:Q7) (m:Nat):=evAt Tryz.prog env (ct m) J (m+1) 50 29 Tryz.f50 d22
noncomputable def l22 (J:Q7) (m:Nat):=loopAt Tryz.prog env (ct m) J (m+1) 50 29 Tryz.f50 d22
noncomputable def mG (x0:List Dt) (x1 x2:Int) (x3:List Dt):St:=⟨tsOf [(1,.fn 51 []),(5,.row 0),(14,.dat 43 (.lst x0)),(15,.dat 3 (.int x1)),(16,.dat 3 (.int x2))],[.row 43 x3],0⟩
noncomputable def aud (x0:List Dt):St:=⟨tsOf [(5,.row 0)],[.row 43 x0],0⟩
noncomputable def aue (x0:List Dt):St:=⟨tsOf [(0,.dat 43 (.lst x0)),(1,.fn 51 [])],[],0⟩
abbrev auf (m M2:Nat) (rec2:Q3):Prop:=∀x0 x1 x2 x3,l22 jn m KO [] M2 (mG x0 x1 x2 x3)=rec2 x0 x1 x2 x3
theorem X5 m M2 rec2 (h2:auf m M2 rec2) x0 x1 x2 x3:e22 jn m auc [M2] (mG x0 x1 x2 x3)=Ab m rec2 x0 x1 x2 x3:=
 tq (g:=fun J=>(jj J 1 5 M2 (mG x0 x1 (IntKind.wrap .i64 (x2+1)) x3) (l22 J m KO [] M2))) (by simp only[ah,h2];rfl)
theorem X6 m M2 rec2 (h2:auf m M2 rec2) x0 x1 x2 x3:e22 jn m abO [M2] (mG x0 x1 x2 x3)=Ac m rec2 x0 x1 x2 x3:=
 tq (g:=fun J=>((idx x0 x2).bind fun v1=>
  ((yX m v1).bind fun r2=>
  ((inL x3 x2).bind fun v3=>
  ((x3[(Int.toNat x2)]?).bind fun v4=>
  (jj J 0 8 0 (mG x0 x1 x2 (List.set x3 (Int.toNat x2) r2)) (e22 J m auc [M2]))))))) (by simp only[ah,X5 m M2 rec2 h2];rfl)
theorem X7 m x0:e22 jn m [1,1,1,1] [] (aud x0)=Ad m x0:=
 tq (g:=fun J=>some x0) (by rfl)
theorem EJ m:∀M2 x0 x1 x2 x3,l22 jn m KO [] M2 (mG x0 x1 x2 x3)=o8 m M2 x0 x1 x2 x3
 |0,_,_,_,_=>rfl
 | M2+1,x0,x1,x2,x3=>
   tl (g:=fun J=>(bif (decide (x2<x1)) then
  (jj J 0 6 0 (mG x0 x1 x2 x3) (e22 J m abO [M2]))
   else
  (jj J 0 9 0 (aud x3) (e22 J m [1,1,1,1] [])))) (by simp only[ah,X6 m M2 (o8 m M2) (EJ m M2),X7 m];rfl)
theorem X8 m x0 x1 x2 x3:e22 jn m aub [] (mG x0 x1 x2 x3)=Ae m x0 x1 x2 x3:=
 tq (g:=fun J=>(jj J 1 5 (Nat.succ m) (mG x0 x1 x2 x3) (l22 J m KO [] (Nat.succ m)))) (by simp only[ah,EJ m];rfl)
theorem X9 m x0:e22 jn m [1,1] [] (aue x0)=Af m x0:=
 tq (g:=fun J=>((mkL (List.length x0:Int) (List.length x0:Int) Vq).bind fun v0=>
  (jj J 0 5 0 (mG x0 (List.length x0:Int) 0 v0) (e22 J m aub [])))) (by simp only[ah,X8 m];rfl)
theorem ayF m a0:e22 jn m [] [] ⟨[.dat 43 (.lst a0),.fn 51 []],[],0⟩=i22 (m+1) a0:=
 tq (g:=fun J=>(bif ((List.length a0:Int)==0) then
  some []
   else
  (jj J 0 3 0 (aue a0) (e22 J m [1,1] [])))) (by simp only[ah,X9 m];rfl)
noncomputable def e27 (J:Q11) (m:Nat):=evAt Tryz.prog env (ct m) J (m+1) 53 12 Tryz.f53 d27
theorem aBP m a0:e27 jn m [] [] ⟨[.dat 114 a0],[],0⟩=vC (m+1) a0:=
 tq (g:=fun J=>((z7 m (Dt.fld a0 2)).bind fun r0=>
  ((i12 m (Dt.L a0 3)).bind fun r1=>
  some (Dt.agg [(Dt.str (Dt.S a0 0)),(Dt.int (Dt.I a0 1)),r0,(Dt.lst r1),(Dt.int (Dt.I a0 4))])))) (by rfl)
def aug:List Nat:=[1,1,1,0,1]
def KP:List Nat:=[1,1,1,0,1,0]
def abP:List Nat:=KP++[0,1,1]
def auh:List Nat:=abP++[1]
noncomputable def e26 (J:Q7) (m:Nat):=evAt Tryz.prog env (ct m) J (m+1) 52 29 Tryz.f52 d26
noncomputable def l26 (J:Q7) (m:Nat):=loopAt Tryz.prog env (ct m) J (m+1) 52 29 Tryz.f52 d26
noncomputable def mH (x0:List Dt) (x1 x2:Int) (x3:List Dt):St:=⟨tsOf [(1,.fn 53 []),(5,.row 0),(14,.dat 59 (.lst x0)),(15,.dat 3 (.int x1)),(16,.dat 3 (.int x2))],[.row 59 x3],0⟩
noncomputable def aui (x0:List Dt):St:=⟨tsOf [(5,.row 0)],[.row 59 x0],0⟩
noncomputable def auj (x0:List Dt):St:=⟨tsOf [(0,.dat 59 (.lst x0)),(1,.fn 53 [])],[],0⟩
abbrev auk (m M2:Nat) (rec2:Q3):Prop:=∀x0 x1 x2 x3,l26 jn m KP [] M2 (mH x0 x1 x2 x3)=rec2 x0 x1 x2 x3
theorem Ya m M2 rec2 (h2:auk m M2 rec2) x0 x1 x2 x3:e26 jn m auh [M2] (mH x0 x1 x2 x3)=Ag m rec2 x0 x1 x2 x3:=
 tq (g:=fun J=>(jj J 1 5 M2 (mH x0 x1 (IntKind.wrap .i64 (x2+1)) x3) (l26 J m KP [] M2))) (by simp only[ah,h2];rfl)
theorem Yb m M2 rec2 (h2:auk m M2 rec2) x0 x1 x2 x3:e26 jn m abP [M2] (mH x0 x1 x2 x3)=Ah m rec2 x0 x1 x2 x3:=
 tq (g:=fun J=>((idx x0 x2).bind fun v1=>
  ((vC m v1).bind fun r2=>
  ((inL x3 x2).bind fun v3=>
  ((x3[(Int.toNat x2)]?).bind fun v4=>
  (jj J 0 8 0 (mH x0 x1 x2 (List.set x3 (Int.toNat x2) r2)) (e26 J m auh [M2]))))))) (by simp only[ah,Ya m M2 rec2 h2];rfl)
theorem Yc m x0:e26 jn m [1,1,1,1] [] (aui x0)=Ai m x0:=
 tq (g:=fun J=>some x0) (by rfl)
theorem EK m:∀M2 x0 x1 x2 x3,l26 jn m KP [] M2 (mH x0 x1 x2 x3)=o9 m M2 x0 x1 x2 x3
 |0,_,_,_,_=>rfl
 | M2+1,x0,x1,x2,x3=>
   tl (g:=fun J=>(bif (decide (x2<x1)) then
  (jj J 0 6 0 (mH x0 x1 x2 x3) (e26 J m abP [M2]))
   else
  (jj J 0 9 0 (aui x3) (e26 J m [1,1,1,1] [])))) (by simp only[ah,Yb m M2 (o9 m M2) (EK m M2),Yc m];rfl)
theorem Yd m x0 x1 x2 x3:e26 jn m aug [] (mH x0 x1 x2 x3)=Aj m x0 x1 x2 x3:=
 tq (g:=fun J=>(jj J 1 5 (Nat.succ m) (mH x0 x1 x2 x3) (l26 J m KP [] (Nat.succ m)))) (by simp only[ah,EK m];rfl)
theorem Ye m x0:e26 jn m [1,1] [] (auj x0)=Ak m x0:=
 tq (g:=fun J=>((mkL (List.length x0:Int) (List.length x0:Int) Vr).bind fun v0=>
  (jj J 0 5 0 (mH x0 (List.length x0:Int) 0 v0) (e26 J m aug [])))) (by simp only[ah,Yd m];rfl)
theorem ayG m a0:e26 jn m [] [] ⟨[.dat 59 (.lst a0),.fn 53 []],[],0⟩=i26 (m+1) a0:=
 tq (g:=fun J=>(bif ((List.length a0:Int)==0) then
  some []
   else
  (jj J 0 3 0 (auj a0) (e26 J m [1,1] [])))) (by simp only[ah,Ye m];rfl)
noncomputable def e29 (J:Q11) (m:Nat):=evAt Tryz.prog env (ct m) J (m+1) 55 8 Tryz.f55 d29
theorem aBQ m a0:e29 jn m [] [] ⟨[.dat 118 a0],[],0⟩=vD (m+1) a0:=
 tq (g:=fun J=>((z7 m (Dt.fld a0 2)).bind fun r0=>
  some (Dt.agg [(Dt.str (Dt.S a0 0)),(Dt.int (Dt.I a0 1)),r0,(Dt.int (Dt.I a0 3)),(Dt.int (Dt.I a0 4)),(Dt.bool (Dt.B a0 5))]))) (by rfl)
def aul:List Nat:=[1,1,1,0,1]
def KQ:List Nat:=[1,1,1,0,1,0]
def abQ:List Nat:=KQ++[0,1,1]
def aum:List Nat:=abQ++[1]
noncomputable def e28 (J:Q7) (m:Nat):=evAt Tryz.prog env (ct m) J (m+1) 54 29 Tryz.f54 d28
noncomputable def l28 (J:Q7) (m:Nat):=loopAt Tryz.prog env (ct m) J (m+1) 54 29 Tryz.f54 d28
noncomputable def mI (x0:List Dt) (x1 x2:Int) (x3:List Dt):St:=⟨tsOf [(1,.fn 55 []),(5,.row 0),(14,.dat 62 (.lst x0)),(15,.dat 3 (.int x1)),(16,.dat 3 (.int x2))],[.row 62 x3],0⟩
noncomputable def aun (x0:List Dt):St:=⟨tsOf [(5,.row 0)],[.row 62 x0],0⟩
noncomputable def auo (x0:List Dt):St:=⟨tsOf [(0,.dat 62 (.lst x0)),(1,.fn 55 [])],[],0⟩
abbrev aup (m M2:Nat) (rec2:Q3):Prop:=∀x0 x1 x2 x3,l28 jn m KQ [] M2 (mI x0 x1 x2 x3)=rec2 x0 x1 x2 x3
theorem Yf m M2 rec2 (h2:aup m M2 rec2) x0 x1 x2 x3:e28 jn m aum [M2] (mI x0 x1 x2 x3)=Al m rec2 x0 x1 x2 x3:=
 tq (g:=fun J=>(jj J 1 5 M2 (mI x0 x1 (IntKind.wrap .i64 (x2+1)) x3) (l28 J m KQ [] M2))) (by simp only[ah,h2];rfl)
theorem Yg m M2 rec2 (h2:aup m M2 rec2) x0 x1 x2 x3:e28 jn m abQ [M2] (mI x0 x1 x2 x3)=Ao m rec2 x0 x1 x2 x3:=
 tq (g:=fun J=>((idx x0 x2).bind fun v1=>
  ((vD m v1).bind fun r2=>
  ((inL x3 x2).bind fun v3=>
  ((x3[(Int.toNat x2)]?).bind fun v4=>
  (jj J 0 8 0 (mI x0 x1 x2 (List.set x3 (Int.toNat x2) r2)) (e28 J m aum [M2]))))))) (by simp only[ah,Yf m M2 rec2 h2];rfl)
theorem Yh m x0:e28 jn m [1,1,1,1] [] (aun x0)=Ap m x0:=
 tq (g:=fun J=>some x0) (by rfl)
theorem EL m:∀M2 x0 x1 x2 x3,l28 jn m KQ [] M2 (mI x0 x1 x2 x3)=pq m M2 x0 x1 x2 x3
 |0,_,_,_,_=>rfl
 | M2+1,x0,x1,x2,x3=>
   tl (g:=fun J=>(bif (decide (x2<x1)) then
  (jj J 0 6 0 (mI x0 x1 x2 x3) (e28 J m abQ [M2]))
   else
  (jj J 0 9 0 (aun x3) (e28 J m [1,1,1,1] [])))) (by simp only[ah,Yg m M2 (pq m M2) (EL m M2),Yh m];rfl)
theorem Yi m x0 x1 x2 x3:e28 jn m aul [] (mI x0 x1 x2 x3)=Aq m x0 x1 x2 x3:=
 tq (g:=fun J=>(jj J 1 5 (Nat.succ m) (mI x0 x1 x2 x3) (l28 J m KQ [] (Nat.succ m)))) (by simp only[ah,EL m];rfl)
theorem Yj m x0:e28 jn m [1,1] [] (auo x0)=Ar m x0:=
 tq (g:=fun J=>((mkL (List.length x0:Int) (List.length x0:Int) Vs).bind fun v0=>
  (jj J 0 5 0 (mI x0 (List.length x0:Int) 0 v0) (e28 J m aul [])))) (by simp only[ah,Yi m];rfl)
theorem ayH m a0:e28 jn m [] [] ⟨[.dat 62 (.lst a0),.fn 55 []],[],0⟩=i28 (m+1) a0:=
 tq (g:=fun J=>(bif ((List.length a0:Int)==0) then
  some []
   else
  (jj J 0 3 0 (auo a0) (e28 J m [1,1] [])))) (by simp only[ah,Yj m];rfl)
def auq:List Nat:=[1,1,1,0,1]
def KR:List Nat:=[1,1,1,0,1,0]
def abR:List Nat:=KR++[0,1,1]
def aur:List Nat:=abR++[1]
noncomputable def e34 (J:Q7) (m:Nat):=evAt Tryz.prog env (ct m) J (m+1) 47 29 Tryz.f47 d34
noncomputable def l34 (J:Q7) (m:Nat):=loopAt Tryz.prog env (ct m) J (m+1) 47 29 Tryz.f47 d34
noncomputable def mJ (x0:List Dt) (x1 x2:Int) (x3:List Dt):St:=⟨tsOf [(1,.fn 41 []),(5,.row 0),(14,.dat 41 (.lst x0)),(15,.dat 3 (.int x1)),(16,.dat 3 (.int x2))],[.row 41 x3],0⟩
noncomputable def aus (x0:List Dt):St:=⟨tsOf [(5,.row 0)],[.row 41 x0],0⟩
noncomputable def aut (x0:List Dt):St:=⟨tsOf [(0,.dat 41 (.lst x0)),(1,.fn 41 [])],[],0⟩
abbrev auu (m M2:Nat) (rec2:Q3):Prop:=∀x0 x1 x2 x3,l34 jn m KR [] M2 (mJ x0 x1 x2 x3)=rec2 x0 x1 x2 x3
theorem Yk m M2 rec2 (h2:auu m M2 rec2) x0 x1 x2 x3:e34 jn m aur [M2] (mJ x0 x1 x2 x3)=Au m rec2 x0 x1 x2 x3:=
 tq (g:=fun J=>(jj J 1 5 M2 (mJ x0 x1 (IntKind.wrap .i64 (x2+1)) x3) (l34 J m KR [] M2))) (by simp only[ah,h2];rfl)
theorem Yl m M2 rec2 (h2:auu m M2 rec2) x0 x1 x2 x3:e34 jn m abR [M2] (mJ x0 x1 x2 x3)=Av m rec2 x0 x1 x2 x3:=
 tq (g:=fun J=>((idx x0 x2).bind fun v1=>
  ((zW m (Dt.toLst v1)).bind fun r2=>
  ((inL x3 x2).bind fun v3=>
  ((x3[(Int.toNat x2)]?).bind fun v4=>
  (jj J 0 8 0 (mJ x0 x1 x2 (List.set x3 (Int.toNat x2) (Dt.lst r2))) (e34 J m aur [M2]))))))) (by simp only[ah,Yk m M2 rec2 h2];rfl)
theorem Ym m x0:e34 jn m [1,1,1,1] [] (aus x0)=Ay m x0:=
 tq (g:=fun J=>some x0) (by rfl)
theorem EM m:∀M2 x0 x1 x2 x3,l34 jn m KR [] M2 (mJ x0 x1 x2 x3)=pz m M2 x0 x1 x2 x3
 |0,_,_,_,_=>rfl
 | M2+1,x0,x1,x2,x3=>
   tl (g:=fun J=>(bif (decide (x2<x1)) then
  (jj J 0 6 0 (mJ x0 x1 x2 x3) (e34 J m abR [M2]))
   else
  (jj J 0 9 0 (aus x3) (e34 J m [1,1,1,1] [])))) (by simp only[ah,Yl m M2 (pz m M2) (EM m M2),Ym m];rfl)
theorem Yn m x0 x1 x2 x3:e34 jn m auq [] (mJ x0 x1 x2 x3)=Az m x0 x1 x2 x3:=
 tq (g:=fun J=>(jj J 1 5 (Nat.succ m) (mJ x0 x1 x2 x3) (l34 J m KR [] (Nat.succ m)))) (by simp only[ah,EM m];rfl)
theorem Yo m x0:e34 jn m [1,1] [] (aut x0)=AA m x0:=
 tq (g:=fun J=>((mkL (List.length x0:Int) (List.length x0:Int) (Dt.lst [])).bind fun v0=>
  (jj J 0 5 0 (mJ x0 (List.length x0:Int) 0 v0) (e34 J m auq [])))) (by simp only[ah,Yn m];rfl)
theorem ayI m a0:e34 jn m [] [] ⟨[.dat 41 (.lst a0),.fn 41 []],[],0⟩=i34 (m+1) a0:=
 tq (g:=fun J=>(bif ((List.length a0:Int)==0) then
  some []
   else
  (jj J 0 3 0 (aut a0) (e34 J m [1,1] [])))) (by simp only[ah,Yo m];rfl)
noncomputable def e35 (J:Q11) (m:Nat):=evAt Tryz.prog env (ct m) J (m+1) 44 8 Tryz.f44 d35
theorem aBR m a0:e35 jn m [] [] ⟨[.dat 33 a0],[],0⟩=yY (m+1) a0:=
 tq (g:=fun J=>((app [] (Dt.L a0 1)).bind fun v0=>
  some (Dt.agg [(Dt.int (Dt.I a0 0)),(Dt.lst v0),(Dt.int (Dt.I a0 2))]))) (by rfl)
noncomputable def e20 (J:Q11) (m:Nat):=evAt Tryz.prog env (ct m) J (m+1) 20 28 Tryz.f20 d20
theorem aBS m a0:e20 jn m [] [] ⟨[.dat 39 a0],[],0⟩=yH (m+1) a0:=
 tq (g:=fun J=>((zW m (Dt.L a0 1)).bind fun r0=>
  ((yD m (Dt.fld a0 2)).bind fun r1=>
  ((i32 m (Dt.L a0 3)).bind fun r2=>
  ((yY m (Dt.fld a0 6)).bind fun r3=>
  ((z7 m (Dt.fld a0 7)).bind fun r4=>
  ((i65 m (Dt.L a0 8)).bind fun r5=>
  some (Dt.agg [(Dt.int (Dt.I a0 0)),(Dt.lst r0),r1,(Dt.lst r2),(Dt.int (Dt.I a0 4)),(Dt.int (Dt.I a0 5)),r3,r4,(Dt.lst r5)])))))))) (by rfl)
def auv:List Nat:=[1,1,1,0,1]
def KS:List Nat:=[1,1,1,0,1,0]
def abS:List Nat:=KS++[0,1,1]
def auw:List Nat:=abS++[1]
noncomputable def e65 (J:Q7) (m:Nat):=evAt Tryz.prog env (ct m) J (m+1) 46 29 Tryz.f46 d65
noncomputable def l65 (J:Q7) (m:Nat):=loopAt Tryz.prog env (ct m) J (m+1) 46 29 Tryz.f46 d65
noncomputable def mK (x0:List Dt) (x1 x2:Int) (x3:List Dt):St:=⟨tsOf [(1,.fn 20 []),(5,.row 0),(14,.dat 37 (.lst x0)),(15,.dat 3 (.int x1)),(16,.dat 3 (.int x2))],[.row 37 x3],0⟩
noncomputable def auy (x0:List Dt):St:=⟨tsOf [(5,.row 0)],[.row 37 x0],0⟩
noncomputable def auz (x0:List Dt):St:=⟨tsOf [(0,.dat 37 (.lst x0)),(1,.fn 20 [])],[],0⟩
abbrev auA (m M2:Nat) (rec2:Q3):Prop:=∀x0 x1 x2 x3,l65 jn m KS [] M2 (mK x0 x1 x2 x3)=rec2 x0 x1 x2 x3
theorem Yp m M2 rec2 (h2:auA m M2 rec2) x0 x1 x2 x3:e65 jn m auw [M2] (mK x0 x1 x2 x3)=AB m (yH m) rec2 x0 x1 x2 x3:=
 tq (g:=fun J=>(jj J 1 5 M2 (mK x0 x1 (IntKind.wrap .i64 (x2+1)) x3) (l65 J m KS [] M2))) (by simp only[ah,h2];rfl)
theorem Yq m M2 rec2 (h2:auA m M2 rec2) x0 x1 x2 x3:e65 jn m abS [M2] (mK x0 x1 x2 x3)=AJ m (yH m) rec2 x0 x1 x2 x3:=
 tq (g:=fun J=>((idx x0 x2).bind fun v1=>
  ((yH m v1).bind fun r2=>
  ((inL x3 x2).bind fun v3=>
  ((x3[(Int.toNat x2)]?).bind fun v4=>
  (jj J 0 8 0 (mK x0 x1 x2 (List.set x3 (Int.toNat x2) r2)) (e65 J m auw [M2]))))))) (by simp only[ah,Yp m M2 rec2 h2];rfl)
theorem Yr m x0:e65 jn m [1,1,1,1] [] (auy x0)=AL m (yH m) x0:=
 tq (g:=fun J=>some x0) (by rfl)
theorem EN m:∀M2 x0 x1 x2 x3,l65 jn m KS [] M2 (mK x0 x1 x2 x3)=pE m (yH m) M2 x0 x1 x2 x3
 |0,_,_,_,_=>rfl
 | M2+1,x0,x1,x2,x3=>
   tl (g:=fun J=>(bif (decide (x2<x1)) then
  (jj J 0 6 0 (mK x0 x1 x2 x3) (e65 J m abS [M2]))
   else
  (jj J 0 9 0 (auy x3) (e65 J m [1,1,1,1] [])))) (by simp only[ah,Yq m M2 (pE m (yH m) M2) (EN m M2),Yr m];rfl)
theorem Yt m x0 x1 x2 x3:e65 jn m auv [] (mK x0 x1 x2 x3)=AO m (yH m) x0 x1 x2 x3:=
 tq (g:=fun J=>(jj J 1 5 (Nat.succ m) (mK x0 x1 x2 x3) (l65 J m KS [] (Nat.succ m)))) (by simp only[ah,EN m];rfl)
theorem Yu m x0:e65 jn m [1,1] [] (auz x0)=AP m (yH m) x0:=
 tq (g:=fun J=>((mkL (List.length x0:Int) (List.length x0:Int) vR).bind fun v0=>
  (jj J 0 5 0 (mK x0 (List.length x0:Int) 0 v0) (e65 J m auv [])))) (by simp only[ah,Yt m];rfl)
theorem ayJ m a0:e65 jn m [] [] ⟨[.dat 37 (.lst a0),.fn 20 []],[],0⟩=i65 (m+1) a0:=
 tq (g:=fun J=>(bif ((List.length a0:Int)==0) then
  some []
   else
  (jj J 0 3 0 (auz a0) (e65 J m [1,1] [])))) (by simp only[ah,Yu m];rfl)
def Ui:List Nat:=[1,1,0,1,0]
def abT:List Nat:=[1,1,0,1,0,0,1]
def auB:List Nat:=abT++[1]
noncomputable def e38 (J:Q0) (m:Nat):=evAt Tryz.prog env (ct m) J (m+1) 72 45 Tryz.f72 d9
noncomputable def l38 (J:Q0) (m:Nat):=loopAt Tryz.prog env (ct m) J (m+1) 72 45 Tryz.f72 d9
noncomputable def mM (x0:Int) (x1 x2:Dt):St:=⟨tsOf [(2,.ptr 0 [] 0),(3,.ptr 1 [] 0),(5,.dat 3 (.int x0))],[.box 33 (.dat 33 x1),.box 33 (.dat 33 x2)],0⟩
noncomputable def auC:St:=⟨tsOf [],[],0⟩
noncomputable def auD (x0 x1:Dt):St:=⟨tsOf [(2,.ptr 0 [] 0),(3,.ptr 1 [] 0)],[.box 33 (.dat 33 x0),.box 33 (.dat 33 x1)],0⟩
noncomputable def Uj (x0:Bool) (x1 x2:Dt):St:=⟨tsOf [(2,.ptr 0 [] 0),(3,.ptr 1 [] 0),(26,.dat 4 (.bool x0))],[.box 33 (.dat 33 x1),.box 33 (.dat 33 x2)],0⟩
abbrev auE (m M3:Nat) (rec3:Q9):Prop:=∀x0 x1 x2,l38 jn m Ui [] M3 (mM x0 x1 x2)=rec3 x0 x1 x2
theorem abU m M3 rec3 (h3:auE m M3 rec3) x0 x1 x2:e38 jn m auB [M3] (mM x0 x1 x2)=FI m rec3 x0 x1 x2:=
 tq (g:=fun J=>(jj J 1 4 M3 (mM (IntKind.wrap .i64 (x0+1)) x1 x2) (l38 J m Ui [] M3))) (by simp only[ah,h3];rfl)
theorem abV m M3 rec3 (h3:auE m M3 rec3) x0 x1 x2:e38 jn m abT [M3] (mM x0 x1 x2)=FJ m rec3 x0 x1 x2:=
 tq (g:=fun J=>((idx (Dt.L x1 1) x0).bind fun v0=>
  ((idx (Dt.L x2 1) x0).bind fun v1=>
  (bif (Bool.not (Bool.and ((Dt.I v0 0)==(Dt.I v1 0)) ((Dt.I v0 1)==(Dt.I v1 1)))) then
  some false
  else
  (jj J 0 5 0 (mM x0 x1 x2) (e38 J m auB [M3])))))) (by simp only[ah,abU m M3 rec3 h3];rfl)
theorem abW m:e38 jn m [1,1,1] [] auC=FK m:=
 tq (g:=fun J=>some true) (by rfl)
theorem KU m:∀M3 x0 x1 x2,l38 jn m Ui [] M3 (mM x0 x1 x2)=AQ m M3 x0 x1 x2
 |0,_,_,_=>rfl
 | M3+1,x0,x1,x2=>
   tl (g:=fun J=>(bif (decide (x0<(List.length (Dt.L x1 1):Int))) then
  (jj J 0 6 0 (mM x0 x1 x2) (e38 J m abT [M3]))
   else
  (jj J 0 8 0 auC (e38 J m [1,1,1] [])))) (by simp only[ah,abV m M3 (AQ m M3) (KU m M3),abW m];rfl)
theorem abX m x0 x1 x2:e38 jn m [1,1,0,1] [] (mM x0 x1 x2)=FL m x0 x1 x2:=
 tq (g:=fun J=>(jj J 1 4 (Nat.succ m) (mM x0 x1 x2) (l38 J m Ui [] (Nat.succ m)))) (by simp only[ah,KU m];rfl)
theorem abY m x0 x1:e38 jn m [1,1] [] (auD x0 x1)=FM m x0 x1:=
 tq (g:=fun J=>(jj J 0 4 0 (mM 0 x0 x1) (e38 J m [1,1,0,1] []))) (by simp only[ah,abX m];rfl)
theorem abZ m x0 x1 x2:e38 jn m [1,0,1] [] (Uj x0 x1 x2)=nM m x0 x1 x2:=
 tq (g:=fun J=>(bif x0 then
  some false
   else
  (jj J 0 3 0 (auD x1 x2) (e38 J m [1,1] [])))) (by simp only[ah,abY m];rfl)
theorem aBT m a0 a1:e38 jn m [] [] ⟨[.dat 33 a0,.dat 33 a1],[],0⟩=qH (m+1) a0 a1:=
 tq (g:=fun J=>(bif ((Dt.I a0 0) !=(Dt.I a1 0)) then
  (jj J 0 2 0 (Uj true a0 a1) (e38 J m [1,0,1] []))
   else
  (bif ((Dt.I a0 2) !=(Dt.I a1 2)) then
  (jj J 0 2 0 (Uj true a0 a1) (e38 J m [1,0,1] []))
  else
  (jj J 0 2 0 (Uj ((List.length (Dt.L a0 1):Int) !=(List.length (Dt.L a1 1):Int)) a0 a1) (e38 J m [1,0,1] []))))) (by simp only[ah,abZ m];rfl)
def Uk:List Nat:=[1,1,0,1,0]
def ab0:List Nat:=[1,1,0,1,0,0,1]
def auF:List Nat:=ab0++[1]
noncomputable def e47 (J:Q0) (m:Nat):=evAt Tryz.prog env (ct m) J (m+1) 73 26 Tryz.f73 d9
noncomputable def l47 (J:Q0) (m:Nat):=loopAt Tryz.prog env (ct m) J (m+1) 73 26 Tryz.f73 d9
noncomputable def mO (x0 x1:List Dt) (x2:Int):St:=⟨tsOf [(0,.dat 26 (.lst x0)),(1,.dat 26 (.lst x1)),(5,.dat 3 (.int x2))],[],0⟩
noncomputable def auG:St:=⟨tsOf [],[],0⟩
noncomputable def auH (x0 x1:List Dt):St:=⟨tsOf [(0,.dat 26 (.lst x0)),(1,.dat 26 (.lst x1))],[],0⟩
abbrev auI (m M2:Nat) (rec2:Q10):Prop:=∀x0 x1 x2,l47 jn m Uk [] M2 (mO x0 x1 x2)=rec2 x0 x1 x2
theorem ab1 m M2 rec2 (h2:auI m M2 rec2) x0 x1 x2:e47 jn m auF [M2] (mO x0 x1 x2)=FN m rec2 x0 x1 x2:=
 tq (g:=fun J=>(jj J 1 4 M2 (mO x0 x1 (IntKind.wrap .i64 (x2+1))) (l47 J m Uk [] M2))) (by simp only[ah,h2];rfl)
theorem ab2 m M2 rec2 (h2:auI m M2 rec2) x0 x1 x2:e47 jn m ab0 [M2] (mO x0 x1 x2)=FP m rec2 x0 x1 x2:=
 tq (g:=fun J=>((idx x0 x2).bind fun v0=>
  ((idx x1 x2).bind fun v1=>
  (bif (Bool.not ((ByteArray.toList (Dt.toStr v0))==(ByteArray.toList (Dt.toStr v1)))) then
  some false
  else
  (jj J 0 5 0 (mO x0 x1 x2) (e47 J m auF [M2])))))) (by simp only[ah,ab1 m M2 rec2 h2];rfl)
theorem ab3 m:e47 jn m [1,1,1] [] auG=MS m:=
 tq (g:=fun J=>some true) (by rfl)
theorem KV m:∀M2 x0 x1 x2,l47 jn m Uk [] M2 (mO x0 x1 x2)=uM m M2 x0 x1 x2
 |0,_,_,_=>rfl
 | M2+1,x0,x1,x2=>
   tl (g:=fun J=>(bif (decide (x2<(List.length x0:Int))) then
  (jj J 0 6 0 (mO x0 x1 x2) (e47 J m ab0 [M2]))
   else
  (jj J 0 8 0 auG (e47 J m [1,1,1] [])))) (by simp only[ah,ab2 m M2 (uM m M2) (KV m M2),ab3 m];rfl)
theorem ab4 m x0 x1 x2:e47 jn m [1,1,0,1] [] (mO x0 x1 x2)=MU m x0 x1 x2:=
 tq (g:=fun J=>(jj J 1 4 (Nat.succ m) (mO x0 x1 x2) (l47 J m Uk [] (Nat.succ m)))) (by simp only[ah,KV m];rfl)
theorem ab5 m x0 x1:e47 jn m [1,1] [] (auH x0 x1)=MV m x0 x1:=
 tq (g:=fun J=>(jj J 0 4 0 (mO x0 x1 0) (e47 J m [1,1,0,1] []))) (by simp only[ah,ab4 m];rfl)
theorem aBU m a0 a1:e47 jn m [] [] ⟨[.dat 26 (.lst a0),.dat 26 (.lst a1)],[],0⟩=zL (m+1) a0 a1:=
 tq (g:=fun J=>(bif (decide ((List.length a1:Int)<(List.length a0:Int))) then
  some false
   else
  (jj J 0 3 0 (auH a0 a1) (e47 J m [1,1] [])))) (by simp only[ah,ab5 m];rfl)
noncomputable def e16 (J:Q0) (m:Nat):=evAt Tryz.prog env (ct m) J (m+1) 33 15 Tryz.f33 d9
theorem aBV m a0 a1:e16 jn m [] [] ⟨[.dat 26 (.lst a0),.dat 26 (.lst a1)],[],0⟩=yE (m+1) a0 a1:=
 tq (g:=fun J=>(bif ((List.length a0:Int)==(List.length a1:Int)) then
  ((zL m a0 a1).bind fun r0=>
  some r0)
   else
  some false)) (by rfl)
def aq3:List Nat:=[1,1,0,1,0]
def aq4:List Nat:=[1,1,0,1,0,0,1]
def aBW:List Nat:=aq4++[1]
def ayK:List Nat:=aq4++[0,0,1]
noncomputable def e6 (J:Q0) (m:Nat):=evAt Tryz.prog env (ct m) J (m+1) 13 42 Tryz.f13 d9
noncomputable def l6 (J:Q0) (m:Nat):=loopAt Tryz.prog env (ct m) J (m+1) 13 42 Tryz.f13 d9
noncomputable def DK (x0 x1:List Dt) (x2:Int):St:=⟨tsOf [(0,.dat 40 (.lst x0)),(1,.dat 40 (.lst x1)),(5,.dat 3 (.int x2))],[],0⟩
noncomputable def ayL (x0 x1:List Dt) (x2:Int) (x3:Bool):St:=⟨tsOf [(0,.dat 40 (.lst x0)),(1,.dat 40 (.lst x1)),(5,.dat 3 (.int x2)),(41,.dat 4 (.bool x3))],[],0⟩
noncomputable def aBX:St:=⟨tsOf [],[],0⟩
noncomputable def aBY (x0 x1:List Dt):St:=⟨tsOf [(0,.dat 40 (.lst x0)),(1,.dat 40 (.lst x1))],[],0⟩
abbrev ayM (m M2:Nat) (rec2:Q10):Prop:=∀x0 x1 x2,l6 jn m aq3 [] M2 (DK x0 x1 x2)=rec2 x0 x1 x2
theorem ab6 m M2 rec2 (h2:ayM m M2 rec2) x0 x1 x2:e6 jn m aBW [M2] (DK x0 x1 x2)=MW m rec2 x0 x1 x2:=
 tq (g:=fun J=>(jj J 1 4 M2 (DK x0 x1 (IntKind.wrap .i64 (x2+1))) (l6 J m aq3 [] M2))) (by simp only[ah,h2];rfl)
theorem ab7 m M2 rec2 (h2:ayM m M2 rec2) x0 x1 x2 x3:e6 jn m ayK [M2] (ayL x0 x1 x2 x3)=FR m rec2 x0 x1 x2 x3:=
 tq (g:=fun J=>(bif x3 then
  some false
   else
  (jj J 0 5 0 (DK x0 x1 x2) (e6 J m aBW [M2])))) (by simp only[ah,ab6 m M2 rec2 h2];rfl)
theorem ab8 m M2 rec2 (h2:ayM m M2 rec2) x0 x1 x2:e6 jn m aq4 [M2] (DK x0 x1 x2)=MX m rec2 x0 x1 x2:=
 tq (g:=fun J=>((idx x0 x2).bind fun v0=>
  ((idx x1 x2).bind fun v1=>
  (bif (Bool.not ((Dt.B v0 1)==(Dt.B v1 1))) then
  (jj J 0 7 0 (ayL x0 x1 x2 true) (e6 J m ayK [M2]))
  else
  ((idx x0 x2).bind fun v2=>
  ((idx x1 x2).bind fun v3=>
  ((yE m (Dt.L v2 0) (Dt.L v3 0)).bind fun r4=>
  (jj J 0 7 0 (ayL x0 x1 x2 (Bool.not r4)) (e6 J m ayK [M2]))))))))) (by simp only[ah,ab7 m M2 rec2 h2];rfl)
theorem ab9 m:e6 jn m [1,1,1] [] aBX=MZ m:=
 tq (g:=fun J=>some true) (by rfl)
theorem KW m:∀M2 x0 x1 x2,l6 jn m aq3 [] M2 (DK x0 x1 x2)=FT m M2 x0 x1 x2
 |0,_,_,_=>rfl
 | M2+1,x0,x1,x2=>
   tl (g:=fun J=>(bif (decide (x2<(List.length x0:Int))) then
  (jj J 0 6 0 (DK x0 x1 x2) (e6 J m aq4 [M2]))
   else
  (jj J 0 8 0 aBX (e6 J m [1,1,1] [])))) (by simp only[ah,ab8 m M2 (FT m M2) (KW m M2),ab9 m];rfl)
theorem acd m x0 x1 x2:e6 jn m [1,1,0,1] [] (DK x0 x1 x2)=M0 m x0 x1 x2:=
 tq (g:=fun J=>(jj J 1 4 (Nat.succ m) (DK x0 x1 x2) (l6 J m aq3 [] (Nat.succ m)))) (by simp only[ah,KW m];rfl)
theorem ace m x0 x1:e6 jn m [1,1] [] (aBY x0 x1)=Na m x0 x1:=
 tq (g:=fun J=>(jj J 0 4 0 (DK x0 x1 0) (e6 J m [1,1,0,1] []))) (by simp only[ah,acd m];rfl)
theorem aBZ m a0 a1:e6 jn m [] [] ⟨[.dat 40 (.lst a0),.dat 40 (.lst a1)],[],0⟩=qP (m+1) a0 a1:=
 tq (g:=fun J=>(bif ((List.length a0:Int) !=(List.length a1:Int)) then
  some false
   else
  (jj J 0 3 0 (aBY a0 a1) (e6 J m [1,1] [])))) (by simp only[ah,ace m];rfl)
def Ul:List Nat:=[1,1,0,1,0]
def acf:List Nat:=[1,1,0,1,0,0,1]
def auJ:List Nat:=acf++[1]
noncomputable def e37 (J:Q0) (m:Nat):=evAt Tryz.prog env (ct m) J (m+1) 63 27 Tryz.f63 d9
noncomputable def l37 (J:Q0) (m:Nat):=loopAt Tryz.prog env (ct m) J (m+1) 63 27 Tryz.f63 d9
noncomputable def mP (x0 x1:List Dt) (x2:Int):St:=⟨tsOf [(0,.dat 41 (.lst x0)),(1,.dat 41 (.lst x1)),(5,.dat 3 (.int x2))],[],0⟩
noncomputable def auK:St:=⟨tsOf [],[],0⟩
noncomputable def auL (x0 x1:List Dt):St:=⟨tsOf [(0,.dat 41 (.lst x0)),(1,.dat 41 (.lst x1))],[],0⟩
abbrev auM (m M2:Nat) (rec2:Q10):Prop:=∀x0 x1 x2,l37 jn m Ul [] M2 (mP x0 x1 x2)=rec2 x0 x1 x2
theorem acg m M2 rec2 (h2:auM m M2 rec2) x0 x1 x2:e37 jn m auJ [M2] (mP x0 x1 x2)=FU m rec2 x0 x1 x2:=
 tq (g:=fun J=>(jj J 1 4 M2 (mP x0 x1 (IntKind.wrap .i64 (x2+1))) (l37 J m Ul [] M2))) (by simp only[ah,h2];rfl)
theorem ach m M2 rec2 (h2:auM m M2 rec2) x0 x1 x2:e37 jn m acf [M2] (mP x0 x1 x2)=FV m rec2 x0 x1 x2:=
 tq (g:=fun J=>((idx x0 x2).bind fun v0=>
  ((idx x1 x2).bind fun v1=>
  ((yE m (Dt.toLst v0) (Dt.toLst v1)).bind fun r2=>
  (bif (Bool.not r2) then
  some false
  else
  (jj J 0 5 0 (mP x0 x1 x2) (e37 J m auJ [M2]))))))) (by simp only[ah,acg m M2 rec2 h2];rfl)
theorem aci m:e37 jn m [1,1,1] [] auK=FW m:=
 tq (g:=fun J=>some true) (by rfl)
theorem KX m:∀M2 x0 x1 x2,l37 jn m Ul [] M2 (mP x0 x1 x2)=AR m M2 x0 x1 x2
 |0,_,_,_=>rfl
 | M2+1,x0,x1,x2=>
   tl (g:=fun J=>(bif (decide (x2<(List.length x0:Int))) then
  (jj J 0 6 0 (mP x0 x1 x2) (e37 J m acf [M2]))
   else
  (jj J 0 8 0 auK (e37 J m [1,1,1] [])))) (by simp only[ah,ach m M2 (AR m M2) (KX m M2),aci m];rfl)
theorem acj m x0 x1 x2:e37 jn m [1,1,0,1] [] (mP x0 x1 x2)=FY m x0 x1 x2:=
 tq (g:=fun J=>(jj J 1 4 (Nat.succ m) (mP x0 x1 x2) (l37 J m Ul [] (Nat.succ m)))) (by simp only[ah,KX m];rfl)
theorem aco m x0 x1:e37 jn m [1,1] [] (auL x0 x1)=FZ m x0 x1:=
 tq (g:=fun J=>(jj J 0 4 0 (mP x0 x1 0) (e37 J m [1,1,0,1] []))) (by simp only[ah,acj m];rfl)
theorem aB0 m a0 a1:e37 jn m [] [] ⟨[.dat 41 (.lst a0),.dat 41 (.lst a1)],[],0⟩=zA (m+1) a0 a1:=
 tq (g:=fun J=>(bif ((List.length a0:Int) !=(List.length a1:Int)) then
  some false
   else
  (jj J 0 3 0 (auL a0 a1) (e37 J m [1,1] [])))) (by simp only[ah,aco m];rfl)
def Um:List Nat:=[1,1,0,1,0]
def Un:List Nat:=[1,1,0,1,0,0,1]
def auN:List Nat:=Un++[1]
def acp:List Nat:=Un++[0,0,1]
noncomputable def e46 (J:Q0) (m:Nat):=evAt Tryz.prog env (ct m) J (m+1) 67 42 Tryz.f67 d9
noncomputable def l46 (J:Q0) (m:Nat):=loopAt Tryz.prog env (ct m) J (m+1) 67 42 Tryz.f67 d9
noncomputable def mQ (x0 x1:List Dt) (x2:Int):St:=⟨tsOf [(0,.dat 40 (.lst x0)),(1,.dat 40 (.lst x1)),(5,.dat 3 (.int x2))],[],0⟩
noncomputable def acr (x0 x1:List Dt) (x2:Int) (x3:Bool):St:=⟨tsOf [(0,.dat 40 (.lst x0)),(1,.dat 40 (.lst x1)),(5,.dat 3 (.int x2)),(41,.dat 4 (.bool x3))],[],0⟩
noncomputable def auO:St:=⟨tsOf [],[],0⟩
noncomputable def auP (x0 x1:List Dt):St:=⟨tsOf [(0,.dat 40 (.lst x0)),(1,.dat 40 (.lst x1))],[],0⟩
abbrev acs (m M2:Nat) (rec2:Q10):Prop:=∀x0 x1 x2,l46 jn m Um [] M2 (mQ x0 x1 x2)=rec2 x0 x1 x2
theorem acu m M2 rec2 (h2:acs m M2 rec2) x0 x1 x2:e46 jn m auN [M2] (mQ x0 x1 x2)=Nb m rec2 x0 x1 x2:=
 tq (g:=fun J=>(jj J 1 4 M2 (mQ x0 x1 (IntKind.wrap .i64 (x2+1))) (l46 J m Um [] M2))) (by simp only[ah,h2];rfl)
theorem acv m M2 rec2 (h2:acs m M2 rec2) x0 x1 x2 x3:e46 jn m acp [M2] (acr x0 x1 x2 x3)=F3 m rec2 x0 x1 x2 x3:=
 tq (g:=fun J=>(bif x3 then
  some false
   else
  (jj J 0 5 0 (mQ x0 x1 x2) (e46 J m auN [M2])))) (by simp only[ah,acu m M2 rec2 h2];rfl)
theorem acw m M2 rec2 (h2:acs m M2 rec2) x0 x1 x2:e46 jn m Un [M2] (mQ x0 x1 x2)=Nc m rec2 x0 x1 x2:=
 tq (g:=fun J=>((idx x0 x2).bind fun v0=>
  ((idx x1 x2).bind fun v1=>
  (bif (Bool.not ((Dt.B v0 1)==(Dt.B v1 1))) then
  (jj J 0 7 0 (acr x0 x1 x2 true) (e46 J m acp [M2]))
  else
  ((idx x0 x2).bind fun v2=>
  ((idx x1 x2).bind fun v3=>
  ((yE m (Dt.L v2 0) (Dt.L v3 0)).bind fun r4=>
  (jj J 0 7 0 (acr x0 x1 x2 (Bool.not r4)) (e46 J m acp [M2]))))))))) (by simp only[ah,acv m M2 rec2 h2];rfl)
theorem acy m:e46 jn m [1,1,1] [] auO=Nf m:=
 tq (g:=fun J=>some true) (by rfl)
theorem KY m:∀M2 x0 x1 x2,l46 jn m Um [] M2 (mQ x0 x1 x2)=F4 m M2 x0 x1 x2
 |0,_,_,_=>rfl
 | M2+1,x0,x1,x2=>
   tl (g:=fun J=>(bif (decide (x2<(List.length x0:Int))) then
  (jj J 0 6 0 (mQ x0 x1 x2) (e46 J m Un [M2]))
   else
  (jj J 0 8 0 auO (e46 J m [1,1,1] [])))) (by simp only[ah,acw m M2 (F4 m M2) (KY m M2),acy m];rfl)
theorem acz m x0 x1 x2:e46 jn m [1,1,0,1] [] (mQ x0 x1 x2)=Ng m x0 x1 x2:=
 tq (g:=fun J=>(jj J 1 4 (Nat.succ m) (mQ x0 x1 x2) (l46 J m Um [] (Nat.succ m)))) (by simp only[ah,KY m];rfl)
theorem acA m x0 x1:e46 jn m [1,1] [] (auP x0 x1)=Nh m x0 x1:=
 tq (g:=fun J=>(jj J 0 4 0 (mQ x0 x1 0) (e46 J m [1,1,0,1] []))) (by simp only[ah,acz m];rfl)
theorem aB1 m a0 a1:e46 jn m [] [] ⟨[.dat 40 (.lst a0),.dat 40 (.lst a1)],[],0⟩=qK (m+1) a0 a1:=
 tq (g:=fun J=>(bif ((List.length a0:Int) !=(List.length a1:Int)) then
  some false
   else
  (jj J 0 3 0 (auP a0 a1) (e46 J m [1,1] [])))) (by simp only[ah,acA m];rfl)
def acB:List Nat:=[1,0,1,0,0,1]
def auQ:List Nat:=acB++[1]
noncomputable def e59 (J:Q0) (m:Nat):=evAt Tryz.prog env (ct m) J (m+1) 74 18 Tryz.f74 d9
noncomputable def l59 (J:Q0) (m:Nat):=loopAt Tryz.prog env (ct m) J (m+1) 74 18 Tryz.f74 d9
noncomputable def mR (x0:Int) (x1:List Dt) (x2:Int):St:=⟨tsOf [(0,.dat 3 (.int x0)),(1,.dat 164 (.lst x1)),(5,.dat 3 (.int x2))],[],0⟩
noncomputable def auR:St:=⟨tsOf [],[],0⟩
abbrev auS (m M1:Nat) (rec1:Q37):Prop:=∀x0 x1 x2,l59 jn m [1,0,1,0] [] M1 (mR x0 x1 x2)=rec1 x0 x1 x2
theorem acC m M1 rec1 (h1:auS m M1 rec1) x0 x1 x2:e59 jn m auQ [M1] (mR x0 x1 x2)=ain m rec1 x0 x1 x2:=
 tq (g:=fun J=>(jj J 1 2 M1 (mR x0 x1 (IntKind.wrap .i64 (x2+1))) (l59 J m [1,0,1,0] [] M1))) (by simp only[ah,h1];rfl)
theorem acD m M1 rec1 (h1:auS m M1 rec1) x0 x1 x2:e59 jn m acB [M1] (mR x0 x1 x2)=aio m rec1 x0 x1 x2:=
 tq (g:=fun J=>((idx x1 x2).bind fun v0=>
  (bif ((Dt.toInt v0)==x0) then
  some true
  else
  (jj J 0 3 0 (mR x0 x1 x2) (e59 J m auQ [M1]))))) (by simp only[ah,acC m M1 rec1 h1];rfl)
theorem acE m:e59 jn m [1,1] [] auR=awg m:=
 tq (g:=fun J=>some false) (by rfl)
theorem KZ m:∀M1 x0 x1 x2,l59 jn m [1,0,1,0] [] M1 (mR x0 x1 x2)=F5 m M1 x0 x1 x2
 |0,_,_,_=>rfl
 | M1+1,x0,x1,x2=>
   tl (g:=fun J=>(bif (decide (x2<(List.length x1:Int))) then
  (jj J 0 4 0 (mR x0 x1 x2) (e59 J m acB [M1]))
   else
  (jj J 0 6 0 auR (e59 J m [1,1] [])))) (by simp only[ah,acD m M1 (F5 m M1) (KZ m M1),acE m];rfl)
theorem acF m x0 x1 x2:e59 jn m [1,0,1] [] (mR x0 x1 x2)=awh m x0 x1 x2:=
 tq (g:=fun J=>(jj J 1 2 (Nat.succ m) (mR x0 x1 x2) (l59 J m [1,0,1,0] [] (Nat.succ m)))) (by simp only[ah,KZ m];rfl)
theorem aB2 m a0 a1:e59 jn m [] [] ⟨[.dat 3 (.int a0),.dat 164 (.lst a1)],[],0⟩=zS (m+1) a0 a1:=
 tq (g:=fun J=>(jj J 0 2 0 (mR a0 a1 0) (e59 J m [1,0,1] []))) (by simp only[ah,acF m];rfl)
noncomputable def e61 (J:Q0) (m:Nat):=evAt Tryz.prog env (ct m) J (m+1) 79 22 Tryz.f79 d9
theorem aB3 m a0:e61 jn m [] [] ⟨[.dat 69 a0],[],0⟩=yT (m+1) a0:=
 tq (g:=fun J=>(bif ((ByteArray.toList (Dt.S a0 0))==[]) then
  (bif ((List.length (Dt.L a0 1):Int)==0) then
  (bif ((Dt.I a0 2)==0) then
  some ((Dt.I a0 3)==0)
  else
  some false)
  else
  some false)
   else
  some false)) (by rfl)
noncomputable def e64 (J:Q0) (m:Nat):=evAt Tryz.prog env (ct m) J (m+1) 78 29 Tryz.f78 d9
theorem aB4 m a0:e64 jn m [] [] ⟨[.dat 66 a0],[],0⟩=yF (m+1) a0:=
 tq (g:=fun J=>(bif ((ByteArray.toList (Dt.S a0 0))==[]) then
  (bif ((List.length (Dt.L a0 1):Int)==0) then
  (bif ((List.length (Dt.L a0 2):Int)==0) then
  (bif ((ByteArray.toList (Dt.S a0 3))==[]) then
  some ((List.length (Dt.L a0 4):Int)==0)
  else
  some false)
  else
  some false)
  else
  some false)
   else
  some false)) (by rfl)
noncomputable def e67 (J:Q11) (m:Nat):=evAt Tryz.prog env (ct m) J (m+1) 49 8 Tryz.f49 d67
theorem aB5 m a0:e67 jn m [] [] ⟨[.dat 106 a0],[],0⟩=y5 (m+1) a0:=
 tq (g:=fun J=>((zW m (Dt.L a0 0)).bind fun r0=>
  some (Dt.agg [(Dt.lst r0),(Dt.int (Dt.I a0 1)),(Dt.int (Dt.I a0 2))]))) (by rfl)
def auT:List Nat:=[1,1,1,0,1]
def K3:List Nat:=[1,1,1,0,1,0]
def acG:List Nat:=K3++[0,1,1]
def auU:List Nat:=acG++[1]
noncomputable def e66 (J:Q7) (m:Nat):=evAt Tryz.prog env (ct m) J (m+1) 48 29 Tryz.f48 d66
noncomputable def l66 (J:Q7) (m:Nat):=loopAt Tryz.prog env (ct m) J (m+1) 48 29 Tryz.f48 d66
noncomputable def mU (x0:List Dt) (x1 x2:Int) (x3:List Dt):St:=⟨tsOf [(1,.fn 49 []),(5,.row 0),(14,.dat 42 (.lst x0)),(15,.dat 3 (.int x1)),(16,.dat 3 (.int x2))],[.row 42 x3],0⟩
noncomputable def auV (x0:List Dt):St:=⟨tsOf [(5,.row 0)],[.row 42 x0],0⟩
noncomputable def auW (x0:List Dt):St:=⟨tsOf [(0,.dat 42 (.lst x0)),(1,.fn 49 [])],[],0⟩
abbrev auX (m M2:Nat) (rec2:Q3):Prop:=∀x0 x1 x2 x3,l66 jn m K3 [] M2 (mU x0 x1 x2 x3)=rec2 x0 x1 x2 x3
theorem Yv m M2 rec2 (h2:auX m M2 rec2) x0 x1 x2 x3:e66 jn m auU [M2] (mU x0 x1 x2 x3)=AU m rec2 x0 x1 x2 x3:=
 tq (g:=fun J=>(jj J 1 5 M2 (mU x0 x1 (IntKind.wrap .i64 (x2+1)) x3) (l66 J m K3 [] M2))) (by simp only[ah,h2];rfl)
theorem Yw m M2 rec2 (h2:auX m M2 rec2) x0 x1 x2 x3:e66 jn m acG [M2] (mU x0 x1 x2 x3)=AX m rec2 x0 x1 x2 x3:=
 tq (g:=fun J=>((idx x0 x2).bind fun v1=>
  ((y5 m v1).bind fun r2=>
  ((inL x3 x2).bind fun v3=>
  ((x3[(Int.toNat x2)]?).bind fun v4=>
  (jj J 0 8 0 (mU x0 x1 x2 (List.set x3 (Int.toNat x2) r2)) (e66 J m auU [M2]))))))) (by simp only[ah,Yv m M2 rec2 h2];rfl)
theorem Yx m x0:e66 jn m [1,1,1,1] [] (auV x0)=AY m x0:=
 tq (g:=fun J=>some x0) (by rfl)
theorem EO m:∀M2 x0 x1 x2 x3,l66 jn m K3 [] M2 (mU x0 x1 x2 x3)=pF m M2 x0 x1 x2 x3
 |0,_,_,_,_=>rfl
 | M2+1,x0,x1,x2,x3=>
   tl (g:=fun J=>(bif (decide (x2<x1)) then
  (jj J 0 6 0 (mU x0 x1 x2 x3) (e66 J m acG [M2]))
   else
  (jj J 0 9 0 (auV x3) (e66 J m [1,1,1,1] [])))) (by simp only[ah,Yw m M2 (pF m M2) (EO m M2),Yx m];rfl)
theorem Yy m x0 x1 x2 x3:e66 jn m auT [] (mU x0 x1 x2 x3)=AZ m x0 x1 x2 x3:=
 tq (g:=fun J=>(jj J 1 5 (Nat.succ m) (mU x0 x1 x2 x3) (l66 J m K3 [] (Nat.succ m)))) (by simp only[ah,EO m];rfl)
theorem Yz m x0:e66 jn m [1,1] [] (auW x0)=A8 m x0:=
 tq (g:=fun J=>((mkL (List.length x0:Int) (List.length x0:Int) Vt).bind fun v0=>
  (jj J 0 5 0 (mU x0 (List.length x0:Int) 0 v0) (e66 J m auT [])))) (by simp only[ah,Yy m];rfl)
theorem ayN m a0:e66 jn m [] [] ⟨[.dat 42 (.lst a0),.fn 49 []],[],0⟩=i66 (m+1) a0:=
 tq (g:=fun J=>(bif ((List.length a0:Int)==0) then
  some []
   else
  (jj J 0 3 0 (auW a0) (e66 J m [1,1] [])))) (by simp only[ah,Yz m];rfl)
noncomputable def e21 (J:Q11) (m:Nat):=evAt Tryz.prog env (ct m) J (m+1) 23 16 Tryz.f23 d21
theorem aB6 m a0:e21 jn m [] [] ⟨[.dat 45 a0],[],0⟩=yZ (m+1) a0:=
 tq (g:=fun J=>((i34 m (Dt.L a0 1)).bind fun r0=>
  ((i66 m (Dt.L a0 3)).bind fun r1=>
  ((i22 m (Dt.L a0 4)).bind fun r2=>
  some (Dt.agg [(Dt.bool (Dt.B a0 0)),(Dt.lst r0),(Dt.bool (Dt.B a0 2)),(Dt.lst r1),(Dt.lst r2)]))))) (by rfl)
def auY:List Nat:=[1,1,1,0,1]
def K4:List Nat:=[1,1,1,0,1,0]
def acH:List Nat:=K4++[0,1,1]
def auZ:List Nat:=acH++[1]
noncomputable def e10 (J:Q7) (m:Nat):=evAt Tryz.prog env (ct m) J (m+1) 24 29 Tryz.f24 d10
noncomputable def l10 (J:Q7) (m:Nat):=loopAt Tryz.prog env (ct m) J (m+1) 24 29 Tryz.f24 d10
noncomputable def mV (x0:List Dt) (x1 x2:Int) (x3:List Dt):St:=⟨tsOf [(1,.fn 25 []),(5,.row 0),(14,.dat 22 (.lst x0)),(15,.dat 3 (.int x1)),(16,.dat 3 (.int x2))],[.row 22 x3],0⟩
noncomputable def au0 (x0:List Dt):St:=⟨tsOf [(5,.row 0)],[.row 22 x0],0⟩
noncomputable def au1 (x0:List Dt):St:=⟨tsOf [(0,.dat 22 (.lst x0)),(1,.fn 25 [])],[],0⟩
abbrev au2 (m M2:Nat) (rec2:Q3):Prop:=∀x0 x1 x2 x3,l10 jn m K4 [] M2 (mV x0 x1 x2 x3)=rec2 x0 x1 x2 x3
theorem YA m M2 rec2 (h2:au2 m M2 rec2) x0 x1 x2 x3:e10 jn m auZ [M2] (mV x0 x1 x2 x3)=A9 m (yJ m) rec2 x0 x1 x2 x3:=
 tq (g:=fun J=>(jj J 1 5 M2 (mV x0 x1 (IntKind.wrap .i64 (x2+1)) x3) (l10 J m K4 [] M2))) (by simp only[ah,h2];rfl)
theorem YB m M2 rec2 (h2:au2 m M2 rec2) x0 x1 x2 x3:e10 jn m acH [M2] (mV x0 x1 x2 x3)=Ba m (yJ m) rec2 x0 x1 x2 x3:=
 tq (g:=fun J=>((idx x0 x2).bind fun v1=>
  ((yJ m v1).bind fun r2=>
  ((inL x3 x2).bind fun v3=>
  ((x3[(Int.toNat x2)]?).bind fun v4=>
  (jj J 0 8 0 (mV x0 x1 x2 (List.set x3 (Int.toNat x2) r2)) (e10 J m auZ [M2]))))))) (by simp only[ah,YA m M2 rec2 h2];rfl)
theorem YC m x0:e10 jn m [1,1,1,1] [] (au0 x0)=Bb m (yJ m) x0:=
 tq (g:=fun J=>some x0) (by rfl)
theorem EP m:∀M2 x0 x1 x2 x3,l10 jn m K4 [] M2 (mV x0 x1 x2 x3)=pG m (yJ m) M2 x0 x1 x2 x3
 |0,_,_,_,_=>rfl
 | M2+1,x0,x1,x2,x3=>
   tl (g:=fun J=>(bif (decide (x2<x1)) then
  (jj J 0 6 0 (mV x0 x1 x2 x3) (e10 J m acH [M2]))
   else
  (jj J 0 9 0 (au0 x3) (e10 J m [1,1,1,1] [])))) (by simp only[ah,YB m M2 (pG m (yJ m) M2) (EP m M2),YC m];rfl)
theorem YD m x0 x1 x2 x3:e10 jn m auY [] (mV x0 x1 x2 x3)=Bc m (yJ m) x0 x1 x2 x3:=
 tq (g:=fun J=>(jj J 1 5 (Nat.succ m) (mV x0 x1 x2 x3) (l10 J m K4 [] (Nat.succ m)))) (by simp only[ah,EP m];rfl)
theorem YE m x0:e10 jn m [1,1] [] (au1 x0)=Bd m (yJ m) x0:=
 tq (g:=fun J=>((mkB (List.length x0:Int) (List.length x0:Int) Vu).bind fun v0=>
  (jj J 0 5 0 (mV x0 (List.length x0:Int) 0 v0) (e10 J m auY [])))) (by simp only[ah,YD m];rfl)
theorem ayO m a0:e10 jn m [] [] ⟨[.dat 22 (.lst a0),.fn 25 []],[],0⟩=i10 (m+1) a0:=
 tq (g:=fun J=>(bif ((List.length a0:Int)==0) then
  some []
   else
  (jj J 0 3 0 (au1 a0) (e10 J m [1,1] [])))) (by simp only[ah,YE m];rfl)
noncomputable def e11 (J:Q11) (m:Nat):=evAt Tryz.prog env (ct m) J (m+1) 25 94 Tryz.f25 d11
theorem aB7 m a0:e11 jn m [] [] ⟨[.dat 71 a0],[],0⟩=yJ (m+1) a0:=
 tq (g:=fun J=>((yH m (Dt.fld a0 1)).bind fun r0=>
  ((yZ m (Dt.fld a0 2)).bind fun r1=>
  ((i22 m (Dt.L a0 3)).bind fun r2=>
  ((i12 m (Dt.L a0 4)).bind fun r3=>
  ((zW m (Dt.L a0 6)).bind fun r4=>
  ((z7 m (Dt.fld a0 9)).bind fun r5=>
  ((z7 m (Dt.fld (Dt.fld a0 10) 0)).bind fun r6=>
  ((i26 m (Dt.L (Dt.fld a0 10) 1)).bind fun r7=>
  ((z7 m (Dt.fld (Dt.fld a0 11) 0)).bind fun r8=>
  ((i12 m (Dt.L (Dt.fld a0 11) 1)).bind fun r9=>
  ((i28 m (Dt.L (Dt.fld a0 11) 2)).bind fun r10=>
  ((zW m (Dt.L (Dt.fld a0 12) 1)).bind fun r11=>
  ((zW m (Dt.L (Dt.fld a0 12) 2)).bind fun r12=>
  ((i10 m (Dt.L (Dt.fld a0 12) 4)).bind fun r13=>
  ((i30 m (Dt.L a0 13)).bind fun r14=>
  ((i32 m (Dt.L a0 14)).bind fun r15=>
  ((i34 m (Dt.L (Dt.fld a0 15) 1)).bind fun r16=>
  ((yY m (Dt.fld a0 16)).bind fun r17=>
  some (Dt.agg [(Dt.int (Dt.I a0 0)),r0,r1,(Dt.lst r2),(Dt.lst r3),(Dt.int (Dt.I a0 5)),(Dt.lst r4),(Dt.str (Dt.S a0 7)),(Dt.bool (Dt.B a0 8)),r5,(Dt.agg [r6,(Dt.lst r7)]),(Dt.agg [r8,(Dt.lst r9),(Dt.lst r10)]),(Dt.agg [(Dt.str (Dt.S (Dt.fld a0 12) 0)),(Dt.lst r11),(Dt.lst r12),(Dt.str (Dt.S (Dt.fld a0 12) 3)),(Dt.lst r13)]),(Dt.lst r14),(Dt.lst r15),(Dt.agg [(Dt.str (Dt.S (Dt.fld a0 15) 0)),(Dt.lst r16),(Dt.int (Dt.I (Dt.fld a0 15) 2)),(Dt.int (Dt.I (Dt.fld a0 15) 3))]),r17])))))))))))))))))))) (by rfl)
def au3:List Nat:=[1,1,1,0,1]
def K6:List Nat:=[1,1,1,0,1,0]
def acI:List Nat:=K6++[0,1,1]
def au4:List Nat:=acI++[1]
noncomputable def e30 (J:Q7) (m:Nat):=evAt Tryz.prog env (ct m) J (m+1) 56 29 Tryz.f56 d30
noncomputable def l30 (J:Q7) (m:Nat):=loopAt Tryz.prog env (ct m) J (m+1) 56 29 Tryz.f56 d30
noncomputable def mW (x0:List Dt) (x1 x2:Int) (x3:List Dt):St:=⟨tsOf [(1,.fn 57 []),(5,.row 0),(14,.dat 67 (.lst x0)),(15,.dat 3 (.int x1)),(16,.dat 3 (.int x2))],[.row 67 x3],0⟩
noncomputable def au5 (x0:List Dt):St:=⟨tsOf [(5,.row 0)],[.row 67 x0],0⟩
noncomputable def au6 (x0:List Dt):St:=⟨tsOf [(0,.dat 67 (.lst x0)),(1,.fn 57 [])],[],0⟩
abbrev au7 (m M2:Nat) (rec2:Q3):Prop:=∀x0 x1 x2 x3,l30 jn m K6 [] M2 (mW x0 x1 x2 x3)=rec2 x0 x1 x2 x3
theorem YF m M2 rec2 (h2:au7 m M2 rec2) x0 x1 x2 x3:e30 jn m au4 [M2] (mW x0 x1 x2 x3)=Bf m (yM m) rec2 x0 x1 x2 x3:=
 tq (g:=fun J=>(jj J 1 5 M2 (mW x0 x1 (IntKind.wrap .i64 (x2+1)) x3) (l30 J m K6 [] M2))) (by simp only[ah,h2];rfl)
theorem YG m M2 rec2 (h2:au7 m M2 rec2) x0 x1 x2 x3:e30 jn m acI [M2] (mW x0 x1 x2 x3)=Bg m (yM m) rec2 x0 x1 x2 x3:=
 tq (g:=fun J=>((idx x0 x2).bind fun v1=>
  ((yM m v1).bind fun r2=>
  ((inL x3 x2).bind fun v3=>
  ((x3[(Int.toNat x2)]?).bind fun v4=>
  (jj J 0 8 0 (mW x0 x1 x2 (List.set x3 (Int.toNat x2) r2)) (e30 J m au4 [M2]))))))) (by simp only[ah,YF m M2 rec2 h2];rfl)
theorem YH m x0:e30 jn m [1,1,1,1] [] (au5 x0)=Bh m (yM m) x0:=
 tq (g:=fun J=>some x0) (by rfl)
theorem ER m:∀M2 x0 x1 x2 x3,l30 jn m K6 [] M2 (mW x0 x1 x2 x3)=pI m (yM m) M2 x0 x1 x2 x3
 |0,_,_,_,_=>rfl
 | M2+1,x0,x1,x2,x3=>
   tl (g:=fun J=>(bif (decide (x2<x1)) then
  (jj J 0 6 0 (mW x0 x1 x2 x3) (e30 J m acI [M2]))
   else
  (jj J 0 9 0 (au5 x3) (e30 J m [1,1,1,1] [])))) (by simp only[ah,YG m M2 (pI m (yM m) M2) (ER m M2),YH m];rfl)
theorem YI m x0 x1 x2 x3:e30 jn m au3 [] (mW x0 x1 x2 x3)=Bj m (yM m) x0 x1 x2 x3:=
 tq (g:=fun J=>(jj J 1 5 (Nat.succ m) (mW x0 x1 x2 x3) (l30 J m K6 [] (Nat.succ m)))) (by simp only[ah,ER m];rfl)
theorem YJ m x0:e30 jn m [1,1] [] (au6 x0)=Bl m (yM m) x0:=
 tq (g:=fun J=>((mkL (List.length x0:Int) (List.length x0:Int) Vv).bind fun v0=>
  (jj J 0 5 0 (mW x0 (List.length x0:Int) 0 v0) (e30 J m au3 [])))) (by simp only[ah,YI m];rfl)
theorem ayP m a0:e30 jn m [] [] ⟨[.dat 67 (.lst a0),.fn 57 []],[],0⟩=i30 (m+1) a0:=
 tq (g:=fun J=>(bif ((List.length a0:Int)==0) then
  some []
   else
  (jj J 0 3 0 (au6 a0) (e30 J m [1,1] [])))) (by simp only[ah,YJ m];rfl)
noncomputable def e31 (J:Q11) (m:Nat):=evAt Tryz.prog env (ct m) J (m+1) 57 8 Tryz.f57 d31
theorem aB8 m a0:e31 jn m [] [] ⟨[.dat 122 a0],[],0⟩=yM (m+1) a0:=
 tq (g:=fun J=>((i10 m (Dt.L a0 1)).bind fun r0=>
  some (Dt.agg [(Dt.str (Dt.S a0 0)),(Dt.lst r0)]))) (by rfl)
def aB9:List Nat:=[1,1,1,1,1]
def aCa:List Nat:=[1,1,0,0,0,1]
def ayQ:List Nat:=[1,1,1,1,0,1]
noncomputable def e3 (J:Q35) (m:Nat):=evAt Tryz.prog env (ct m) J (m+1) 11 49 Tryz.f11 d4
noncomputable def l3 (J:Q35) (m:Nat):=loopAt Tryz.prog env (ct m) J (m+1) 11 49 Tryz.f11 d4
noncomputable def wP (x0:List Dt) (x1:Int):St:=⟨tsOf [(0,.dat 22 (.lst x0)),(5,.dat 3 (.int x1))],[],0⟩
noncomputable def aCb (x0 x1:List Dt):St:=⟨tsOf [(6,.dat 22 (.lst x0)),(7,.dat 22 (.lst x1))],[],0⟩
noncomputable def ayR (x0 x1:List Dt) (x2:Bool):St:=⟨tsOf [(6,.dat 22 (.lst x0)),(7,.dat 22 (.lst x1)),(39,.dat 4 (.bool x2))],[],0⟩
abbrev aFY (m M1:Nat) (rec1:Q32):Prop:=∀x0 x1,l3 jn m [1,1,0,0] [] M1 (wP x0 x1)=rec1 x0 x1
theorem acJ m M1 rec1 (h1:aFY m M1 rec1) x0 x1:e3 jn m aCa [M1] (wP x0 x1)=aip m rec1 x0 x1:=
 tq (g:=fun J=>(jj J 1 2 M1 (wP x0 (IntKind.wrap .i64 (x1+1))) (l3 J m [1,1,0,0] [] M1))) (by simp only[ah,h1];rfl)
theorem acK m x0 x1:e3 jn m aB9 [] (aCb x0 x1)=aiq m x0 x1:=
 tq (g:=fun J=>some (x0,x1,[])) (by rfl)
theorem acL m x0 x1 x2:e3 jn m ayQ [] (ayR x0 x1 x2)=Ni m x0 x1 x2:=
 tq (g:=fun J=>(bif x2 then
  ((idx x1 0).bind fun v7=>
  ((i12 m (Dt.L v7 4)).bind fun r8=>
  some (x0,x1,r8)))
   else
  (jj J 0 7 0 (aCb x0 x1) (e3 J m aB9 [])))) (by simp only[ah,acK m];rfl)
theorem acM m x0 x1:e3 jn m [1,1,1] [] (wP x0 x1)=F6 m x0 x1:=
 tq (g:=fun J=>((cutL x0 0 x1).bind fun v2=>
  ((i10 m v2).bind fun r3=>
  ((cutL x0 x1 (List.length x0:Int)).bind fun v4=>
  ((i10 m v4).bind fun r5=>
  (bif (decide (0<(List.length r5:Int))) then
  ((idx r5 0).bind fun v6=>
  (jj J 0 6 0 (ayR r3 r5 ((Dt.I v6 0)==4)) (e3 J m ayQ [])))
  else
  (jj J 0 6 0 (ayR r3 r5 false) (e3 J m ayQ [])))))))) (by simp only[ah,acL m];rfl)
theorem K7 m:∀M1 x0 x1,l3 jn m [1,1,0,0] [] M1 (wP x0 x1)=F7 m M1 x0 x1
 |0,_,_=>rfl
 | M1+1,x0,x1=>
   tl (g:=fun J=>(bif (decide (x1<(List.length x0:Int))) then
  ((idx x0 x1).bind fun v0=>
  ((yI m (Dt.I v0 0)).bind fun r1=>
  (bif r1 then
  (jj J 0 3 0 (wP x0 x1) (e3 J m aCa [M1]))
  else
  (jj J 0 4 0 (wP x0 x1) (e3 J m [1,1,1] [])))))
   else
  (jj J 0 4 0 (wP x0 x1) (e3 J m [1,1,1] [])))) (by simp only[ah,acJ m M1 (F7 m M1) (K7 m M1),acM m];rfl)
theorem acN m x0 x1:e3 jn m [1,1] [] (wP x0 x1)=awi m x0 x1:=
 tq (g:=fun J=>(jj J 1 2 (Nat.succ m) (wP x0 x1) (l3 J m [1,1,0,0] [] (Nat.succ m)))) (by simp only[ah,K7 m];rfl)
theorem aCc m a0:e3 jn m [] [] ⟨[.dat 22 (.lst a0)],[],0⟩=zV (m+1) a0:=
 tq (g:=fun J=>(jj J 0 2 0 (wP a0 0) (e3 J m [1,1] []))) (by simp only[ah,acN m];rfl)
def Uo:List Nat:=[1,1,0,1,0]
def au8:List Nat:=[1,1,1,0,1]
def K8:List Nat:=[1,1,1,0,1,0]
def acO:List Nat:=[1,1,0,1,0,0,1]
def au9:List Nat:=acO++[1]
def Uq:List Nat:=K8++[0,1]
def ava:List Nat:=Uq++[1]
def acP:List Nat:=Uq++[0,0,1]
noncomputable def e71 (J:Q0) (m:Nat):=evAt Tryz.prog env (ct m) J (m+1) 60 99 Tryz.f60 d9
noncomputable def l71 (J:Q0) (m:Nat):=loopAt Tryz.prog env (ct m) J (m+1) 60 99 Tryz.f60 d9
noncomputable def mX (x0:Int) (x1 x2:Dt):St:=⟨tsOf [(2,.ptr 0 [] 0),(3,.ptr 1 [] 0),(5,.dat 3 (.int x0))],[.box 30 (.dat 30 x1),.box 30 (.dat 30 x2)],0⟩
noncomputable def iy (x0:Int) (x1 x2:Dt):St:=⟨tsOf [(2,.ptr 0 [] 0),(3,.ptr 1 [] 0),(6,.dat 3 (.int x0))],[.box 30 (.dat 30 x1),.box 30 (.dat 30 x2)],0⟩
noncomputable def QA (x0:Int) (x1:Bool) (x2 x3:Dt):St:=⟨tsOf [(2,.ptr 0 [] 0),(3,.ptr 1 [] 0),(6,.dat 3 (.int x0)),(98,.dat 4 (.bool x1))],[.box 30 (.dat 30 x2),.box 30 (.dat 30 x3)],0⟩
noncomputable def acQ:St:=⟨tsOf [],[],0⟩
noncomputable def Ur (x0 x1:Dt):St:=⟨tsOf [(2,.ptr 0 [] 0),(3,.ptr 1 [] 0)],[.box 30 (.dat 30 x0),.box 30 (.dat 30 x1)],0⟩
noncomputable def ES (x0:Bool) (x1 x2:Dt):St:=⟨tsOf [(2,.ptr 0 [] 0),(3,.ptr 1 [] 0),(43,.dat 4 (.bool x0))],[.box 30 (.dat 30 x1),.box 30 (.dat 30 x2)],0⟩
abbrev avb (m M3:Nat) (rec3:Q9):Prop:=∀x0 x1 x2,l71 jn m Uo [] M3 (mX x0 x1 x2)=rec3 x0 x1 x2
theorem acR m M3 rec3 (h3:avb m M3 rec3) x0 x1 x2:e71 jn m au9 [M3] (mX x0 x1 x2)=jH m (qA m) rec3 x0 x1 x2:=
 tq (g:=fun J=>(jj J 1 4 M3 (mX (IntKind.wrap .i64 (x0+1)) x1 x2) (l71 J m Uo [] M3))) (by simp only[ah,h3];rfl)
theorem acS m M3 rec3 (h3:avb m M3 rec3) x0 x1 x2:e71 jn m acO [M3] (mX x0 x1 x2)=jI m (qA m) rec3 x0 x1 x2:=
 tq (g:=fun J=>((idx (Dt.L x1 3) x0).bind fun v0=>
  ((idx (Dt.L x2 3) x0).bind fun v1=>
  ((qA m v0 v1).bind fun r2=>
  (bif (Bool.not r2) then
  some false
  else
  (jj J 0 5 0 (mX x0 x1 x2) (e71 J m au9 [M3]))))))) (by simp only[ah,acR m M3 rec3 h3];rfl)
abbrev acT (m M8:Nat) (rec8:Q9):Prop:=∀x0 x1 x2,l71 jn m K8 [] M8 (iy x0 x1 x2)=rec8 x0 x1 x2
theorem YK m M8 rec8 (h8:acT m M8 rec8) x0 x1 x2:e71 jn m ava [M8] (iy x0 x1 x2)=fG m (qA m) rec8 x0 x1 x2:=
 tq (g:=fun J=>(jj J 1 9 M8 (iy (IntKind.wrap .i64 (x0+1)) x1 x2) (l71 J m K8 [] M8))) (by simp only[ah,h8];rfl)
theorem YL m M8 rec8 (h8:acT m M8 rec8) x0 x1 x2 x3:e71 jn m acP [M8] (QA x0 x1 x2 x3)=eP m (qA m) rec8 x0 x1 x2 x3:=
 tq (g:=fun J=>(bif x1 then
  some false
   else
  (jj J 0 10 0 (iy x0 x2 x3) (e71 J m ava [M8])))) (by simp only[ah,YK m M8 rec8 h8];rfl)
theorem acU m M8 rec8 (h8:acT m M8 rec8) x0 x1 x2:e71 jn m Uq [M8] (iy x0 x1 x2)=jJ m (qA m) rec8 x0 x1 x2:=
 tq (g:=fun J=>((idx (Dt.L x1 4) x0).bind fun v3=>
  ((idx (Dt.L x2 4) x0).bind fun v4=>
  (bif (Bool.not ((ByteArray.toList (Dt.S v3 0))==(ByteArray.toList (Dt.S v4 0)))) then
  (jj J 0 12 0 (QA x0 true x1 x2) (e71 J m acP [M8]))
  else
  ((idx (Dt.L x1 4) x0).bind fun v5=>
  ((idx (Dt.L x2 4) x0).bind fun v6=>
  ((qA m (Dt.fld v5 1) (Dt.fld v6 1)).bind fun r7=>
  (jj J 0 12 0 (QA x0 (Bool.not r7) x1 x2) (e71 J m acP [M8]))))))))) (by simp only[ah,YL m M8 rec8 h8];rfl)
theorem YM m:e71 jn m [1,1,1,1] [] acQ=fH m (qA m):=
 tq (g:=fun J=>some true) (by rfl)
theorem K9 m:∀M8 x0 x1 x2,l71 jn m K8 [] M8 (iy x0 x1 x2)=qx m (qA m) M8 x0 x1 x2
 |0,_,_,_=>rfl
 | M8+1,x0,x1,x2=>
   tl (g:=fun J=>(bif (decide (x0<(List.length (Dt.L x1 4):Int))) then
  (jj J 0 11 0 (iy x0 x1 x2) (e71 J m Uq [M8]))
   else
  (jj J 0 13 0 acQ (e71 J m [1,1,1,1] [])))) (by simp only[ah,acU m M8 (qx m (qA m) M8) (K9 m M8),YM m];rfl)
theorem acV m x0 x1 x2:e71 jn m au8 [] (iy x0 x1 x2)=jK m (qA m) x0 x1 x2:=
 tq (g:=fun J=>(jj J 1 9 (Nat.succ m) (iy x0 x1 x2) (l71 J m K8 [] (Nat.succ m)))) (by simp only[ah,K9 m];rfl)
theorem acW m x0 x1:e71 jn m [1,1,1] [] (Ur x0 x1)=jL m (qA m) x0 x1:=
 tq (g:=fun J=>(jj J 0 9 0 (iy 0 x0 x1) (e71 J m au8 []))) (by simp only[ah,acV m];rfl)
theorem La m:∀M3 x0 x1 x2,l71 jn m Uo [] M3 (mX x0 x1 x2)=uN m (qA m) M3 x0 x1 x2
 |0,_,_,_=>rfl
 | M3+1,x0,x1,x2=>
   tl (g:=fun J=>(bif (decide (x0<(List.length (Dt.L x1 3):Int))) then
  (jj J 0 6 0 (mX x0 x1 x2) (e71 J m acO [M3]))
   else
  (jj J 0 8 0 (Ur x1 x2) (e71 J m [1,1,1] [])))) (by simp only[ah,acS m M3 (uN m (qA m) M3) (La m M3),acW m];rfl)
theorem acX m x0 x1 x2:e71 jn m [1,1,0,1] [] (mX x0 x1 x2)=jM m (qA m) x0 x1 x2:=
 tq (g:=fun J=>(jj J 1 4 (Nat.succ m) (mX x0 x1 x2) (l71 J m Uo [] (Nat.succ m)))) (by simp only[ah,La m];rfl)
theorem acY m x0 x1:e71 jn m [1,1] [] (Ur x0 x1)=jN m (qA m) x0 x1:=
 tq (g:=fun J=>(jj J 0 4 0 (mX 0 x0 x1) (e71 J m [1,1,0,1] []))) (by simp only[ah,acX m];rfl)
theorem acZ m x0 x1 x2:e71 jn m [1,0,1] [] (ES x0 x1 x2)=dH m (qA m) x0 x1 x2:=
 tq (g:=fun J=>(bif x0 then
  some false
   else
  (jj J 0 3 0 (Ur x1 x2) (e71 J m [1,1] [])))) (by simp only[ah,acY m];rfl)
theorem aCd m a0 a1:e71 jn m [] [] ⟨[.dat 30 a0,.dat 30 a1],[],0⟩=qA (m+1) a0 a1:=
 tq (g:=fun J=>(bif ((Dt.I a0 0) !=(Dt.I a1 0)) then
  (jj J 0 2 0 (ES true a0 a1) (e71 J m [1,0,1] []))
   else
  (bif ((Dt.I a0 1) !=(Dt.I a1 1)) then
  (jj J 0 2 0 (ES true a0 a1) (e71 J m [1,0,1] []))
  else
  (bif (Bool.not ((ByteArray.toList (Dt.S a0 2))==(ByteArray.toList (Dt.S a1 2)))) then
  (jj J 0 2 0 (ES true a0 a1) (e71 J m [1,0,1] []))
  else
  (bif ((List.length (Dt.L a0 3):Int) !=(List.length (Dt.L a1 3):Int)) then
  (jj J 0 2 0 (ES true a0 a1) (e71 J m [1,0,1] []))
  else
  (jj J 0 2 0 (ES ((List.length (Dt.L a0 4):Int) !=(List.length (Dt.L a1 4):Int)) a0 a1) (e71 J m [1,0,1] []))))))) (by simp only[ah,acZ m];rfl)
noncomputable def e36 (J:Q0) (m:Nat):=evAt Tryz.prog env (ct m) J (m+1) 61 10 Tryz.f61 d9
theorem aCe m a0 a1:e36 jn m [] [] ⟨[.dat 27 (.lst a0),.dat 27 (.lst a1)],[],0⟩=y0 (m+1) a0 a1:=
 tq (g:=fun J=>((qA m (Dt.agg [(Dt.int 6),(Dt.int 0),(Dt.str (ByteArray.mk (List.toArray []))),(Dt.lst a0),(Dt.lst [])]) (Dt.agg [(Dt.int 6),(Dt.int 0),(Dt.str (ByteArray.mk (List.toArray []))),(Dt.lst a1),(Dt.lst [])])).bind fun r0=>
  some r0)) (by rfl)
def Us:List Nat:=[1,1,0,1,0]
def ac0:List Nat:=[1,1,0,1,0,0,1]
def avc:List Nat:=ac0++[1]
noncomputable def e40 (J:Q0) (m:Nat):=evAt Tryz.prog env (ct m) J (m+1) 68 77 Tryz.f68 d9
noncomputable def l40 (J:Q0) (m:Nat):=loopAt Tryz.prog env (ct m) J (m+1) 68 77 Tryz.f68 d9
noncomputable def mY (x0:Int) (x1 x2:Dt):St:=⟨tsOf [(2,.ptr 0 [] 0),(3,.ptr 1 [] 0),(5,.dat 3 (.int x0))],[.box 36 (.dat 36 x1),.box 36 (.dat 36 x2)],0⟩
noncomputable def avd:St:=⟨tsOf [],[],0⟩
noncomputable def ave (x0 x1:Dt):St:=⟨tsOf [(2,.ptr 0 [] 0),(3,.ptr 1 [] 0)],[.box 36 (.dat 36 x0),.box 36 (.dat 36 x1)],0⟩
noncomputable def uF (x0:Bool) (x1 x2:Dt):St:=⟨tsOf [(2,.ptr 0 [] 0),(3,.ptr 1 [] 0),(57,.dat 4 (.bool x0))],[.box 36 (.dat 36 x1),.box 36 (.dat 36 x2)],0⟩
abbrev avf (m M3:Nat) (rec3:Q9):Prop:=∀x0 x1 x2,l40 jn m Us [] M3 (mY x0 x1 x2)=rec3 x0 x1 x2
theorem ac1 m M3 rec3 (h3:avf m M3 rec3) x0 x1 x2:e40 jn m avc [M3] (mY x0 x1 x2)=F8 m (qC m) rec3 x0 x1 x2:=
 tq (g:=fun J=>(jj J 1 4 M3 (mY (IntKind.wrap .i64 (x0+1)) x1 x2) (l40 J m Us [] M3))) (by simp only[ah,h3];rfl)
theorem ac2 m M3 rec3 (h3:avf m M3 rec3) x0 x1 x2:e40 jn m ac0 [M3] (mY x0 x1 x2)=F9 m (qC m) rec3 x0 x1 x2:=
 tq (g:=fun J=>((idx (Dt.L x1 6) x0).bind fun v0=>
  ((idx (Dt.L x2 6) x0).bind fun v1=>
  ((qC m v0 v1).bind fun r2=>
  (bif (Bool.not r2) then
  some false
  else
  (jj J 0 5 0 (mY x0 x1 x2) (e40 J m avc [M3]))))))) (by simp only[ah,ac1 m M3 rec3 h3];rfl)
theorem ac3 m:e40 jn m [1,1,1] [] avd=Ga m (qC m):=
 tq (g:=fun J=>some true) (by rfl)
theorem Lb m:∀M3 x0 x1 x2,l40 jn m Us [] M3 (mY x0 x1 x2)=uO m (qC m) M3 x0 x1 x2
 |0,_,_,_=>rfl
 | M3+1,x0,x1,x2=>
   tl (g:=fun J=>(bif (decide (x0<(List.length (Dt.L x1 6):Int))) then
  (jj J 0 6 0 (mY x0 x1 x2) (e40 J m ac0 [M3]))
   else
  (jj J 0 8 0 avd (e40 J m [1,1,1] [])))) (by simp only[ah,ac2 m M3 (uO m (qC m) M3) (Lb m M3),ac3 m];rfl)
theorem ac4 m x0 x1 x2:e40 jn m [1,1,0,1] [] (mY x0 x1 x2)=Bn m (qC m) x0 x1 x2:=
 tq (g:=fun J=>(jj J 1 4 (Nat.succ m) (mY x0 x1 x2) (l40 J m Us [] (Nat.succ m)))) (by simp only[ah,Lb m];rfl)
theorem ac5 m x0 x1:e40 jn m [1,1] [] (ave x0 x1)=Bo m (qC m) x0 x1:=
 tq (g:=fun J=>(jj J 0 4 0 (mY 0 x0 x1) (e40 J m [1,1,0,1] []))) (by simp only[ah,ac4 m];rfl)
theorem ac6 m x0 x1 x2:e40 jn m [1,0,1] [] (uF x0 x1 x2)=dR m (qC m) x0 x1 x2:=
 tq (g:=fun J=>(bif x0 then
  some false
   else
  (jj J 0 3 0 (ave x1 x2) (e40 J m [1,1] [])))) (by simp only[ah,ac5 m];rfl)
theorem aCf m a0 a1:e40 jn m [] [] ⟨[.dat 36 a0,.dat 36 a1],[],0⟩=qC (m+1) a0 a1:=
 tq (g:=fun J=>(bif ((Dt.I a0 0) !=(Dt.I a1 0)) then
  (jj J 0 2 0 (uF true a0 a1) (e40 J m [1,0,1] []))
   else
  ((yE m (Dt.L a0 1) (Dt.L a1 1)).bind fun r3=>
  (bif (Bool.not r3) then
  (jj J 0 2 0 (uF true a0 a1) (e40 J m [1,0,1] []))
  else
  (bif (Bool.not ((ByteArray.toList (Dt.S a0 2))==(ByteArray.toList (Dt.S a1 2)))) then
  (jj J 0 2 0 (uF true a0 a1) (e40 J m [1,0,1] []))
  else
  ((yE m (Dt.L a0 3) (Dt.L a1 3)).bind fun r4=>
  (bif (Bool.not r4) then
  (jj J 0 2 0 (uF true a0 a1) (e40 J m [1,0,1] []))
  else
  ((qA m (Dt.fld a0 4) (Dt.fld a1 4)).bind fun r5=>
  (bif (Bool.not r5) then
  (jj J 0 2 0 (uF true a0 a1) (e40 J m [1,0,1] []))
  else
  (bif ((Dt.I a0 5) !=(Dt.I a1 5)) then
  (jj J 0 2 0 (uF true a0 a1) (e40 J m [1,0,1] []))
  else
  (jj J 0 2 0 (uF ((List.length (Dt.L a0 6):Int) !=(List.length (Dt.L a1 6):Int)) a0 a1) (e40 J m [1,0,1] [])))))))))))) (by simp only[ah,ac6 m];rfl)
def Ut:List Nat:=[1,1,0,1,0]
def Uu:List Nat:=[1,1,0,1,0,0,1]
def avg:List Nat:=Uu++[1]
def ET:List Nat:=Uu++[0,0,1,1]
noncomputable def e41 (J:Q0) (m:Nat):=evAt Tryz.prog env (ct m) J (m+1) 69 75 Tryz.f69 d9
noncomputable def l41 (J:Q0) (m:Nat):=loopAt Tryz.prog env (ct m) J (m+1) 69 75 Tryz.f69 d9
noncomputable def mZ (x0:Int) (x1 x2:Dt):St:=⟨tsOf [(2,.ptr 0 [] 0),(3,.ptr 1 [] 0),(5,.dat 3 (.int x0))],[.box 61 (.dat 61 x1),.box 61 (.dat 61 x2)],0⟩
noncomputable def EU (x0:Int) (x1:Bool) (x2 x3:Dt):St:=⟨tsOf [(2,.ptr 0 [] 0),(3,.ptr 1 [] 0),(5,.dat 3 (.int x0)),(74,.dat 4 (.bool x1))],[.box 61 (.dat 61 x2),.box 61 (.dat 61 x3)],0⟩
noncomputable def avh:St:=⟨tsOf [],[],0⟩
noncomputable def avi (x0 x1:Dt):St:=⟨tsOf [(2,.ptr 0 [] 0),(3,.ptr 1 [] 0)],[.box 61 (.dat 61 x0),.box 61 (.dat 61 x1)],0⟩
noncomputable def ac7 (x0:Bool) (x1 x2:Dt):St:=⟨tsOf [(2,.ptr 0 [] 0),(3,.ptr 1 [] 0),(22,.dat 4 (.bool x0))],[.box 61 (.dat 61 x1),.box 61 (.dat 61 x2)],0⟩
abbrev ac8 (m M3:Nat) (rec3:Q9):Prop:=∀x0 x1 x2,l41 jn m Ut [] M3 (mZ x0 x1 x2)=rec3 x0 x1 x2
theorem ac9 m M3 rec3 (h3:ac8 m M3 rec3) x0 x1 x2:e41 jn m avg [M3] (mZ x0 x1 x2)=Nj m rec3 x0 x1 x2:=
 tq (g:=fun J=>(jj J 1 4 M3 (mZ (IntKind.wrap .i64 (x0+1)) x1 x2) (l41 J m Ut [] M3))) (by simp only[ah,h3];rfl)
theorem ada m M3 rec3 (h3:ac8 m M3 rec3) x0 x1 x2 x3:e41 jn m ET [M3] (EU x0 x1 x2 x3)=qy m rec3 x0 x1 x2 x3:=
 tq (g:=fun J=>(bif x1 then
  some false
   else
  (jj J 0 5 0 (mZ x0 x2 x3) (e41 J m avg [M3])))) (by simp only[ah,ac9 m M3 rec3 h3];rfl)
theorem adb m M3 rec3 (h3:ac8 m M3 rec3) x0 x1 x2:e41 jn m Uu [M3] (mZ x0 x1 x2)=Nk m rec3 x0 x1 x2:=
 tq (g:=fun J=>((idx (Dt.L x1 1) x0).bind fun v1=>
  ((idx (Dt.L x2 1) x0).bind fun v2=>
  (bif (Bool.not ((ByteArray.toList (Dt.S v1 0))==(ByteArray.toList (Dt.S v2 0)))) then
  (jj J 0 8 0 (EU x0 true x1 x2) (e41 J m ET [M3]))
  else
  (bif ((Dt.I v1 1) !=(Dt.I v2 1)) then
  (jj J 0 8 0 (EU x0 true x1 x2) (e41 J m ET [M3]))
  else
  (bif ((Dt.I v1 4) !=(Dt.I v2 4)) then
  (jj J 0 8 0 (EU x0 true x1 x2) (e41 J m ET [M3]))
  else
  ((qC m (Dt.fld v1 2) (Dt.fld v2 2)).bind fun r3=>
  (bif (Bool.not r3) then
  (jj J 0 8 0 (EU x0 true x1 x2) (e41 J m ET [M3]))
  else
  ((qK m (Dt.L v1 3) (Dt.L v2 3)).bind fun r4=>
  (jj J 0 8 0 (EU x0 (Bool.not r4) x1 x2) (e41 J m ET [M3]))))))))))) (by simp only[ah,ada m M3 rec3 h3];rfl)
theorem ade m:e41 jn m [1,1,1] [] avh=Nl m:=
 tq (g:=fun J=>some true) (by rfl)
theorem Lc m:∀M3 x0 x1 x2,l41 jn m Ut [] M3 (mZ x0 x1 x2)=Gb m M3 x0 x1 x2
 |0,_,_,_=>rfl
 | M3+1,x0,x1,x2=>
   tl (g:=fun J=>(bif (decide (x0<(List.length (Dt.L x1 1):Int))) then
  (jj J 0 6 0 (mZ x0 x1 x2) (e41 J m Uu [M3]))
   else
  (jj J 0 9 0 avh (e41 J m [1,1,1] [])))) (by simp only[ah,adb m M3 (Gb m M3) (Lc m M3),ade m];rfl)
theorem adf m x0 x1 x2:e41 jn m [1,1,0,1] [] (mZ x0 x1 x2)=Nn m x0 x1 x2:=
 tq (g:=fun J=>(jj J 1 4 (Nat.succ m) (mZ x0 x1 x2) (l41 J m Ut [] (Nat.succ m)))) (by simp only[ah,Lc m];rfl)
theorem adg m x0 x1:e41 jn m [1,1] [] (avi x0 x1)=Np m x0 x1:=
 tq (g:=fun J=>(jj J 0 4 0 (mZ 0 x0 x1) (e41 J m [1,1,0,1] []))) (by simp only[ah,adf m];rfl)
theorem adh m x0 x1 x2:e41 jn m [1,0,1] [] (ac7 x0 x1 x2)=Gc m x0 x1 x2:=
 tq (g:=fun J=>(bif x0 then
  some false
   else
  (jj J 0 3 0 (avi x1 x2) (e41 J m [1,1] [])))) (by simp only[ah,adg m];rfl)
theorem aCg m a0 a1:e41 jn m [] [] ⟨[.dat 61 a0,.dat 61 a1],[],0⟩=qR (m+1) a0 a1:=
 tq (g:=fun J=>((qC m (Dt.fld a0 0) (Dt.fld a1 0)).bind fun r0=>
  (bif (Bool.not r0) then
  (jj J 0 2 0 (ac7 true a0 a1) (e41 J m [1,0,1] []))
  else
  (jj J 0 2 0 (ac7 ((List.length (Dt.L a0 1):Int) !=(List.length (Dt.L a1 1):Int)) a0 a1) (e41 J m [1,0,1] []))))) (by simp only[ah,adh m];rfl)
def Uv:List Nat:=[1,1,0,1,0]
def Uw:List Nat:=[1,1,0,1,0,0,1]
def avj:List Nat:=Uw++[1]
def wQ:List Nat:=Uw++[0,0,1,1]
noncomputable def e42 (J:Q0) (m:Nat):=evAt Tryz.prog env (ct m) J (m+1) 70 89 Tryz.f70 d9
noncomputable def l42 (J:Q0) (m:Nat):=loopAt Tryz.prog env (ct m) J (m+1) 70 89 Tryz.f70 d9
noncomputable def ng (x0:Int) (x1 x2:Dt):St:=⟨tsOf [(2,.ptr 0 [] 0),(3,.ptr 1 [] 0),(5,.dat 3 (.int x0))],[.box 64 (.dat 64 x1),.box 64 (.dat 64 x2)],0⟩
noncomputable def wR (x0:Int) (x1:Bool) (x2 x3:Dt):St:=⟨tsOf [(2,.ptr 0 [] 0),(3,.ptr 1 [] 0),(5,.dat 3 (.int x0)),(88,.dat 4 (.bool x1))],[.box 64 (.dat 64 x2),.box 64 (.dat 64 x3)],0⟩
noncomputable def avk:St:=⟨tsOf [],[],0⟩
noncomputable def avl (x0 x1:Dt):St:=⟨tsOf [(2,.ptr 0 [] 0),(3,.ptr 1 [] 0)],[.box 64 (.dat 64 x0),.box 64 (.dat 64 x1)],0⟩
noncomputable def Ux (x0:Bool) (x1 x2:Dt):St:=⟨tsOf [(2,.ptr 0 [] 0),(3,.ptr 1 [] 0),(30,.dat 4 (.bool x0))],[.box 64 (.dat 64 x1),.box 64 (.dat 64 x2)],0⟩
abbrev adi (m M3:Nat) (rec3:Q9):Prop:=∀x0 x1 x2,l42 jn m Uv [] M3 (ng x0 x1 x2)=rec3 x0 x1 x2
theorem adj m M3 rec3 (h3:adi m M3 rec3) x0 x1 x2:e42 jn m avj [M3] (ng x0 x1 x2)=Nq m rec3 x0 x1 x2:=
 tq (g:=fun J=>(jj J 1 4 M3 (ng (IntKind.wrap .i64 (x0+1)) x1 x2) (l42 J m Uv [] M3))) (by simp only[ah,h3];rfl)
theorem adk m M3 rec3 (h3:adi m M3 rec3) x0 x1 x2 x3:e42 jn m wQ [M3] (wR x0 x1 x2 x3)=nN m rec3 x0 x1 x2 x3:=
 tq (g:=fun J=>(bif x1 then
  some false
   else
  (jj J 0 5 0 (ng x0 x2 x3) (e42 J m avj [M3])))) (by simp only[ah,adj m M3 rec3 h3];rfl)
theorem adl m M3 rec3 (h3:adi m M3 rec3) x0 x1 x2:e42 jn m Uw [M3] (ng x0 x1 x2)=Nr m rec3 x0 x1 x2:=
 tq (g:=fun J=>((idx (Dt.L x1 2) x0).bind fun v1=>
  ((idx (Dt.L x2 2) x0).bind fun v2=>
  (bif (Bool.not ((ByteArray.toList (Dt.S v1 0))==(ByteArray.toList (Dt.S v2 0)))) then
  (jj J 0 8 0 (wR x0 true x1 x2) (e42 J m wQ [M3]))
  else
  (bif ((Dt.I v1 1) !=(Dt.I v2 1)) then
  (jj J 0 8 0 (wR x0 true x1 x2) (e42 J m wQ [M3]))
  else
  (bif ((Dt.I v1 3) !=(Dt.I v2 3)) then
  (jj J 0 8 0 (wR x0 true x1 x2) (e42 J m wQ [M3]))
  else
  (bif ((Dt.I v1 4) !=(Dt.I v2 4)) then
  (jj J 0 8 0 (wR x0 true x1 x2) (e42 J m wQ [M3]))
  else
  (bif (Bool.not ((Dt.B v1 5)==(Dt.B v2 5))) then
  (jj J 0 8 0 (wR x0 true x1 x2) (e42 J m wQ [M3]))
  else
  ((qC m (Dt.fld v1 2) (Dt.fld v2 2)).bind fun r3=>
  (jj J 0 8 0 (wR x0 (Bool.not r3) x1 x2) (e42 J m wQ [M3]))))))))))) (by simp only[ah,adk m M3 rec3 h3];rfl)
theorem adn m:e42 jn m [1,1,1] [] avk=Ns m:=
 tq (g:=fun J=>some true) (by rfl)
theorem Ld m:∀M3 x0 x1 x2,l42 jn m Uv [] M3 (ng x0 x1 x2)=Gd m M3 x0 x1 x2
 |0,_,_,_=>rfl
 | M3+1,x0,x1,x2=>
   tl (g:=fun J=>(bif (decide (x0<(List.length (Dt.L x1 2):Int))) then
  (jj J 0 6 0 (ng x0 x1 x2) (e42 J m Uw [M3]))
   else
  (jj J 0 9 0 avk (e42 J m [1,1,1] [])))) (by simp only[ah,adl m M3 (Gd m M3) (Ld m M3),adn m];rfl)
theorem ado m x0 x1 x2:e42 jn m [1,1,0,1] [] (ng x0 x1 x2)=Nt m x0 x1 x2:=
 tq (g:=fun J=>(jj J 1 4 (Nat.succ m) (ng x0 x1 x2) (l42 J m Uv [] (Nat.succ m)))) (by simp only[ah,Ld m];rfl)
theorem adp m x0 x1:e42 jn m [1,1] [] (avl x0 x1)=Nu m x0 x1:=
 tq (g:=fun J=>(jj J 0 4 0 (ng 0 x0 x1) (e42 J m [1,1,0,1] []))) (by simp only[ah,ado m];rfl)
theorem adq m x0 x1 x2:e42 jn m [1,0,1] [] (Ux x0 x1 x2)=Bp m x0 x1 x2:=
 tq (g:=fun J=>(bif x0 then
  some false
   else
  (jj J 0 3 0 (avl x1 x2) (e42 J m [1,1] [])))) (by simp only[ah,adp m];rfl)
theorem aCh m a0 a1:e42 jn m [] [] ⟨[.dat 64 a0,.dat 64 a1],[],0⟩=qJ (m+1) a0 a1:=
 tq (g:=fun J=>((qC m (Dt.fld a0 0) (Dt.fld a1 0)).bind fun r0=>
  (bif (Bool.not r0) then
  (jj J 0 2 0 (Ux true a0 a1) (e42 J m [1,0,1] []))
  else
  ((qK m (Dt.L a0 1) (Dt.L a1 1)).bind fun r4=>
  (bif (Bool.not r4) then
  (jj J 0 2 0 (Ux true a0 a1) (e42 J m [1,0,1] []))
  else
  (jj J 0 2 0 (Ux ((List.length (Dt.L a0 2):Int) !=(List.length (Dt.L a1 2):Int)) a0 a1) (e42 J m [1,0,1] []))))))) (by simp only[ah,adq m];rfl)
def Uy:List Nat:=[1,1,0,1,0]
def adr:List Nat:=[1,1,0,1,0,0,1]
def avm:List Nat:=adr++[1]
noncomputable def e43 (J:Q0) (m:Nat):=evAt Tryz.prog env (ct m) J (m+1) 64 93 Tryz.f64 d9
noncomputable def l43 (J:Q0) (m:Nat):=loopAt Tryz.prog env (ct m) J (m+1) 64 93 Tryz.f64 d9
noncomputable def ni (x0:Int) (x1 x2:Dt):St:=⟨tsOf [(2,.ptr 0 [] 0),(3,.ptr 1 [] 0),(5,.dat 3 (.int x0))],[.box 39 (.dat 39 x1),.box 39 (.dat 39 x2)],0⟩
noncomputable def avn:St:=⟨tsOf [],[],0⟩
noncomputable def avo (x0 x1:Dt):St:=⟨tsOf [(2,.ptr 0 [] 0),(3,.ptr 1 [] 0)],[.box 39 (.dat 39 x0),.box 39 (.dat 39 x1)],0⟩
abbrev avp (m M2:Nat) (rec2:Q9):Prop:=∀x0 x1 x2,l43 jn m Uy [] M2 (ni x0 x1 x2)=rec2 x0 x1 x2
theorem ads m M2 rec2 (h2:avp m M2 rec2) x0 x1 x2:e43 jn m avm [M2] (ni x0 x1 x2)=Gf m (qU m) rec2 x0 x1 x2:=
 tq (g:=fun J=>(jj J 1 4 M2 (ni (IntKind.wrap .i64 (x0+1)) x1 x2) (l43 J m Uy [] M2))) (by simp only[ah,h2];rfl)
theorem adt m M2 rec2 (h2:avp m M2 rec2) x0 x1 x2:e43 jn m adr [M2] (ni x0 x1 x2)=Gg m (qU m) rec2 x0 x1 x2:=
 tq (g:=fun J=>((idx (Dt.L x1 8) x0).bind fun v5=>
  ((idx (Dt.L x2 8) x0).bind fun v6=>
  ((qU m v5 v6).bind fun r7=>
  (bif (Bool.not r7) then
  some false
  else
  (jj J 0 5 0 (ni x0 x1 x2) (e43 J m avm [M2]))))))) (by simp only[ah,ads m M2 rec2 h2];rfl)
theorem adu m:e43 jn m [1,1,1] [] avn=Gh m (qU m):=
 tq (g:=fun J=>some true) (by rfl)
theorem Le m:∀M2 x0 x1 x2,l43 jn m Uy [] M2 (ni x0 x1 x2)=Bq m (qU m) M2 x0 x1 x2
 |0,_,_,_=>rfl
 | M2+1,x0,x1,x2=>
   tl (g:=fun J=>(bif (decide (x0<(List.length (Dt.L x1 8):Int))) then
  (jj J 0 6 0 (ni x0 x1 x2) (e43 J m adr [M2]))
   else
  (jj J 0 8 0 avn (e43 J m [1,1,1] [])))) (by simp only[ah,adt m M2 (Bq m (qU m) M2) (Le m M2),adu m];rfl)
theorem adv m x0 x1 x2:e43 jn m [1,1,0,1] [] (ni x0 x1 x2)=Gi m (qU m) x0 x1 x2:=
 tq (g:=fun J=>(jj J 1 4 (Nat.succ m) (ni x0 x1 x2) (l43 J m Uy [] (Nat.succ m)))) (by simp only[ah,Le m];rfl)
theorem adw m x0 x1:e43 jn m [1,1] [] (avo x0 x1)=Gj m (qU m) x0 x1:=
 tq (g:=fun J=>(jj J 0 4 0 (ni 0 x0 x1) (e43 J m [1,1,0,1] []))) (by simp only[ah,adv m];rfl)
theorem aCi m a0 a1:e43 jn m [] [] ⟨[.dat 39 a0,.dat 39 a1],[],0⟩=qU (m+1) a0 a1:=
 tq (g:=fun J=>(bif ((Dt.I a0 0) !=(Dt.I a1 0)) then
  some false
   else
  ((yE m (Dt.L a0 1) (Dt.L a1 1)).bind fun r0=>
  (bif (Bool.not r0) then
  some false
  else
  ((qA m (Dt.fld a0 2) (Dt.fld a1 2)).bind fun r1=>
  (bif (Bool.not r1) then
  some false
  else
  ((y0 m (Dt.L a0 3) (Dt.L a1 3)).bind fun r2=>
  (bif (Bool.not r2) then
  some false
  else
  (bif ((Dt.I a0 4) !=(Dt.I a1 4)) then
  some false
  else
  (bif ((Dt.I a0 5) !=(Dt.I a1 5)) then
  some false
  else
  ((qH m (Dt.fld a0 6) (Dt.fld a1 6)).bind fun r3=>
  (bif (Bool.not r3) then
  some false
  else
  ((qC m (Dt.fld a0 7) (Dt.fld a1 7)).bind fun r4=>
  (bif (Bool.not r4) then
  some false
  else
  (bif ((List.length (Dt.L a0 8):Int) !=(List.length (Dt.L a1 8):Int)) then
  some false
  else
  (jj J 0 3 0 (avo a0 a1) (e43 J m [1,1] []))))))))))))))))) (by simp only[ah,adw m];rfl)
noncomputable def e60 (J:Q0) (m:Nat):=evAt Tryz.prog env (ct m) J (m+1) 75 6 Tryz.f75 d9
theorem aCj m a0:e60 jn m [] [] ⟨[.dat 36 a0],[],0⟩=yS (m+1) a0:=
 tq (g:=fun J=>((qC m a0 vQ).bind fun r0=>
  some r0)) (by rfl)
noncomputable def e62 (J:Q0) (m:Nat):=evAt Tryz.prog env (ct m) J (m+1) 76 12 Tryz.f76 d9
theorem aCk m a0:e62 jn m [] [] ⟨[.dat 61 a0],[],0⟩=y8 (m+1) a0:=
 tq (g:=fun J=>((yS m (Dt.fld a0 0)).bind fun r0=>
  (bif r0 then
  some ((List.length (Dt.L a0 1):Int)==0)
  else
  some false))) (by rfl)
noncomputable def e63 (J:Q0) (m:Nat):=evAt Tryz.prog env (ct m) J (m+1) 77 18 Tryz.f77 d9
theorem aCl m a0:e63 jn m [] [] ⟨[.dat 64 a0],[],0⟩=yU (m+1) a0:=
 tq (g:=fun J=>((yS m (Dt.fld a0 0)).bind fun r0=>
  (bif r0 then
  (bif ((List.length (Dt.L a0 1):Int)==0) then
  some ((List.length (Dt.L a0 2):Int)==0)
  else
  some false)
  else
  some false))) (by rfl)
def Uz:List Nat:=[1,1,0,1,0]
def UA:List Nat:=[1,1,0,1,0,0,1]
def avq:List Nat:=UA++[1]
def adx:List Nat:=UA++[0,0,1]
noncomputable def e72 (J:Q0) (m:Nat):=evAt Tryz.prog env (ct m) J (m+1) 112 43 Tryz.f112 d9
noncomputable def l72 (J:Q0) (m:Nat):=loopAt Tryz.prog env (ct m) J (m+1) 112 43 Tryz.f112 d9
noncomputable def nk (x0 x1:List Dt) (x2:Int):St:=⟨tsOf [(0,.dat 43 (.lst x0)),(1,.dat 43 (.lst x1)),(5,.dat 3 (.int x2))],[],0⟩
noncomputable def ady (x0 x1:List Dt) (x2:Int) (x3:Bool):St:=⟨tsOf [(0,.dat 43 (.lst x0)),(1,.dat 43 (.lst x1)),(5,.dat 3 (.int x2)),(42,.dat 4 (.bool x3))],[],0⟩
noncomputable def avr:St:=⟨tsOf [],[],0⟩
noncomputable def avt (x0 x1:List Dt):St:=⟨tsOf [(0,.dat 43 (.lst x0)),(1,.dat 43 (.lst x1))],[],0⟩
abbrev adz (m M2:Nat) (rec2:Q10):Prop:=∀x0 x1 x2,l72 jn m Uz [] M2 (nk x0 x1 x2)=rec2 x0 x1 x2
theorem adA m M2 rec2 (h2:adz m M2 rec2) x0 x1 x2:e72 jn m avq [M2] (nk x0 x1 x2)=Gl m rec2 x0 x1 x2:=
 tq (g:=fun J=>(jj J 1 4 M2 (nk x0 x1 (IntKind.wrap .i64 (x2+1))) (l72 J m Uz [] M2))) (by simp only[ah,h2];rfl)
theorem adB m M2 rec2 (h2:adz m M2 rec2) x0 x1 x2 x3:e72 jn m adx [M2] (ady x0 x1 x2 x3)=Br m rec2 x0 x1 x2 x3:=
 tq (g:=fun J=>(bif x3 then
  some false
   else
  (jj J 0 5 0 (nk x0 x1 x2) (e72 J m avq [M2])))) (by simp only[ah,adA m M2 rec2 h2];rfl)
theorem adC m M2 rec2 (h2:adz m M2 rec2) x0 x1 x2:e72 jn m UA [M2] (nk x0 x1 x2)=Gm m rec2 x0 x1 x2:=
 tq (g:=fun J=>((idx x0 x2).bind fun v0=>
  ((idx x1 x2).bind fun v1=>
  ((yE m (Dt.L v0 0) (Dt.L v1 0)).bind fun r2=>
  (bif (Bool.not r2) then
  (jj J 0 7 0 (ady x0 x1 x2 true) (e72 J m adx [M2]))
  else
  ((idx x0 x2).bind fun v3=>
  ((idx x1 x2).bind fun v4=>
  ((qC m (Dt.fld v3 1) (Dt.fld v4 1)).bind fun r5=>
  (jj J 0 7 0 (ady x0 x1 x2 (Bool.not r5)) (e72 J m adx [M2])))))))))) (by simp only[ah,adB m M2 rec2 h2];rfl)
theorem adD m:e72 jn m [1,1,1] [] avr=Gn m:=
 tq (g:=fun J=>some true) (by rfl)
theorem Lf m:∀M2 x0 x1 x2,l72 jn m Uz [] M2 (nk x0 x1 x2)=Bt m M2 x0 x1 x2
 |0,_,_,_=>rfl
 | M2+1,x0,x1,x2=>
   tl (g:=fun J=>(bif (decide (x2<(List.length x0:Int))) then
  (jj J 0 6 0 (nk x0 x1 x2) (e72 J m UA [M2]))
   else
  (jj J 0 8 0 avr (e72 J m [1,1,1] [])))) (by simp only[ah,adC m M2 (Bt m M2) (Lf m M2),adD m];rfl)
theorem adE m x0 x1 x2:e72 jn m [1,1,0,1] [] (nk x0 x1 x2)=Gp m x0 x1 x2:=
 tq (g:=fun J=>(jj J 1 4 (Nat.succ m) (nk x0 x1 x2) (l72 J m Uz [] (Nat.succ m)))) (by simp only[ah,Lf m];rfl)
theorem adF m x0 x1:e72 jn m [1,1] [] (avt x0 x1)=Gq m x0 x1:=
 tq (g:=fun J=>(jj J 0 4 0 (nk x0 x1 0) (e72 J m [1,1,0,1] []))) (by simp only[ah,adE m];rfl)
theorem aCm m a0 a1:e72 jn m [] [] ⟨[.dat 43 (.lst a0),.dat 43 (.lst a1)],[],0⟩=qI (m+1) a0 a1:=
 tq (g:=fun J=>(bif ((List.length a0:Int) !=(List.length a1:Int)) then
  some false
   else
  (jj J 0 3 0 (avt a0 a1) (e72 J m [1,1] [])))) (by simp only[ah,adF m];rfl)
def UC:List Nat:=[1,1,0,1,0]
def UD:List Nat:=[1,1,0,1,0,0,1]
def avu:List Nat:=UD++[1]
def UE:List Nat:=UD++[0,0,1,1]
noncomputable def e44 (J:Q0) (m:Nat):=evAt Tryz.prog env (ct m) J (m+1) 65 79 Tryz.f65 d9
noncomputable def l44 (J:Q0) (m:Nat):=loopAt Tryz.prog env (ct m) J (m+1) 65 79 Tryz.f65 d9
noncomputable def nu (x0:Int) (x1 x2:Dt):St:=⟨tsOf [(2,.ptr 0 [] 0),(3,.ptr 1 [] 0),(5,.dat 3 (.int x0))],[.box 45 (.dat 45 x1),.box 45 (.dat 45 x2)],0⟩
noncomputable def UF (x0:Int) (x1:Bool) (x2 x3:Dt):St:=⟨tsOf [(2,.ptr 0 [] 0),(3,.ptr 1 [] 0),(5,.dat 3 (.int x0)),(73,.dat 4 (.bool x1))],[.box 45 (.dat 45 x2),.box 45 (.dat 45 x3)],0⟩
noncomputable def UG (x0 x1:Dt):St:=⟨tsOf [(2,.ptr 0 [] 0),(3,.ptr 1 [] 0)],[.box 45 (.dat 45 x0),.box 45 (.dat 45 x1)],0⟩
noncomputable def Lg (x0:Bool) (x1 x2:Dt):St:=⟨tsOf [(2,.ptr 0 [] 0),(3,.ptr 1 [] 0),(36,.dat 4 (.bool x0))],[.box 45 (.dat 45 x1),.box 45 (.dat 45 x2)],0⟩
abbrev adG (m M3:Nat) (rec3:Q9):Prop:=∀x0 x1 x2,l44 jn m UC [] M3 (nu x0 x1 x2)=rec3 x0 x1 x2
theorem adH m M3 rec3 (h3:adG m M3 rec3) x0 x1 x2:e44 jn m avu [M3] (nu x0 x1 x2)=Bu m rec3 x0 x1 x2:=
 tq (g:=fun J=>(jj J 1 4 M3 (nu (IntKind.wrap .i64 (x0+1)) x1 x2) (l44 J m UC [] M3))) (by simp only[ah,h3];rfl)
theorem adI m M3 rec3 (h3:adG m M3 rec3) x0 x1 x2 x3:e44 jn m UE [M3] (UF x0 x1 x2 x3)=qz m rec3 x0 x1 x2 x3:=
 tq (g:=fun J=>(bif x1 then
  some false
   else
  (jj J 0 5 0 (nu x0 x2 x3) (e44 J m avu [M3])))) (by simp only[ah,adH m M3 rec3 h3];rfl)
theorem adJ m M3 rec3 (h3:adG m M3 rec3) x0 x1 x2:e44 jn m UD [M3] (nu x0 x1 x2)=Bv m rec3 x0 x1 x2:=
 tq (g:=fun J=>((idx (Dt.L x1 3) x0).bind fun v0=>
  ((idx (Dt.L x2 3) x0).bind fun v1=>
  (bif ((Dt.I v0 1) !=(Dt.I v1 1)) then
  (jj J 0 8 0 (UF x0 true x1 x2) (e44 J m UE [M3]))
  else
  (bif ((Dt.I v0 2) !=(Dt.I v1 2)) then
  (jj J 0 8 0 (UF x0 true x1 x2) (e44 J m UE [M3]))
  else
  ((yE m (Dt.L v0 0) (Dt.L v1 0)).bind fun r2=>
  (jj J 0 8 0 (UF x0 (Bool.not r2) x1 x2) (e44 J m UE [M3])))))))) (by simp only[ah,adI m M3 rec3 h3];rfl)
theorem adK m x0 x1:e44 jn m [1,1,1] [] (UG x0 x1)=Bw m x0 x1:=
 tq (g:=fun J=>((qI m (Dt.L x0 4) (Dt.L x1 4)).bind fun r3=>
  some r3)) (by rfl)
theorem Lh m:∀M3 x0 x1 x2,l44 jn m UC [] M3 (nu x0 x1 x2)=Bz m M3 x0 x1 x2
 |0,_,_,_=>rfl
 | M3+1,x0,x1,x2=>
   tl (g:=fun J=>(bif (decide (x0<(List.length (Dt.L x1 3):Int))) then
  (jj J 0 6 0 (nu x0 x1 x2) (e44 J m UD [M3]))
   else
  (jj J 0 9 0 (UG x1 x2) (e44 J m [1,1,1] [])))) (by simp only[ah,adJ m M3 (Bz m M3) (Lh m M3),adK m];rfl)
theorem adL m x0 x1 x2:e44 jn m [1,1,0,1] [] (nu x0 x1 x2)=BD m x0 x1 x2:=
 tq (g:=fun J=>(jj J 1 4 (Nat.succ m) (nu x0 x1 x2) (l44 J m UC [] (Nat.succ m)))) (by simp only[ah,Lh m];rfl)
theorem adM m x0 x1:e44 jn m [1,1] [] (UG x0 x1)=BF m x0 x1:=
 tq (g:=fun J=>(jj J 0 4 0 (nu 0 x0 x1) (e44 J m [1,1,0,1] []))) (by simp only[ah,adL m];rfl)
theorem adN m x0 x1 x2:e44 jn m [1,0,1] [] (Lg x0 x1 x2)=jO m x0 x1 x2:=
 tq (g:=fun J=>(bif x0 then
  some false
   else
  (jj J 0 3 0 (UG x1 x2) (e44 J m [1,1] [])))) (by simp only[ah,adM m];rfl)
theorem aCn m a0 a1:e44 jn m [] [] ⟨[.dat 45 a0,.dat 45 a1],[],0⟩=qB (m+1) a0 a1:=
 tq (g:=fun J=>(bif (Bool.not ((Dt.B a0 0)==(Dt.B a1 0))) then
  (jj J 0 2 0 (Lg true a0 a1) (e44 J m [1,0,1] []))
   else
  (bif (Bool.not ((Dt.B a0 2)==(Dt.B a1 2))) then
  (jj J 0 2 0 (Lg true a0 a1) (e44 J m [1,0,1] []))
  else
  ((zA m (Dt.L a0 1) (Dt.L a1 1)).bind fun r4=>
  (bif (Bool.not r4) then
  (jj J 0 2 0 (Lg true a0 a1) (e44 J m [1,0,1] []))
  else
  (jj J 0 2 0 (Lg ((List.length (Dt.L a0 3):Int) !=(List.length (Dt.L a1 3):Int)) a0 a1) (e44 J m [1,0,1] []))))))) (by simp only[ah,adN m];rfl)
def dz:List Nat:=[1,1,1,0,1]
noncomputable def e19 (J:Q0) (m:Nat):=evAt Tryz.prog env (ct m) J (m+1) 35 180 Tryz.f35 d9
noncomputable def EW (x0:Dt):St:=⟨tsOf [(1,.ptr 0 [] 0)],[.box 71 (.dat 71 x0)],0⟩
noncomputable def dA (x0:Bool) (x1:Dt):St:=⟨tsOf [(1,.ptr 0 [] 0),(136,.dat 4 (.bool x0))],[.box 71 (.dat 71 x1)],0⟩
noncomputable def dB (x0:Bool) (x1:Dt):St:=⟨tsOf [(1,.ptr 0 [] 0),(90,.dat 4 (.bool x0))],[.box 71 (.dat 71 x1)],0⟩
noncomputable def dD (x0:Bool) (x1:Dt):St:=⟨tsOf [(1,.ptr 0 [] 0),(46,.dat 4 (.bool x0))],[.box 71 (.dat 71 x1)],0⟩
theorem adO m x0:e19 jn m [1,1,1,1] [] (EW x0)=Vx m x0:=
 tq (g:=fun J=>(bif ((Dt.I x0 0) !=11) then
  (bif (decide (0<(List.length (Dt.L x0 13):Int))) then
  some true
  else
  (bif ((Dt.I x0 0) !=12) then
  (bif (decide (0<(List.length (Dt.L x0 14):Int))) then
  some true
  else
  (bif ((Dt.I x0 0) !=18) then
  ((yT m (Dt.fld x0 15)).bind fun r4=>
  (bif (Bool.not r4) then
  some true
  else
  (bif ((Dt.I x0 0) !=17) then
  ((qH m (Dt.fld x0 16) bR).bind fun r5=>
  some (Bool.not r5))
  else
  some false)))
  else
  (bif ((Dt.I x0 0) !=17) then
  ((qH m (Dt.fld x0 16) bR).bind fun r6=>
  some (Bool.not r6))
  else
  some false)))
  else
  (bif ((Dt.I x0 0) !=18) then
  ((yT m (Dt.fld x0 15)).bind fun r7=>
  (bif (Bool.not r7) then
  some true
  else
  (bif ((Dt.I x0 0) !=17) then
  ((qH m (Dt.fld x0 16) bR).bind fun r8=>
  some (Bool.not r8))
  else
  some false)))
  else
  (bif ((Dt.I x0 0) !=17) then
  ((qH m (Dt.fld x0 16) bR).bind fun r9=>
  some (Bool.not r9))
  else
  some false))))
   else
  (bif ((Dt.I x0 0) !=12) then
  (bif (decide (0<(List.length (Dt.L x0 14):Int))) then
  some true
  else
  (bif ((Dt.I x0 0) !=18) then
  ((yT m (Dt.fld x0 15)).bind fun r10=>
  (bif (Bool.not r10) then
  some true
  else
  (bif ((Dt.I x0 0) !=17) then
  ((qH m (Dt.fld x0 16) bR).bind fun r11=>
  some (Bool.not r11))
  else
  some false)))
  else
  (bif ((Dt.I x0 0) !=17) then
  ((qH m (Dt.fld x0 16) bR).bind fun r12=>
  some (Bool.not r12))
  else
  some false)))
  else
  (bif ((Dt.I x0 0) !=18) then
  ((yT m (Dt.fld x0 15)).bind fun r13=>
  (bif (Bool.not r13) then
  some true
  else
  (bif ((Dt.I x0 0) !=17) then
  ((qH m (Dt.fld x0 16) bR).bind fun r14=>
  some (Bool.not r14))
  else
  some false)))
  else
  (bif ((Dt.I x0 0) !=17) then
  ((qH m (Dt.fld x0 16) bR).bind fun r15=>
  some (Bool.not r15))
  else
  some false))))) (by rfl)
theorem adP m x0 x1:e19 jn m dz [] (dA x0 x1)=bX m x0 x1:=
 tq (g:=fun J=>(bif x0 then
  some true
   else
  (jj J 0 7 0 (EW x1) (e19 J m [1,1,1,1] [])))) (by simp only[ah,adO m];rfl)
theorem adQ m x0:e19 jn m [1,1,1] [] (EW x0)=Vy m x0:=
 tq (g:=fun J=>((zS m (Dt.I x0 0) [(Dt.int 12),(Dt.int 14),(Dt.int 16)]).bind fun r2=>
  (bif (Bool.not r2) then
  ((yS m (Dt.fld x0 9)).bind fun r3=>
  (bif (Bool.not r3) then
  (jj J 0 6 0 (dA true x0) (e19 J m dz []))
  else
  (bif ((Dt.I x0 0) !=8) then
  ((y8 m (Dt.fld x0 10)).bind fun r16=>
  (bif (Bool.not r16) then
  (jj J 0 6 0 (dA true x0) (e19 J m dz []))
  else
  (bif ((Dt.I x0 0) !=9) then
  ((yU m (Dt.fld x0 11)).bind fun r17=>
  (bif (Bool.not r17) then
  (jj J 0 6 0 (dA true x0) (e19 J m dz []))
  else
  ((zS m (Dt.I x0 0) [(Dt.int 10),(Dt.int 15)]).bind fun r18=>
  (bif (Bool.not r18) then
  ((yF m (Dt.fld x0 12)).bind fun r19=>
  (jj J 0 6 0 (dA (Bool.not r19) x0) (e19 J m dz [])))
  else
  (jj J 0 6 0 (dA false x0) (e19 J m dz []))))))
  else
  ((zS m (Dt.I x0 0) [(Dt.int 10),(Dt.int 15)]).bind fun r20=>
  (bif (Bool.not r20) then
  ((yF m (Dt.fld x0 12)).bind fun r21=>
  (jj J 0 6 0 (dA (Bool.not r21) x0) (e19 J m dz [])))
  else
  (jj J 0 6 0 (dA false x0) (e19 J m dz [])))))))
  else
  (bif ((Dt.I x0 0) !=9) then
  ((yU m (Dt.fld x0 11)).bind fun r22=>
  (bif (Bool.not r22) then
  (jj J 0 6 0 (dA true x0) (e19 J m dz []))
  else
  ((zS m (Dt.I x0 0) [(Dt.int 10),(Dt.int 15)]).bind fun r23=>
  (bif (Bool.not r23) then
  ((yF m (Dt.fld x0 12)).bind fun r24=>
  (jj J 0 6 0 (dA (Bool.not r24) x0) (e19 J m dz [])))
  else
  (jj J 0 6 0 (dA false x0) (e19 J m dz []))))))
  else
  ((zS m (Dt.I x0 0) [(Dt.int 10),(Dt.int 15)]).bind fun r25=>
  (bif (Bool.not r25) then
  ((yF m (Dt.fld x0 12)).bind fun r26=>
  (jj J 0 6 0 (dA (Bool.not r26) x0) (e19 J m dz [])))
  else
  (jj J 0 6 0 (dA false x0) (e19 J m dz []))))))))
  else
  (bif ((Dt.I x0 0) !=8) then
  ((y8 m (Dt.fld x0 10)).bind fun r27=>
  (bif (Bool.not r27) then
  (jj J 0 6 0 (dA true x0) (e19 J m dz []))
  else
  (bif ((Dt.I x0 0) !=9) then
  ((yU m (Dt.fld x0 11)).bind fun r28=>
  (bif (Bool.not r28) then
  (jj J 0 6 0 (dA true x0) (e19 J m dz []))
  else
  ((zS m (Dt.I x0 0) [(Dt.int 10),(Dt.int 15)]).bind fun r29=>
  (bif (Bool.not r29) then
  ((yF m (Dt.fld x0 12)).bind fun r30=>
  (jj J 0 6 0 (dA (Bool.not r30) x0) (e19 J m dz [])))
  else
  (jj J 0 6 0 (dA false x0) (e19 J m dz []))))))
  else
  ((zS m (Dt.I x0 0) [(Dt.int 10),(Dt.int 15)]).bind fun r31=>
  (bif (Bool.not r31) then
  ((yF m (Dt.fld x0 12)).bind fun r32=>
  (jj J 0 6 0 (dA (Bool.not r32) x0) (e19 J m dz [])))
  else
  (jj J 0 6 0 (dA false x0) (e19 J m dz [])))))))
  else
  (bif ((Dt.I x0 0) !=9) then
  ((yU m (Dt.fld x0 11)).bind fun r33=>
  (bif (Bool.not r33) then
  (jj J 0 6 0 (dA true x0) (e19 J m dz []))
  else
  ((zS m (Dt.I x0 0) [(Dt.int 10),(Dt.int 15)]).bind fun r34=>
  (bif (Bool.not r34) then
  ((yF m (Dt.fld x0 12)).bind fun r35=>
  (jj J 0 6 0 (dA (Bool.not r35) x0) (e19 J m dz [])))
  else
  (jj J 0 6 0 (dA false x0) (e19 J m dz []))))))
  else
  ((zS m (Dt.I x0 0) [(Dt.int 10),(Dt.int 15)]).bind fun r36=>
  (bif (Bool.not r36) then
  ((yF m (Dt.fld x0 12)).bind fun r37=>
  (jj J 0 6 0 (dA (Bool.not r37) x0) (e19 J m dz [])))
  else
  (jj J 0 6 0 (dA false x0) (e19 J m dz []))))))))) (by simp only[ah,adP m];rfl)
theorem adR m x0 x1:e19 jn m [1,1,0,1] [] (dB x0 x1)=bY m x0 x1:=
 tq (g:=fun J=>(bif x0 then
  some true
   else
  (jj J 0 5 0 (EW x1) (e19 J m [1,1,1] [])))) (by simp only[ah,adQ m];rfl)
theorem adS m x0:e19 jn m [1,1] [] (EW x0)=Vz m x0:=
 tq (g:=fun J=>((zS m (Dt.I x0 0) [(Dt.int 5),(Dt.int 6)]).bind fun r1=>
  (bif (Bool.not r1) then
  (bif ((Dt.I x0 5) !=0) then
  (jj J 0 4 0 (dB true x0) (e19 J m [1,1,0,1] []))
  else
  ((zS m (Dt.I x0 0) [(Dt.int 7),(Dt.int 17)]).bind fun r38=>
  (bif (Bool.not r38) then
  (bif (decide (0<(List.length (Dt.L x0 6):Int))) then
  (jj J 0 4 0 (dB true x0) (e19 J m [1,1,0,1] []))
  else
  ((zS m (Dt.I x0 0) [(Dt.int 7),(Dt.int 13),(Dt.int 17)]).bind fun r39=>
  (bif (Bool.not r39) then
  (bif (Bool.not ((ByteArray.toList (Dt.S x0 7))==[])) then
  (jj J 0 4 0 (dB true x0) (e19 J m [1,1,0,1] []))
  else
  (bif ((Dt.I x0 0) !=7) then
  (jj J 0 4 0 (dB (Dt.B x0 8) x0) (e19 J m [1,1,0,1] []))
  else
  (jj J 0 4 0 (dB false x0) (e19 J m [1,1,0,1] []))))
  else
  (bif ((Dt.I x0 0) !=7) then
  (jj J 0 4 0 (dB (Dt.B x0 8) x0) (e19 J m [1,1,0,1] []))
  else
  (jj J 0 4 0 (dB false x0) (e19 J m [1,1,0,1] []))))))
  else
  ((zS m (Dt.I x0 0) [(Dt.int 7),(Dt.int 13),(Dt.int 17)]).bind fun r40=>
  (bif (Bool.not r40) then
  (bif (Bool.not ((ByteArray.toList (Dt.S x0 7))==[])) then
  (jj J 0 4 0 (dB true x0) (e19 J m [1,1,0,1] []))
  else
  (bif ((Dt.I x0 0) !=7) then
  (jj J 0 4 0 (dB (Dt.B x0 8) x0) (e19 J m [1,1,0,1] []))
  else
  (jj J 0 4 0 (dB false x0) (e19 J m [1,1,0,1] []))))
  else
  (bif ((Dt.I x0 0) !=7) then
  (jj J 0 4 0 (dB (Dt.B x0 8) x0) (e19 J m [1,1,0,1] []))
  else
  (jj J 0 4 0 (dB false x0) (e19 J m [1,1,0,1] []))))))))
  else
  ((zS m (Dt.I x0 0) [(Dt.int 7),(Dt.int 17)]).bind fun r41=>
  (bif (Bool.not r41) then
  (bif (decide (0<(List.length (Dt.L x0 6):Int))) then
  (jj J 0 4 0 (dB true x0) (e19 J m [1,1,0,1] []))
  else
  ((zS m (Dt.I x0 0) [(Dt.int 7),(Dt.int 13),(Dt.int 17)]).bind fun r42=>
  (bif (Bool.not r42) then
  (bif (Bool.not ((ByteArray.toList (Dt.S x0 7))==[])) then
  (jj J 0 4 0 (dB true x0) (e19 J m [1,1,0,1] []))
  else
  (bif ((Dt.I x0 0) !=7) then
  (jj J 0 4 0 (dB (Dt.B x0 8) x0) (e19 J m [1,1,0,1] []))
  else
  (jj J 0 4 0 (dB false x0) (e19 J m [1,1,0,1] []))))
  else
  (bif ((Dt.I x0 0) !=7) then
  (jj J 0 4 0 (dB (Dt.B x0 8) x0) (e19 J m [1,1,0,1] []))
  else
  (jj J 0 4 0 (dB false x0) (e19 J m [1,1,0,1] []))))))
  else
  ((zS m (Dt.I x0 0) [(Dt.int 7),(Dt.int 13),(Dt.int 17)]).bind fun r43=>
  (bif (Bool.not r43) then
  (bif (Bool.not ((ByteArray.toList (Dt.S x0 7))==[])) then
  (jj J 0 4 0 (dB true x0) (e19 J m [1,1,0,1] []))
  else
  (bif ((Dt.I x0 0) !=7) then
  (jj J 0 4 0 (dB (Dt.B x0 8) x0) (e19 J m [1,1,0,1] []))
  else
  (jj J 0 4 0 (dB false x0) (e19 J m [1,1,0,1] []))))
  else
  (bif ((Dt.I x0 0) !=7) then
  (jj J 0 4 0 (dB (Dt.B x0 8) x0) (e19 J m [1,1,0,1] []))
  else
  (jj J 0 4 0 (dB false x0) (e19 J m [1,1,0,1] [])))))))))) (by simp only[ah,adR m];rfl)
theorem adT m x0 x1:e19 jn m [1,0,1] [] (dD x0 x1)=bZ m x0 x1:=
 tq (g:=fun J=>(bif x0 then
  some true
   else
  (jj J 0 3 0 (EW x1) (e19 J m [1,1] [])))) (by simp only[ah,adS m];rfl)
theorem aCo m a0:e19 jn m [] [] ⟨[.dat 71 a0],[],0⟩=qO (m+1) a0:=
 tq (g:=fun J=>(bif ((Dt.I a0 0) !=1) then
  ((qU m (Dt.fld a0 1) vR).bind fun r0=>
  (bif (Bool.not r0) then
  (jj J 0 2 0 (dD true a0) (e19 J m [1,0,1] []))
  else
  (bif ((Dt.I a0 0) !=2) then
  ((qB m (Dt.fld a0 2) vS).bind fun r44=>
  (bif (Bool.not r44) then
  (jj J 0 2 0 (dD true a0) (e19 J m [1,0,1] []))
  else
  (bif ((Dt.I a0 0) !=3) then
  (bif (decide (0<(List.length (Dt.L a0 3):Int))) then
  (jj J 0 2 0 (dD true a0) (e19 J m [1,0,1] []))
  else
  (bif ((Dt.I a0 0) !=4) then
  (jj J 0 2 0 (dD (decide (0<(List.length (Dt.L a0 4):Int))) a0) (e19 J m [1,0,1] []))
  else
  (jj J 0 2 0 (dD false a0) (e19 J m [1,0,1] []))))
  else
  (bif ((Dt.I a0 0) !=4) then
  (jj J 0 2 0 (dD (decide (0<(List.length (Dt.L a0 4):Int))) a0) (e19 J m [1,0,1] []))
  else
  (jj J 0 2 0 (dD false a0) (e19 J m [1,0,1] []))))))
  else
  (bif ((Dt.I a0 0) !=3) then
  (bif (decide (0<(List.length (Dt.L a0 3):Int))) then
  (jj J 0 2 0 (dD true a0) (e19 J m [1,0,1] []))
  else
  (bif ((Dt.I a0 0) !=4) then
  (jj J 0 2 0 (dD (decide (0<(List.length (Dt.L a0 4):Int))) a0) (e19 J m [1,0,1] []))
  else
  (jj J 0 2 0 (dD false a0) (e19 J m [1,0,1] []))))
  else
  (bif ((Dt.I a0 0) !=4) then
  (jj J 0 2 0 (dD (decide (0<(List.length (Dt.L a0 4):Int))) a0) (e19 J m [1,0,1] []))
  else
  (jj J 0 2 0 (dD false a0) (e19 J m [1,0,1] [])))))))
   else
  (bif ((Dt.I a0 0) !=2) then
  ((qB m (Dt.fld a0 2) vS).bind fun r45=>
  (bif (Bool.not r45) then
  (jj J 0 2 0 (dD true a0) (e19 J m [1,0,1] []))
  else
  (bif ((Dt.I a0 0) !=3) then
  (bif (decide (0<(List.length (Dt.L a0 3):Int))) then
  (jj J 0 2 0 (dD true a0) (e19 J m [1,0,1] []))
  else
  (bif ((Dt.I a0 0) !=4) then
  (jj J 0 2 0 (dD (decide (0<(List.length (Dt.L a0 4):Int))) a0) (e19 J m [1,0,1] []))
  else
  (jj J 0 2 0 (dD false a0) (e19 J m [1,0,1] []))))
  else
  (bif ((Dt.I a0 0) !=4) then
  (jj J 0 2 0 (dD (decide (0<(List.length (Dt.L a0 4):Int))) a0) (e19 J m [1,0,1] []))
  else
  (jj J 0 2 0 (dD false a0) (e19 J m [1,0,1] []))))))
  else
  (bif ((Dt.I a0 0) !=3) then
  (bif (decide (0<(List.length (Dt.L a0 3):Int))) then
  (jj J 0 2 0 (dD true a0) (e19 J m [1,0,1] []))
  else
  (bif ((Dt.I a0 0) !=4) then
  (jj J 0 2 0 (dD (decide (0<(List.length (Dt.L a0 4):Int))) a0) (e19 J m [1,0,1] []))
  else
  (jj J 0 2 0 (dD false a0) (e19 J m [1,0,1] []))))
  else
  (bif ((Dt.I a0 0) !=4) then
  (jj J 0 2 0 (dD (decide (0<(List.length (Dt.L a0 4):Int))) a0) (e19 J m [1,0,1] []))
  else
  (jj J 0 2 0 (dD false a0) (e19 J m [1,0,1] []))))))) (by simp only[ah,adT m];rfl)
noncomputable def e45 (J:Q0) (m:Nat):=evAt Tryz.prog env (ct m) J (m+1) 66 10 Tryz.f66 d9
theorem aCp m a0 a1:e45 jn m [] [] ⟨[.dat 43 (.lst a0),.dat 43 (.lst a1)],[],0⟩=vG (m+1) a0 a1:=
 tq (g:=fun J=>((qB m (Dt.agg [(Dt.bool false),(Dt.lst []),(Dt.bool false),(Dt.lst []),(Dt.lst a0)]) (Dt.agg [(Dt.bool false),(Dt.lst []),(Dt.bool false),(Dt.lst []),(Dt.lst a1)])).bind fun r0=>
  some r0)) (by rfl)
def aq5:List Nat:=[1,1,0,1,0]
def ayS:List Nat:=[1,1,0,1,0,0,1]
def aCq:List Nat:=ayS++[1]
noncomputable def e5 (J:Q0) (m:Nat):=evAt Tryz.prog env (ct m) J (m+1) 10 27 Tryz.f10 d9
noncomputable def l5 (J:Q0) (m:Nat):=loopAt Tryz.prog env (ct m) J (m+1) 10 27 Tryz.f10 d9
noncomputable def DL (x0 x1:List Dt) (x2:Int):St:=⟨tsOf [(0,.dat 22 (.lst x0)),(1,.dat 22 (.lst x1)),(5,.dat 3 (.int x2))],[],0⟩
noncomputable def aCr:St:=⟨tsOf [],[],0⟩
noncomputable def aCs (x0 x1:List Dt):St:=⟨tsOf [(0,.dat 22 (.lst x0)),(1,.dat 22 (.lst x1))],[],0⟩
abbrev aCt (m M2:Nat) (rec2:Q10):Prop:=∀x0 x1 x2,l5 jn m aq5 [] M2 (DL x0 x1 x2)=rec2 x0 x1 x2
theorem adU m M2 rec2 (h2:aCt m M2 rec2) x0 x1 x2:e5 jn m aCq [M2] (DL x0 x1 x2)=Nv m (qY m) rec2 x0 x1 x2:=
 tq (g:=fun J=>(jj J 1 4 M2 (DL x0 x1 (IntKind.wrap .i64 (x2+1))) (l5 J m aq5 [] M2))) (by simp only[ah,h2];rfl)
theorem adV m M2 rec2 (h2:aCt m M2 rec2) x0 x1 x2:e5 jn m ayS [M2] (DL x0 x1 x2)=Nw m (qY m) rec2 x0 x1 x2:=
 tq (g:=fun J=>((idx x0 x2).bind fun v0=>
  ((idx x1 x2).bind fun v1=>
  ((qY m v0 v1).bind fun r2=>
  (bif (Bool.not r2) then
  some false
  else
  (jj J 0 5 0 (DL x0 x1 x2) (e5 J m aCq [M2]))))))) (by simp only[ah,adU m M2 rec2 h2];rfl)
theorem adW m:e5 jn m [1,1,1] [] aCr=Ny m (qY m):=
 tq (g:=fun J=>some true) (by rfl)
theorem Li m:∀M2 x0 x1 x2,l5 jn m aq5 [] M2 (DL x0 x1 x2)=Gr m (qY m) M2 x0 x1 x2
 |0,_,_,_=>rfl
 | M2+1,x0,x1,x2=>
   tl (g:=fun J=>(bif (decide (x2<(List.length x0:Int))) then
  (jj J 0 6 0 (DL x0 x1 x2) (e5 J m ayS [M2]))
   else
  (jj J 0 8 0 aCr (e5 J m [1,1,1] [])))) (by simp only[ah,adV m M2 (Gr m (qY m) M2) (Li m M2),adW m];rfl)
theorem adX m x0 x1 x2:e5 jn m [1,1,0,1] [] (DL x0 x1 x2)=Nz m (qY m) x0 x1 x2:=
 tq (g:=fun J=>(jj J 1 4 (Nat.succ m) (DL x0 x1 x2) (l5 J m aq5 [] (Nat.succ m)))) (by simp only[ah,Li m];rfl)
theorem adY m x0 x1:e5 jn m [1,1] [] (aCs x0 x1)=NA m (qY m) x0 x1:=
 tq (g:=fun J=>(jj J 0 4 0 (DL x0 x1 0) (e5 J m [1,1,0,1] []))) (by simp only[ah,adX m];rfl)
theorem aCu m a0 a1:e5 jn m [] [] ⟨[.dat 22 (.lst a0),.dat 22 (.lst a1)],[],0⟩=zN (m+1) a0 a1:=
 tq (g:=fun J=>(bif ((List.length a0:Int) !=(List.length a1:Int)) then
  some false
   else
  (jj J 0 3 0 (aCs a0 a1) (e5 J m [1,1] [])))) (by simp only[ah,adY m];rfl)
def avv:List Nat:=[1,1,1,1,1]
def wS:List Nat:=[1,1,1,1,0,1]
noncomputable def e15 (J:Q0) (m:Nat):=evAt Tryz.prog env (ct m) J (m+1) 31 189 Tryz.f31 d9
noncomputable def EX (x0 x1:Dt):St:=⟨tsOf [(2,.ptr 0 [] 0),(3,.ptr 1 [] 0)],[.box 71 (.dat 71 x0),.box 71 (.dat 71 x1)],0⟩
noncomputable def wT (x0:Bool) (x1 x2:Dt):St:=⟨tsOf [(2,.ptr 0 [] 0),(3,.ptr 1 [] 0),(144,.dat 4 (.bool x0))],[.box 71 (.dat 71 x1),.box 71 (.dat 71 x2)],0⟩
noncomputable def uG (x0:Bool) (x1 x2:Dt):St:=⟨tsOf [(2,.ptr 0 [] 0),(3,.ptr 1 [] 0),(96,.dat 4 (.bool x0))],[.box 71 (.dat 71 x1),.box 71 (.dat 71 x2)],0⟩
noncomputable def EY (x0:Bool) (x1 x2:Dt):St:=⟨tsOf [(2,.ptr 0 [] 0),(3,.ptr 1 [] 0),(45,.dat 4 (.bool x0))],[.box 71 (.dat 71 x1),.box 71 (.dat 71 x2)],0⟩
theorem adZ m x0 x1:e15 jn m avv [] (EX x0 x1)=air m (zN m) (qN m) x0 x1:=
 tq (g:=fun J=>((y0 m (Dt.L x0 14) (Dt.L x1 14)).bind fun r0=>
  (bif r0 then
  (bif ((ByteArray.toList (Dt.S (Dt.fld x0 15) 0))==(ByteArray.toList (Dt.S (Dt.fld x1 15) 0))) then
  ((zA m (Dt.L (Dt.fld x0 15) 1) (Dt.L (Dt.fld x1 15) 1)).bind fun r1=>
  (bif r1 then
  (bif ((Dt.I (Dt.fld x0 15) 2)==(Dt.I (Dt.fld x1 15) 2)) then
  (bif ((Dt.I (Dt.fld x0 15) 3)==(Dt.I (Dt.fld x1 15) 3)) then
  ((qH m (Dt.fld x0 16) (Dt.fld x1 16)).bind fun r2=>
  some r2)
  else
  some false)
  else
  some false)
  else
  some false))
  else
  some false)
  else
  some false))) (by rfl)
theorem ad1 m x0 x1 x2:e15 jn m wS [] (wT x0 x1 x2)=uP m (zN m) (qN m) x0 x1 x2:=
 tq (g:=fun J=>(bif x0 then
  some false
   else
  (jj J 0 8 0 (EX x1 x2) (e15 J m avv [])))) (by simp only[ah,adZ m];rfl)
theorem ad2 m x0 x1:e15 jn m [1,1,1] [] (EX x0 x1)=ais m (zN m) (qN m) x0 x1:=
 tq (g:=fun J=>(bif (Bool.not ((ByteArray.toList (Dt.S (Dt.fld x0 12) 0))==(ByteArray.toList (Dt.S (Dt.fld x1 12) 0)))) then
  (jj J 0 7 0 (wT true x0 x1) (e15 J m wS []))
   else
  ((yE m (Dt.L (Dt.fld x0 12) 1) (Dt.L (Dt.fld x1 12) 1)).bind fun r3=>
  (bif (Bool.not r3) then
  (jj J 0 7 0 (wT true x0 x1) (e15 J m wS []))
  else
  ((yE m (Dt.L (Dt.fld x0 12) 2) (Dt.L (Dt.fld x1 12) 2)).bind fun r4=>
  (bif (Bool.not r4) then
  (jj J 0 7 0 (wT true x0 x1) (e15 J m wS []))
  else
  (bif (Bool.not ((ByteArray.toList (Dt.S (Dt.fld x0 12) 3))==(ByteArray.toList (Dt.S (Dt.fld x1 12) 3)))) then
  (jj J 0 7 0 (wT true x0 x1) (e15 J m wS []))
  else
  ((zN m (Dt.L (Dt.fld x0 12) 4) (Dt.L (Dt.fld x1 12) 4)).bind fun r5=>
  (bif (Bool.not r5) then
  (jj J 0 7 0 (wT true x0 x1) (e15 J m wS []))
  else
  ((qN m (Dt.L x0 13) (Dt.L x1 13)).bind fun r6=>
  (jj J 0 7 0 (wT (Bool.not r6) x0 x1) (e15 J m wS [])))))))))))) (by simp only[ah,ad1 m];rfl)
theorem ad3 m x0 x1 x2:e15 jn m [1,1,0,1] [] (uG x0 x1 x2)=ru m (zN m) (qN m) x0 x1 x2:=
 tq (g:=fun J=>(bif x0 then
  some false
   else
  (jj J 0 5 0 (EX x1 x2) (e15 J m [1,1,1] [])))) (by simp only[ah,ad2 m];rfl)
theorem ad4 m x0 x1:e15 jn m [1,1] [] (EX x0 x1)=ait m (zN m) (qN m) x0 x1:=
 tq (g:=fun J=>(bif ((Dt.I x0 5) !=(Dt.I x1 5)) then
  (jj J 0 4 0 (uG true x0 x1) (e15 J m [1,1,0,1] []))
   else
  ((yE m (Dt.L x0 6) (Dt.L x1 6)).bind fun r7=>
  (bif (Bool.not r7) then
  (jj J 0 4 0 (uG true x0 x1) (e15 J m [1,1,0,1] []))
  else
  (bif (Bool.not ((ByteArray.toList (Dt.S x0 7))==(ByteArray.toList (Dt.S x1 7)))) then
  (jj J 0 4 0 (uG true x0 x1) (e15 J m [1,1,0,1] []))
  else
  (bif (Bool.not ((Dt.B x0 8)==(Dt.B x1 8))) then
  (jj J 0 4 0 (uG true x0 x1) (e15 J m [1,1,0,1] []))
  else
  ((qC m (Dt.fld x0 9) (Dt.fld x1 9)).bind fun r8=>
  (bif (Bool.not r8) then
  (jj J 0 4 0 (uG true x0 x1) (e15 J m [1,1,0,1] []))
  else
  ((qR m (Dt.fld x0 10) (Dt.fld x1 10)).bind fun r9=>
  (bif (Bool.not r9) then
  (jj J 0 4 0 (uG true x0 x1) (e15 J m [1,1,0,1] []))
  else
  ((qJ m (Dt.fld x0 11) (Dt.fld x1 11)).bind fun r10=>
  (jj J 0 4 0 (uG (Bool.not r10) x0 x1) (e15 J m [1,1,0,1] []))))))))))))) (by simp only[ah,ad3 m];rfl)
theorem ad5 m x0 x1 x2:e15 jn m [1,0,1] [] (EY x0 x1 x2)=BG m (zN m) (qN m) x0 x1 x2:=
 tq (g:=fun J=>(bif x0 then
  some false
   else
  (jj J 0 3 0 (EX x1 x2) (e15 J m [1,1] [])))) (by simp only[ah,ad4 m];rfl)
theorem aCv m a0 a1:e15 jn m [] [] ⟨[.dat 71 a0,.dat 71 a1],[],0⟩=qY (m+1) a0 a1:=
 tq (g:=fun J=>(bif ((Dt.I a0 0) !=(Dt.I a1 0)) then
  (jj J 0 2 0 (EY true a0 a1) (e15 J m [1,0,1] []))
   else
  ((qU m (Dt.fld a0 1) (Dt.fld a1 1)).bind fun r11=>
  (bif (Bool.not r11) then
  (jj J 0 2 0 (EY true a0 a1) (e15 J m [1,0,1] []))
  else
  ((qB m (Dt.fld a0 2) (Dt.fld a1 2)).bind fun r12=>
  (bif (Bool.not r12) then
  (jj J 0 2 0 (EY true a0 a1) (e15 J m [1,0,1] []))
  else
  ((vG m (Dt.L a0 3) (Dt.L a1 3)).bind fun r13=>
  (bif (Bool.not r13) then
  (jj J 0 2 0 (EY true a0 a1) (e15 J m [1,0,1] []))
  else
  ((qK m (Dt.L a0 4) (Dt.L a1 4)).bind fun r14=>
  (jj J 0 2 0 (EY (Bool.not r14) a0 a1) (e15 J m [1,0,1] []))))))))))) (by simp only[ah,ad5 m];rfl)
def UH:List Nat:=[1,1,0,1,0]
def UJ:List Nat:=[1,1,0,1,0,0,1]
def avw:List Nat:=UJ++[1]
def ad6:List Nat:=UJ++[0,0,1]
noncomputable def e39 (J:Q0) (m:Nat):=evAt Tryz.prog env (ct m) J (m+1) 71 42 Tryz.f71 d9
noncomputable def l39 (J:Q0) (m:Nat):=loopAt Tryz.prog env (ct m) J (m+1) 71 42 Tryz.f71 d9
noncomputable def ny (x0 x1:List Dt) (x2:Int):St:=⟨tsOf [(0,.dat 67 (.lst x0)),(1,.dat 67 (.lst x1)),(5,.dat 3 (.int x2))],[],0⟩
noncomputable def ad7 (x0 x1:List Dt) (x2:Int) (x3:Bool):St:=⟨tsOf [(0,.dat 67 (.lst x0)),(1,.dat 67 (.lst x1)),(5,.dat 3 (.int x2)),(41,.dat 4 (.bool x3))],[],0⟩
noncomputable def avx:St:=⟨tsOf [],[],0⟩
noncomputable def avy (x0 x1:List Dt):St:=⟨tsOf [(0,.dat 67 (.lst x0)),(1,.dat 67 (.lst x1))],[],0⟩
abbrev ad8 (m M2:Nat) (rec2:Q10):Prop:=∀x0 x1 x2,l39 jn m UH [] M2 (ny x0 x1 x2)=rec2 x0 x1 x2
theorem ad9 m M2 rec2 (h2:ad8 m M2 rec2) x0 x1 x2:e39 jn m avw [M2] (ny x0 x1 x2)=NC m (zN m) rec2 x0 x1 x2:=
 tq (g:=fun J=>(jj J 1 4 M2 (ny x0 x1 (IntKind.wrap .i64 (x2+1))) (l39 J m UH [] M2))) (by simp only[ah,h2];rfl)
theorem aea m M2 rec2 (h2:ad8 m M2 rec2) x0 x1 x2 x3:e39 jn m ad6 [M2] (ad7 x0 x1 x2 x3)=Gs m (zN m) rec2 x0 x1 x2 x3:=
 tq (g:=fun J=>(bif x3 then
  some false
   else
  (jj J 0 5 0 (ny x0 x1 x2) (e39 J m avw [M2])))) (by simp only[ah,ad9 m M2 rec2 h2];rfl)
theorem aeb m M2 rec2 (h2:ad8 m M2 rec2) x0 x1 x2:e39 jn m UJ [M2] (ny x0 x1 x2)=ND m (zN m) rec2 x0 x1 x2:=
 tq (g:=fun J=>((idx x0 x2).bind fun v0=>
  ((idx x1 x2).bind fun v1=>
  (bif (Bool.not ((ByteArray.toList (Dt.S v0 0))==(ByteArray.toList (Dt.S v1 0)))) then
  (jj J 0 7 0 (ad7 x0 x1 x2 true) (e39 J m ad6 [M2]))
  else
  ((idx x0 x2).bind fun v2=>
  ((idx x1 x2).bind fun v3=>
  ((zN m (Dt.L v2 1) (Dt.L v3 1)).bind fun r4=>
  (jj J 0 7 0 (ad7 x0 x1 x2 (Bool.not r4)) (e39 J m ad6 [M2]))))))))) (by simp only[ah,aea m M2 rec2 h2];rfl)
theorem aec m:e39 jn m [1,1,1] [] avx=NG m (zN m):=
 tq (g:=fun J=>some true) (by rfl)
theorem Lj m:∀M2 x0 x1 x2,l39 jn m UH [] M2 (ny x0 x1 x2)=Gt m (zN m) M2 x0 x1 x2
 |0,_,_,_=>rfl
 | M2+1,x0,x1,x2=>
   tl (g:=fun J=>(bif (decide (x2<(List.length x0:Int))) then
  (jj J 0 6 0 (ny x0 x1 x2) (e39 J m UJ [M2]))
   else
  (jj J 0 8 0 avx (e39 J m [1,1,1] [])))) (by simp only[ah,aeb m M2 (Gt m (zN m) M2) (Lj m M2),aec m];rfl)
theorem aed m x0 x1 x2:e39 jn m [1,1,0,1] [] (ny x0 x1 x2)=NH m (zN m) x0 x1 x2:=
 tq (g:=fun J=>(jj J 1 4 (Nat.succ m) (ny x0 x1 x2) (l39 J m UH [] (Nat.succ m)))) (by simp only[ah,Lj m];rfl)
theorem aee m x0 x1:e39 jn m [1,1] [] (avy x0 x1)=NI m (zN m) x0 x1:=
 tq (g:=fun J=>(jj J 0 4 0 (ny x0 x1 0) (e39 J m [1,1,0,1] []))) (by simp only[ah,aed m];rfl)
theorem aCw m a0 a1:e39 jn m [] [] ⟨[.dat 67 (.lst a0),.dat 67 (.lst a1)],[],0⟩=qN (m+1) a0 a1:=
 tq (g:=fun J=>(bif ((List.length a0:Int) !=(List.length a1:Int)) then
  some false
   else
  (jj J 0 3 0 (avy a0 a1) (e39 J m [1,1] [])))) (by simp only[ah,aee m];rfl)
def avz:List Nat:=[1,1,1,0,1]
def Ll:List Nat:=[1,1,1,0,1,0]
def aef:List Nat:=Ll++[0,1]
def avA:List Nat:=aef++[1]
noncomputable def e73 (J:Q1) (m:Nat):=evAt Tryz.prog env (ct m) J (m+1) 58 37 Tryz.f58 d7
noncomputable def l73 (J:Q1) (m:Nat):=loopAt Tryz.prog env (ct m) J (m+1) 58 37 Tryz.f58 d7
noncomputable def nA (x0 x1 x2:Int) (x3:Dt):St:=⟨tsOf [(1,.dat 3 (.int x0)),(2,.dat 3 (.int x1)),(3,.ptr 0 [] 0),(7,.dat 3 (.int x2))],[.box 39 (.dat 39 x3)],0⟩
noncomputable def aeg (x0:Int):St:=⟨tsOf [(2,.dat 3 (.int x0))],[],0⟩
noncomputable def avB (x0 x1:Int) (x2:Dt):St:=⟨tsOf [(1,.dat 3 (.int x0)),(2,.dat 3 (.int x1)),(3,.ptr 0 [] 0)],[.box 39 (.dat 39 x2)],0⟩
noncomputable def aeh (x0 x1:Int) (x2:Bool) (x3:Dt):St:=⟨tsOf [(1,.dat 3 (.int x0)),(2,.dat 3 (.int x1)),(3,.ptr 0 [] 0),(13,.dat 4 (.bool x2))],[.box 39 (.dat 39 x3)],0⟩
abbrev avD (m M3:Nat) (rec3:Q38):Prop:=∀x0 x1 x2 x3,l73 jn m Ll [] M3 (nA x0 x1 x2 x3)=rec3 x0 x1 x2 x3
theorem aei m M3 rec3 (h3:avD m M3 rec3) x0 x1 x2 x3:e73 jn m avA [M3] (nA x0 x1 x2 x3)=aiu m (zT m) rec3 x0 x1 x2 x3:=
 tq (g:=fun J=>(jj J 1 5 M3 (nA x0 x1 (IntKind.wrap .i64 (x2+1)) x3) (l73 J m Ll [] M3))) (by simp only[ah,h3];rfl)
theorem aej m M3 rec3 (h3:avD m M3 rec3) x0 x1 x2 x3:e73 jn m aef [M3] (nA x0 x1 x2 x3)=aiv m (zT m) rec3 x0 x1 x2 x3:=
 tq (g:=fun J=>((idx (Dt.L x3 8) x2).bind fun v0=>
  ((zT m v0 (IntKind.wrap .i64 (x0-1)) x1).bind fun r1=>
  (jj J 0 6 0 (nA x0 r1 x2 x3) (e73 J m avA [M3]))))) (by simp only[ah,aei m M3 rec3 h3];rfl)
theorem aek m x0:e73 jn m [1,1,1,1] [] (aeg x0)=aiw m (zT m) x0:=
 tq (g:=fun J=>some x0) (by rfl)
theorem Lm m:∀M3 x0 x1 x2 x3,l73 jn m Ll [] M3 (nA x0 x1 x2 x3)=Gu m (zT m) M3 x0 x1 x2 x3
 |0,_,_,_,_=>rfl
 | M3+1,x0,x1,x2,x3=>
   tl (g:=fun J=>(bif (decide (x2<(List.length (Dt.L x3 8):Int))) then
  (bif (decide (0≤x1)) then
  (jj J 0 7 0 (nA x0 x1 x2 x3) (e73 J m aef [M3]))
  else
  (jj J 0 8 0 (aeg x1) (e73 J m [1,1,1,1] [])))
   else
  (jj J 0 8 0 (aeg x1) (e73 J m [1,1,1,1] [])))) (by simp only[ah,aej m M3 (Gu m (zT m) M3) (Lm m M3),aek m];rfl)
theorem ael m x0 x1 x2 x3:e73 jn m avz [] (nA x0 x1 x2 x3)=awj m (zT m) x0 x1 x2 x3:=
 tq (g:=fun J=>(jj J 1 5 (Nat.succ m) (nA x0 x1 x2 x3) (l73 J m Ll [] (Nat.succ m)))) (by simp only[ah,Lm m];rfl)
theorem aem m x0 x1 x2:e73 jn m [1,1] [] (avB x0 x1 x2)=awk m (zT m) x0 x1 x2:=
 tq (g:=fun J=>(jj J 0 5 0 (nA x0 (IntKind.wrap .i64 (x1-1)) 0 x2) (e73 J m avz []))) (by simp only[ah,ael m];rfl)
theorem aen m x0 x1 x2 x3:e73 jn m [1,0,1] [] (aeh x0 x1 x2 x3)=NJ m (zT m) x0 x1 x2 x3:=
 tq (g:=fun J=>(bif x2 then
  some (-1)
   else
  (jj J 0 3 0 (avB x0 x1 x3) (e73 J m [1,1] [])))) (by simp only[ah,aem m];rfl)
theorem aCx m a0 a1 a2:e73 jn m [] [] ⟨[.dat 39 a0,.dat 3 (.int a1),.dat 3 (.int a2)],[],0⟩=zT (m+1) a0 a1 a2:=
 tq (g:=fun J=>(bif (a1==0) then
  (jj J 0 2 0 (aeh a1 a2 true a0) (e73 J m [1,0,1] []))
   else
  (jj J 0 2 0 (aeh a1 a2 (decide (a2≤0)) a0) (e73 J m [1,0,1] [])))) (by simp only[ah,aen m];rfl)
def avE:List Nat:=[1,1,1,1,1]
def avG:List Nat:=[1,1,1,0,1]
def Lp:List Nat:=[1,1,1,0,1,0]
def aeo:List Nat:=[1,1,1,1,0,1]
def Lr:List Nat:=aeo++[0]
def aep:List Nat:=Lp++[0,1]
def avH:List Nat:=aep++[1]
def aer:List Nat:=Lr++[0,1]
def avI:List Nat:=aer++[1]
noncomputable def e75 (J:Q7) (m:Nat):=evAt Tryz.prog env (ct m) J (m+1) 113 43 Tryz.f113 d34
noncomputable def l75 (J:Q7) (m:Nat):=loopAt Tryz.prog env (ct m) J (m+1) 113 43 Tryz.f113 d34
noncomputable def nC (x0:Int) (x1:Dt) (x2:List Dt):St:=⟨tsOf [(1,.ptr 0 [] 0),(3,.row 1),(4,.dat 3 (.int x0))],[.box 45 (.dat 45 x1),.row 41 x2],0⟩
noncomputable def nD (x0:Int) (x1:Dt) (x2:List Dt):St:=⟨tsOf [(1,.ptr 0 [] 0),(3,.row 1),(5,.dat 3 (.int x0))],[.box 45 (.dat 45 x1),.row 41 x2],0⟩
noncomputable def avJ (x0:List Dt):St:=⟨tsOf [(3,.row 0)],[.row 41 x0],0⟩
noncomputable def avK (x0:Dt) (x1:List Dt):St:=⟨tsOf [(1,.ptr 0 [] 0),(3,.row 1)],[.box 45 (.dat 45 x0),.row 41 x1],0⟩
abbrev avL (m M1:Nat) (rec1:Q16):Prop:=∀x0 x1 x2,l75 jn m Lp [] M1 (nC x0 x1 x2)=rec1 x0 x1 x2
theorem aes m M1 rec1 (h1:avL m M1 rec1) x0 x1 x2:e75 jn m avH [M1] (nC x0 x1 x2)=aix m rec1 x0 x1 x2:=
 tq (g:=fun J=>(jj J 1 4 M1 (nC (IntKind.wrap .i64 (x0+1)) x1 x2) (l75 J m Lp [] M1))) (by simp only[ah,h1];rfl)
theorem aeu m M1 rec1 (h1:avL m M1 rec1) x0 x1 x2:e75 jn m aep [M1] (nC x0 x1 x2)=aiy m rec1 x0 x1 x2:=
 tq (g:=fun J=>((idx (Dt.L x1 3) x0).bind fun v1=>
  ((app x2 [(Dt.lst (Dt.L v1 0))]).bind fun v2=>
  (jj J 0 5 0 (nC x0 x1 v2) (e75 J m avH [M1]))))) (by simp only[ah,aes m M1 rec1 h1];rfl)
abbrev avM (m M6:Nat) (rec6:Q16):Prop:=∀x0 x1 x2,l75 jn m Lr [] M6 (nD x0 x1 x2)=rec6 x0 x1 x2
theorem aev m M6 rec6 (h6:avM m M6 rec6) x0 x1 x2:e75 jn m avI [M6] (nD x0 x1 x2)=aiz m rec6 x0 x1 x2:=
 tq (g:=fun J=>(jj J 1 8 M6 (nD (IntKind.wrap .i64 (x0+1)) x1 x2) (l75 J m Lr [] M6))) (by simp only[ah,h6];rfl)
theorem aew m M6 rec6 (h6:avM m M6 rec6) x0 x1 x2:e75 jn m aer [M6] (nD x0 x1 x2)=aiA m rec6 x0 x1 x2:=
 tq (g:=fun J=>((idx (Dt.L x1 4) x0).bind fun v3=>
  ((app x2 [(Dt.lst (Dt.L v3 0))]).bind fun v4=>
  (jj J 0 9 0 (nD x0 x1 v4) (e75 J m avI [M6]))))) (by simp only[ah,aev m M6 rec6 h6];rfl)
theorem aex m x0:e75 jn m avE [] (avJ x0)=awl m x0:=
 tq (g:=fun J=>some x0) (by rfl)
theorem Ls m:∀M6 x0 x1 x2,l75 jn m Lr [] M6 (nD x0 x1 x2)=Gv m M6 x0 x1 x2
 |0,_,_,_=>rfl
 | M6+1,x0,x1,x2=>
   tl (g:=fun J=>(bif (decide (x0<(List.length (Dt.L x1 4):Int))) then
  (jj J 0 10 0 (nD x0 x1 x2) (e75 J m aer [M6]))
   else
  (jj J 0 11 0 (avJ x2) (e75 J m avE [])))) (by simp only[ah,aew m M6 (Gv m M6) (Ls m M6),aex m];rfl)
theorem aey m x0 x1 x2:e75 jn m aeo [] (nD x0 x1 x2)=awm m x0 x1 x2:=
 tq (g:=fun J=>(jj J 1 8 (Nat.succ m) (nD x0 x1 x2) (l75 J m Lr [] (Nat.succ m)))) (by simp only[ah,Ls m];rfl)
theorem aez m x0 x1:e75 jn m [1,1,1,1] [] (avK x0 x1)=awn m x0 x1:=
 tq (g:=fun J=>(jj J 0 8 0 (nD 0 x0 x1) (e75 J m aeo []))) (by simp only[ah,aey m];rfl)
theorem Lu m:∀M1 x0 x1 x2,l75 jn m Lp [] M1 (nC x0 x1 x2)=Gw m M1 x0 x1 x2
 |0,_,_,_=>rfl
 | M1+1,x0,x1,x2=>
   tl (g:=fun J=>(bif (decide (x0<(List.length (Dt.L x1 3):Int))) then
  (jj J 0 6 0 (nC x0 x1 x2) (e75 J m aep [M1]))
   else
  (jj J 0 7 0 (avK x1 x2) (e75 J m [1,1,1,1] [])))) (by simp only[ah,aeu m M1 (Gw m M1) (Lu m M1),aez m];rfl)
theorem aeA m x0 x1 x2:e75 jn m avG [] (nC x0 x1 x2)=awo m x0 x1 x2:=
 tq (g:=fun J=>(jj J 1 4 (Nat.succ m) (nC x0 x1 x2) (l75 J m Lp [] (Nat.succ m)))) (by simp only[ah,Lu m];rfl)
theorem aCy m a0:e75 jn m [] [] ⟨[.dat 45 a0],[],0⟩=zP (m+1) a0:=
 tq (g:=fun J=>((app [] (Dt.L a0 1)).bind fun v0=>
  (jj J 0 4 0 (nC 0 a0 v0) (e75 J m avG [])))) (by simp only[ah,aeA m];rfl)
noncomputable def e77 (J:Q0) (m:Nat):=evAt Tryz.prog env (ct m) J (m+1) 114 13 Tryz.f114 d9
theorem aCz m a0 a1:e77 jn m [] [] ⟨[.dat 26 (.lst a0),.dat 26 (.lst a1)],[],0⟩=y7 (m+1) a0 a1:=
 tq (g:=fun J=>((zL m a0 a1).bind fun r0=>
  (bif r0 then
  some true
  else
  ((zL m a1 a0).bind fun r1=>
  some r1)))) (by rfl)
def UK:List Nat:=[1,1,0,1,0]
def UL:List Nat:=[1,1,0,1,0,0,1]
def avN:List Nat:=UL++[1]
def UM:List Nat:=UL++[0,0,1]
noncomputable def e83 (J:Q0) (m:Nat):=evAt Tryz.prog env (ct m) J (m+1) 119 39 Tryz.f119 d9
noncomputable def l83 (J:Q0) (m:Nat):=loopAt Tryz.prog env (ct m) J (m+1) 119 39 Tryz.f119 d9
noncomputable def nE (x0:ByteArray) (x1:Int):St:=⟨tsOf [(0,.dat 9 (.str x0)),(3,.dat 3 (.int x1))],[],0⟩
noncomputable def UN (x0:ByteArray) (x1:Int) (x2:Bool):St:=⟨tsOf [(0,.dat 9 (.str x0)),(3,.dat 3 (.int x1)),(38,.dat 4 (.bool x2))],[],0⟩
noncomputable def avO:St:=⟨tsOf [],[],0⟩
noncomputable def avP (x0:ByteArray):St:=⟨tsOf [(0,.dat 9 (.str x0))],[],0⟩
noncomputable def UO (x0:ByteArray) (x1:Bool):St:=⟨tsOf [(0,.dat 9 (.str x0)),(16,.dat 4 (.bool x1))],[],0⟩
abbrev aeB (m M3:Nat) (rec3:Q15):Prop:=∀x0 x1,l83 jn m UK [] M3 (nE x0 x1)=rec3 x0 x1
theorem aeC m M3 rec3 (h3:aeB m M3 rec3) x0 x1:e83 jn m avN [M3] (nE x0 x1)=BH m rec3 x0 x1:=
 tq (g:=fun J=>(jj J 1 4 M3 (nE x0 (IntKind.wrap .i64 (x1+1))) (l83 J m UK [] M3))) (by simp only[ah,h3];rfl)
theorem aeD m M3 rec3 (h3:aeB m M3 rec3) x0 x1 x2:e83 jn m UM [M3] (UN x0 x1 x2)=rz m rec3 x0 x1 x2:=
 tq (g:=fun J=>(bif x2 then
  some false
   else
  (jj J 0 5 0 (nE x0 x1) (e83 J m avN [M3])))) (by simp only[ah,aeC m M3 rec3 h3];rfl)
theorem aeE m M3 rec3 (h3:aeB m M3 rec3) x0 x1:e83 jn m UL [M3] (nE x0 x1)=BI m rec3 x0 x1:=
 tq (g:=fun J=>((idxS x0 x1).bind fun v0=>
  (bif (decide (v0<33)) then
  (jj J 0 7 0 (UN x0 x1 true) (e83 J m UM [M3]))
  else
  ((idxS x0 x1).bind fun v1=>
  (bif (decide (126<v1)) then
  (jj J 0 7 0 (UN x0 x1 true) (e83 J m UM [M3]))
  else
  ((idxS x0 x1).bind fun v2=>
  (jj J 0 7 0 (UN x0 x1 (v2==46)) (e83 J m UM [M3])))))))) (by simp only[ah,aeD m M3 rec3 h3];rfl)
theorem aeF m:e83 jn m [1,1,1] [] avO=BJ m:=
 tq (g:=fun J=>some true) (by rfl)
theorem Lv m:∀M3 x0 x1,l83 jn m UK [] M3 (nE x0 x1)=BK m M3 x0 x1
 |0,_,_=>rfl
 | M3+1,x0,x1=>
   tl (g:=fun J=>(bif (decide (x1<(ByteArray.size x0:Int))) then
  (jj J 0 6 0 (nE x0 x1) (e83 J m UL [M3]))
   else
  (jj J 0 8 0 avO (e83 J m [1,1,1] [])))) (by simp only[ah,aeE m M3 (BK m M3) (Lv m M3),aeF m];rfl)
theorem aeG m x0 x1:e83 jn m [1,1,0,1] [] (nE x0 x1)=BL m x0 x1:=
 tq (g:=fun J=>(jj J 1 4 (Nat.succ m) (nE x0 x1) (l83 J m UK [] (Nat.succ m)))) (by simp only[ah,Lv m];rfl)
theorem aeH m x0:e83 jn m [1,1] [] (avP x0)=BM m x0:=
 tq (g:=fun J=>(jj J 0 4 0 (nE x0 0) (e83 J m [1,1,0,1] []))) (by simp only[ah,aeG m];rfl)
theorem aeI m x0 x1:e83 jn m [1,0,1] [] (UO x0 x1)=rA m x0 x1:=
 tq (g:=fun J=>(bif x1 then
  some false
   else
  (jj J 0 3 0 (avP x0) (e83 J m [1,1] [])))) (by simp only[ah,aeH m];rfl)
theorem aCA m a0:e83 jn m [] [] ⟨[.dat 9 (.str a0)],[],0⟩=zE (m+1) a0:=
 tq (g:=fun J=>(bif (decide ((ByteArray.size a0:Int)<1)) then
  (jj J 0 2 0 (UO a0 true) (e83 J m [1,0,1] []))
   else
  (bif (decide (32<(ByteArray.size a0:Int))) then
  (jj J 0 2 0 (UO a0 true) (e83 J m [1,0,1] []))
  else
  ((idxS a0 0).bind fun v3=>
  (jj J 0 2 0 (UO a0 (v3==36)) (e83 J m [1,0,1] [])))))) (by simp only[ah,aeI m];rfl)
def UQ:List Nat:=[1,1,0,1,0]
def aeJ:List Nat:=[1,1,0,1,0,0,1]
def avQ:List Nat:=aeJ++[1]
noncomputable def e76 (J:Q0) (m:Nat):=evAt Tryz.prog env (ct m) J (m+1) 105 24 Tryz.f105 d9
noncomputable def l76 (J:Q0) (m:Nat):=loopAt Tryz.prog env (ct m) J (m+1) 105 24 Tryz.f105 d9
noncomputable def nG (x0:List Dt) (x1:Int):St:=⟨tsOf [(0,.dat 26 (.lst x0)),(3,.dat 3 (.int x1))],[],0⟩
noncomputable def avR:St:=⟨tsOf [],[],0⟩
noncomputable def avS (x0:List Dt):St:=⟨tsOf [(0,.dat 26 (.lst x0))],[],0⟩
noncomputable def aeK (x0:List Dt) (x1:Bool):St:=⟨tsOf [(0,.dat 26 (.lst x0)),(11,.dat 4 (.bool x1))],[],0⟩
abbrev avT (m M3:Nat) (rec3:Q21):Prop:=∀x0 x1,l76 jn m UQ [] M3 (nG x0 x1)=rec3 x0 x1
theorem aeL m M3 rec3 (h3:avT m M3 rec3) x0 x1:e76 jn m avQ [M3] (nG x0 x1)=NK m rec3 x0 x1:=
 tq (g:=fun J=>(jj J 1 4 M3 (nG x0 (IntKind.wrap .i64 (x1+1))) (l76 J m UQ [] M3))) (by simp only[ah,h3];rfl)
theorem aeM m M3 rec3 (h3:avT m M3 rec3) x0 x1:e76 jn m aeJ [M3] (nG x0 x1)=NM m rec3 x0 x1:=
 tq (g:=fun J=>((idx x0 x1).bind fun v0=>
  ((zE m (Dt.toStr v0)).bind fun r1=>
  (bif (Bool.not r1) then
  some false
  else
  (jj J 0 5 0 (nG x0 x1) (e76 J m avQ [M3])))))) (by simp only[ah,aeL m M3 rec3 h3];rfl)
theorem aeN m:e76 jn m [1,1,1] [] avR=NN m:=
 tq (g:=fun J=>some true) (by rfl)
theorem Lx m:∀M3 x0 x1,l76 jn m UQ [] M3 (nG x0 x1)=BN m M3 x0 x1
 |0,_,_=>rfl
 | M3+1,x0,x1=>
   tl (g:=fun J=>(bif (decide (x1<(List.length x0:Int))) then
  (jj J 0 6 0 (nG x0 x1) (e76 J m aeJ [M3]))
   else
  (jj J 0 8 0 avR (e76 J m [1,1,1] [])))) (by simp only[ah,aeM m M3 (BN m M3) (Lx m M3),aeN m];rfl)
theorem aeO m x0 x1:e76 jn m [1,1,0,1] [] (nG x0 x1)=NP m x0 x1:=
 tq (g:=fun J=>(jj J 1 4 (Nat.succ m) (nG x0 x1) (l76 J m UQ [] (Nat.succ m)))) (by simp only[ah,Lx m];rfl)
theorem aeP m x0:e76 jn m [1,1] [] (avS x0)=NQ m x0:=
 tq (g:=fun J=>(jj J 0 4 0 (nG x0 0) (e76 J m [1,1,0,1] []))) (by simp only[ah,aeO m];rfl)
theorem aeQ m x0 x1:e76 jn m [1,0,1] [] (aeK x0 x1)=Gx m x0 x1:=
 tq (g:=fun J=>(bif x1 then
  some false
   else
  (jj J 0 3 0 (avS x0) (e76 J m [1,1] [])))) (by simp only[ah,aeP m];rfl)
theorem aCB m a0:e76 jn m [] [] ⟨[.dat 26 (.lst a0)],[],0⟩=zC (m+1) a0:=
 tq (g:=fun J=>(bif (decide ((List.length a0:Int)<1)) then
  (jj J 0 2 0 (aeK a0 true) (e76 J m [1,0,1] []))
   else
  (jj J 0 2 0 (aeK a0 (decide (16<(List.length a0:Int)))) (e76 J m [1,0,1] [])))) (by simp only[ah,aeQ m];rfl)
def avU:List Nat:=[1,1,1,1,1]
def aeR:List Nat:=[1,1,1,0,1]
def LA:List Nat:=[1,1,1,0,1,0]
def LB:List Nat:=[1,1,1,1,0,1]
def UR:List Nat:=LA++[0,1]
def avV:List Nat:=UR++[1]
def aeS:List Nat:=UR++[0,0,1]
def aeT:List Nat:=aeS++[1]
def LC:List Nat:=aeT++[0]
def aeU:List Nat:=LC++[0,1]
def avW:List Nat:=aeU++[1]
noncomputable def e57 (J:Q1) (m:Nat):=evAt Tryz.prog env (ct m) J (m+1) 88 67 Tryz.f88 d57
noncomputable def l57 (J:Q1) (m:Nat):=loopAt Tryz.prog env (ct m) J (m+1) 88 67 Tryz.f88 d57
noncomputable def iA (x0 x1:Int) (x2:Dt):St:=⟨tsOf [(1,.ptr 0 [] 0),(3,.dat 3 (.int x0)),(4,.dat 3 (.int x1))],[.box 69 (.dat 69 x2)],0⟩
noncomputable def fD (x0:Int) (x1:Dt):St:=⟨tsOf [(1,.ptr 0 [] 0),(3,.dat 3 (.int x0))],[.box 69 (.dat 69 x1)],0⟩
noncomputable def aeV:St:=⟨tsOf [],[],0⟩
noncomputable def wU (x0:Bool):St:=⟨tsOf [(66,.dat 4 (.bool x0))],[],0⟩
noncomputable def sK (x0:Dt):St:=⟨tsOf [(1,.ptr 0 [] 0)],[.box 69 (.dat 69 x0)],0⟩
noncomputable def aeW (x0:Bool) (x1:Dt):St:=⟨tsOf [(1,.ptr 0 [] 0),(18,.dat 4 (.bool x0))],[.box 69 (.dat 69 x1)],0⟩
abbrev wV (m M4:Nat) (rec4:Q8):Prop:=∀x0 x1,l57 jn m LA [] M4 (fD x0 x1)=rec4 x0 x1
abbrev avX (m M4 M8:Nat) (rec8:Q28):Prop:=∀x0 x1 x2,l57 jn m LC [M4] M8 (iA x0 x1 x2)=rec8 x0 x1 x2
theorem YN m M4 rec4 (h4:wV m M4 rec4) M8 rec8 (h8:avX m M4 M8 rec8) x0 x1 x2:e57 jn m avW [M4,M8] (iA x0 x1 x2)=I6 m rec4 rec8 x0 x1 x2:=
 tq (g:=fun J=>(jj J 1 11 M8 (iA x0 (IntKind.wrap .i64 (x1+1)) x2) (l57 J m LC [M4] M8))) (by simp only[ah,h8];rfl)
theorem aeX m M4 rec4 (h4:wV m M4 rec4) M8 rec8 (h8:avX m M4 M8 rec8) x0 x1 x2:e57 jn m aeU [M4,M8] (iA x0 x1 x2)=VA m rec4 rec8 x0 x1 x2:=
 tq (g:=fun J=>((idx (Dt.L x2 1) x0).bind fun v3=>
  ((idx (Dt.L x2 1) x1).bind fun v4=>
  ((y7 m (Dt.toLst v3) (Dt.toLst v4)).bind fun r5=>
  (bif r5 then
  some 12
  else
  (jj J 0 12 0 (iA x0 x1 x2) (e57 J m avW [M4,M8]))))))) (by simp only[ah,YN m M4 rec4 h4 M8 rec8 h8];rfl)
theorem YO m M4 rec4 (h4:wV m M4 rec4) x0 x1:e57 jn m avV [M4] (fD x0 x1)=I7 m rec4 x0 x1:=
 tq (g:=fun J=>(jj J 1 6 M4 (fD (IntKind.wrap .i64 (x0+1)) x1) (l57 J m LA [] M4))) (by simp only[ah,h4];rfl)
theorem LD m M4 rec4 (h4:wV m M4 rec4):∀M8 x0 x1 x2,l57 jn m LC [M4] M8 (iA x0 x1 x2)=Gy m rec4 M8 x0 x1 x2
 |0,_,_,_=>rfl
 | M8+1,x0,x1,x2=>
   tl (g:=fun J=>(bif (decide (x1<x0)) then
  (jj J 0 13 0 (iA x0 x1 x2) (e57 J m aeU [M4,M8]))
   else
  (jj J 0 7 0 (fD x0 x2) (e57 J m avV [M4])))) (by simp only[ah,aeX m M4 rec4 h4 M8 (Gy m rec4 M8) (LD m M4 rec4 h4 M8),YO m M4 rec4 h4];rfl)
theorem aeY m M4 rec4 (h4:wV m M4 rec4) x0 x1 x2:e57 jn m aeT [M4] (iA x0 x1 x2)=aiB m rec4 x0 x1 x2:=
 tq (g:=fun J=>(jj J 1 11 (Nat.succ m) (iA x0 x1 x2) (l57 J m LC [M4] (Nat.succ m)))) (by simp only[ah,LD m M4 rec4 h4];rfl)
theorem aeZ m M4 rec4 (h4:wV m M4 rec4) x0 x1:e57 jn m aeS [M4] (fD x0 x1)=aiC m rec4 x0 x1:=
 tq (g:=fun J=>(jj J 0 11 0 (iA x0 0 x1) (e57 J m aeT [M4]))) (by simp only[ah,aeY m M4 rec4 h4];rfl)
theorem ae0 m M4 rec4 (h4:wV m M4 rec4) x0 x1:e57 jn m UR [M4] (fD x0 x1)=VB m rec4 x0 x1:=
 tq (g:=fun J=>((idx (Dt.L x1 1) x0).bind fun v1=>
  ((zC m (Dt.toLst v1)).bind fun r2=>
  (bif (Bool.not r2) then
  some 10
  else
  (jj J 0 10 0 (fD x0 x1) (e57 J m aeS [M4])))))) (by simp only[ah,aeZ m M4 rec4 h4];rfl)
theorem YP m:e57 jn m avU [] aeV=Rk m:=
 tq (g:=fun J=>some 0) (by rfl)
theorem YQ m x0:e57 jn m LB [] (wU x0)=tN m x0:=
 tq (g:=fun J=>(bif x0 then
  some 1
   else
  (jj J 0 17 0 aeV (e57 J m avU [])))) (by simp only[ah,YP m];rfl)
theorem YR m x0:e57 jn m [1,1,1,1] [] (sK x0)=Rl m x0:=
 tq (g:=fun J=>(bif (decide ((Dt.I x0 2)<1)) then
  (jj J 0 16 0 (wU true) (e57 J m LB []))
   else
  (bif (decide (4<(Dt.I x0 2))) then
  (jj J 0 16 0 (wU true) (e57 J m LB []))
  else
  (bif (decide ((Dt.I x0 3)<4)) then
  (jj J 0 16 0 (wU true) (e57 J m LB []))
  else
  (jj J 0 16 0 (wU (decide (6<(Dt.I x0 3)))) (e57 J m LB [])))))) (by simp only[ah,YQ m];rfl)
theorem LG m:∀M4 x0 x1,l57 jn m LA [] M4 (fD x0 x1)=Gz m M4 x0 x1
 |0,_,_=>rfl
 | M4+1,x0,x1=>
   tl (g:=fun J=>(bif (decide (x0<(List.length (Dt.L x1 1):Int))) then
  (jj J 0 8 0 (fD x0 x1) (e57 J m UR [M4]))
   else
  (jj J 0 15 0 (sK x1) (e57 J m [1,1,1,1] [])))) (by simp only[ah,ae0 m M4 (Gz m M4) (LG m M4),YR m];rfl)
theorem ae1 m x0 x1:e57 jn m aeR [] (fD x0 x1)=aiD m x0 x1:=
 tq (g:=fun J=>(jj J 1 6 (Nat.succ m) (fD x0 x1) (l57 J m LA [] (Nat.succ m)))) (by simp only[ah,LG m];rfl)
theorem ae2 m x0:e57 jn m [1,1,1] [] (sK x0)=aiE m x0:=
 tq (g:=fun J=>(jj J 0 6 0 (fD 0 x0) (e57 J m aeR []))) (by simp only[ah,ae1 m];rfl)
theorem ae3 m x0 x1:e57 jn m [1,1,0,1] [] (aeW x0 x1)=GA m x0 x1:=
 tq (g:=fun J=>(bif x0 then
  some 21
   else
  (jj J 0 5 0 (sK x1) (e57 J m [1,1,1] [])))) (by simp only[ah,ae2 m];rfl)
theorem ae4 m x0:e57 jn m [1,1] [] (sK x0)=VD m x0:=
 tq (g:=fun J=>(bif (decide ((List.length (Dt.L x0 1):Int)<1)) then
  (jj J 0 4 0 (aeW true x0) (e57 J m [1,1,0,1] []))
   else
  (jj J 0 4 0 (aeW (decide (8<(List.length (Dt.L x0 1):Int))) x0) (e57 J m [1,1,0,1] [])))) (by simp only[ah,ae3 m];rfl)
theorem aCC m a0:e57 jn m [] [] ⟨[.dat 69 a0],[],0⟩=qQ (m+1) a0:=
 tq (g:=fun J=>((zE m (Dt.S a0 0)).bind fun r0=>
  (bif (Bool.not r0) then
  some 9
  else
  (jj J 0 3 0 (sK a0) (e57 J m [1,1] []))))) (by simp only[ah,ae4 m];rfl)
noncomputable def e79 (J:Q0) (m:Nat):=evAt Tryz.prog env (ct m) J (m+1) 115 9 Tryz.f115 d9
theorem aCD m a0:e79 jn m [] [] ⟨[.dat 9 (.str a0)],[],0⟩=yV (m+1) a0:=
 tq (g:=fun J=>((zE m a0).bind fun r0=>
  (bif r0 then
  some (Bool.not ((ByteArray.toList a0)==[95,105,100]))
  else
  some false))) (by rfl)
noncomputable def e87 (J:Q0) (m:Nat):=evAt Tryz.prog env (ct m) J (m+1) 104 9 Tryz.f104 d9
theorem aCE m a0:e87 jn m [] [] ⟨[.dat 3 (.int a0)],[],0⟩=vB (m+1) a0:=
 tq (g:=fun J=>(bif (decide (2≤a0)) then
  some (decide (a0≤19))
   else
  some false)) (by rfl)
noncomputable def e89 (J:Q0) (m:Nat):=evAt Tryz.prog env (ct m) J (m+1) 102 13 Tryz.f102 d9
theorem aCF m a0:e89 jn m [] [] ⟨[.dat 3 (.int a0)],[],0⟩=yP (m+1) a0:=
 tq (g:=fun J=>(bif (a0==8) then
  some true
   else
  (bif (a0==9) then
  some true
  else
  some (a0==14)))) (by rfl)
noncomputable def e91 (J:Q0) (m:Nat):=evAt Tryz.prog env (ct m) J (m+1) 108 13 Tryz.f108 d9
theorem aCG m a0:e91 jn m [] [] ⟨[.dat 3 (.int a0)],[],0⟩=y1 (m+1) a0:=
 tq (g:=fun J=>(bif (a0==16) then
  some true
   else
  (bif (a0==17) then
  some true
  else
  some (a0==19)))) (by rfl)
noncomputable def e88 (J:Q0) (m:Nat):=evAt Tryz.prog env (ct m) J (m+1) 106 13 Tryz.f106 d9
theorem aCH m a0:e88 jn m [] [] ⟨[.dat 3 (.int a0)],[],0⟩=y6 (m+1) a0:=
 tq (g:=fun J=>(bif (decide (2≤a0)) then
  (bif (decide (a0≤7)) then
  some true
  else
  ((y1 m a0).bind fun r0=>
  some r0))
   else
  ((y1 m a0).bind fun r1=>
  some r1))) (by rfl)
def ae5:List Nat:=[1,0,1,0,1]
def UU:List Nat:=[1,0,1,0,1,1,1]
noncomputable def e92 (J:Q0) (m:Nat):=evAt Tryz.prog env (ct m) J (m+1) 101 24 Tryz.f101 d9
noncomputable def avY (x0:Dt):St:=⟨tsOf [(1,.ptr 0 [] 0)],[.box 39 (.dat 39 x0)],0⟩
noncomputable def UW (x0:Bool) (x1:Dt):St:=⟨tsOf [(1,.ptr 0 [] 0),(12,.dat 4 (.bool x0))],[.box 39 (.dat 39 x1)],0⟩
noncomputable def ae6 (x0:Int) (x1:Bool) (x2:Dt):St:=⟨tsOf [(1,.ptr 0 [] 0),(4,.dat 3 (.int x0)),(5,.dat 4 (.bool x1))],[.box 39 (.dat 39 x2)],0⟩
theorem ae7 m x0:e92 jn m [1,1] [] (avY x0)=aiF m x0:=
 tq (g:=fun J=>some ((List.length (Dt.L x0 8):Int)==0)) (by rfl)
theorem ae8 m x0 x1:e92 jn m UU [] (UW x0 x1)=NR m x0 x1:=
 tq (g:=fun J=>(bif x0 then
  some (decide (0<(List.length (Dt.L x1 8):Int)))
   else
  (jj J 0 9 0 (avY x1) (e92 J m [1,1] [])))) (by simp only[ah,ae7 m];rfl)
theorem ae9 m x0 x1 x2:e92 jn m ae5 [] (ae6 x0 x1 x2)=VE m x0 x1 x2:=
 tq (g:=fun J=>(bif x1 then
  some ((List.length (Dt.L x2 8):Int)==1)
   else
  (bif (x0==20) then
  (jj J 0 8 0 (UW (x0==20) x2) (e92 J m UU []))
  else
  (bif (x0==21) then
  (jj J 0 8 0 (UW (x0==21) x2) (e92 J m UU []))
  else
  (jj J 0 8 0 (UW (x0==22) x2) (e92 J m UU [])))))) (by simp only[ah,ae8 m];rfl)
theorem aCI m a0:e92 jn m [] [] ⟨[.dat 39 a0],[],0⟩=yR (m+1) a0:=
 tq (g:=fun J=>(bif ((Dt.I a0 0)==15) then
  (jj J 0 4 0 (ae6 (Dt.I a0 0) ((Dt.I a0 0)==15) a0) (e92 J m ae5 []))
   else
  (jj J 0 4 0 (ae6 (Dt.I a0 0) ((Dt.I a0 0)==23) a0) (e92 J m ae5 [])))) (by simp only[ah,ae9 m];rfl)
end Go.Proofs.YtjnkagkoolbodaaGreatDoor
