/- Generated: each function's run in the abstract machine is its shallow function. -/
import Derived.Test.YtjnkagkoolbodaaGreatDoorCt
import Derived.Test.YtjnkagkoolbodaaGreatDoorAmEnv
import Derived.KernelRfl
set_option linter.unusedVariables false
set_option linter.unusedSimpArgs false
namespace Go.Proofs.YtjnkagkoolbodaaGreatDoor
open Go.Am
set_option maxRecDepth 100000
noncomputable def e93 (J:Q0) (m:Nat):=evAt Tryz.prog env (ct m) J (m+1) 103 47 Tryz.f103 d9
noncomputable def awW:St:=⟨tsOf [],[],0⟩
theorem ak7 m:e93 jn m [1,1] [] awW=aiG m:=
 tq (g:=fun J=>some true) (by rfl)
theorem aEM m a0:e93 jn m [] [] ⟨[.dat 39 a0],[],0⟩=yW (m+1) a0:=
 tq (g:=fun J=>(bif ((Dt.I a0 0)==10) then
  (bif ((Dt.I a0 4)==0) then
  some true
  else
  some ((Dt.I a0 4)==1))
   else
  (bif ((Dt.I a0 0)==11) then
  (bif (decide (1≤(Dt.I a0 4))) then
  some (decide ((Dt.I a0 4)≤11))
  else
  some false)
  else
  (bif ((Dt.I a0 0)==12) then
  (bif (decide (1≤(Dt.I a0 4))) then
  (bif (decide (0≤(Dt.I a0 5))) then
  some (decide ((Dt.I a0 5)<(Dt.I a0 4)))
  else
  some false)
  else
  some false)
  else
  (bif ((Dt.I a0 0)==13) then
  some (decide (0≤(Dt.I a0 4)))
  else
  (jj J 0 10 0 awW (e93 J m [1,1] []))))))) (by simp only[ah,ak7 m];rfl)
def Wd:List Nat:=[1,1,0,1,0]
def ak8:List Nat:=[1,1,0,1,0,0,1]
def awX:List Nat:=ak8++[1]
noncomputable def e95 (J:Q0) (m:Nat):=evAt Tryz.prog env (ct m) J (m+1) 148 26 Tryz.f148 d9
noncomputable def l95 (J:Q0) (m:Nat):=loopAt Tryz.prog env (ct m) J (m+1) 148 26 Tryz.f148 d9
noncomputable def nS (x0 x1:List Dt) (x2:Int):St:=⟨tsOf [(0,.dat 26 (.lst x0)),(1,.dat 26 (.lst x1)),(5,.dat 3 (.int x2))],[],0⟩
noncomputable def awY:St:=⟨tsOf [],[],0⟩
noncomputable def awZ (x0 x1:List Dt):St:=⟨tsOf [(0,.dat 26 (.lst x0)),(1,.dat 26 (.lst x1))],[],0⟩
abbrev aw0 (m M2:Nat) (rec2:Q10):Prop:=∀x0 x1 x2,l95 jn m Wd [] M2 (nS x0 x1 x2)=rec2 x0 x1 x2
theorem ak9 m M2 rec2 (h2:aw0 m M2 rec2) x0 x1 x2:e95 jn m awX [M2] (nS x0 x1 x2)=aiH m rec2 x0 x1 x2:=
 tq (g:=fun J=>(jj J 1 4 M2 (nS x0 x1 (IntKind.wrap .i64 (x2+1))) (l95 J m Wd [] M2))) (by simp only[ah,h2];rfl)
theorem ala m M2 rec2 (h2:aw0 m M2 rec2) x0 x1 x2:e95 jn m ak8 [M2] (nS x0 x1 x2)=aiI m rec2 x0 x1 x2:=
 tq (g:=fun J=>((idx x0 x2).bind fun v0=>
  ((idx x1 x2).bind fun v1=>
  (bif (Bool.not ((ByteArray.toList (Dt.toStr v0))==(ByteArray.toList (Dt.toStr v1)))) then
  some false
  else
  (jj J 0 5 0 (nS x0 x1 x2) (e95 J m awX [M2])))))) (by simp only[ah,ak9 m M2 rec2 h2];rfl)
theorem alb m:e95 jn m [1,1,1] [] awY=aiJ m:=
 tq (g:=fun J=>some true) (by rfl)
theorem OJ m:∀M2 x0 x1 x2,l95 jn m Wd [] M2 (nS x0 x1 x2)=GD m M2 x0 x1 x2
 |0,_,_,_=>rfl
 | M2+1,x0,x1,x2=>
   tl (g:=fun J=>(bif (decide (x2<(List.length x0:Int))) then
  (jj J 0 6 0 (nS x0 x1 x2) (e95 J m ak8 [M2]))
   else
  (jj J 0 8 0 awY (e95 J m [1,1,1] [])))) (by simp only[ah,ala m M2 (GD m M2) (OJ m M2),alb m];rfl)
theorem alc m x0 x1 x2:e95 jn m [1,1,0,1] [] (nS x0 x1 x2)=aiK m x0 x1 x2:=
 tq (g:=fun J=>(jj J 1 4 (Nat.succ m) (nS x0 x1 x2) (l95 J m Wd [] (Nat.succ m)))) (by simp only[ah,OJ m];rfl)
theorem ald m x0 x1:e95 jn m [1,1] [] (awZ x0 x1)=aiL m x0 x1:=
 tq (g:=fun J=>(jj J 0 4 0 (nS x0 x1 0) (e95 J m [1,1,0,1] []))) (by simp only[ah,alc m];rfl)
theorem aEN m a0 a1:e95 jn m [] [] ⟨[.dat 26 (.lst a0),.dat 26 (.lst a1)],[],0⟩=yC (m+1) a0 a1:=
 tq (g:=fun J=>(bif ((List.length a0:Int) !=(List.length a1:Int)) then
  some false
   else
  (jj J 0 3 0 (awZ a0 a1) (e95 J m [1,1] [])))) (by simp only[ah,ald m];rfl)
def Wh:List Nat:=[1,1,0,1,0]
def Wi:List Nat:=[1,1,0,1,0,0,1]
def aw1:List Nat:=Wi++[1]
def ale:List Nat:=Wi++[0,0,1]
def alf:List Nat:=ale++[1]
def OL:List Nat:=alf++[0]
def alg:List Nat:=OL++[0,1]
def aw2:List Nat:=alg++[1]
noncomputable def e81 (J:Q1) (m:Nat):=evAt Tryz.prog env (ct m) J (m+1) 117 37 Tryz.f117 d57
noncomputable def l81 (J:Q1) (m:Nat):=loopAt Tryz.prog env (ct m) J (m+1) 117 37 Tryz.f117 d57
noncomputable def nT (x0:List Dt) (x1 x2:Int):St:=⟨tsOf [(0,.dat 40 (.lst x0)),(3,.dat 3 (.int x1)),(4,.dat 3 (.int x2))],[],0⟩
noncomputable def jQ (x0:List Dt) (x1:Int):St:=⟨tsOf [(0,.dat 40 (.lst x0)),(3,.dat 3 (.int x1))],[],0⟩
noncomputable def alh:St:=⟨tsOf [],[],0⟩
noncomputable def aw3 (x0:List Dt):St:=⟨tsOf [(0,.dat 40 (.lst x0))],[],0⟩
abbrev Dc (m M2:Nat) (rec2:Q2):Prop:=∀x0 x1,l81 jn m Wh [] M2 (jQ x0 x1)=rec2 x0 x1
abbrev aw4 (m M2 M6:Nat) (rec6:Q29):Prop:=∀x0 x1 x2,l81 jn m OL [M2] M6 (nT x0 x1 x2)=rec6 x0 x1 x2
theorem ali m M2 rec2 (h2:Dc m M2 rec2) M6 rec6 (h6:aw4 m M2 M6 rec6) x0 x1 x2:e81 jn m aw2 [M2,M6] (nT x0 x1 x2)=aiM m rec2 rec6 x0 x1 x2:=
 tq (g:=fun J=>(jj J 1 9 M6 (nT x0 x1 (IntKind.wrap .i64 (x2+1))) (l81 J m OL [M2] M6))) (by simp only[ah,h6];rfl)
theorem alj m M2 rec2 (h2:Dc m M2 rec2) M6 rec6 (h6:aw4 m M2 M6 rec6) x0 x1 x2:e81 jn m alg [M2,M6] (nT x0 x1 x2)=aiN m rec2 rec6 x0 x1 x2:=
 tq (g:=fun J=>((idx x0 x1).bind fun v2=>
  ((idx x0 x2).bind fun v3=>
  ((yC m (Dt.L v2 0) (Dt.L v3 0)).bind fun r4=>
  (bif r4 then
  some 12
  else
  (jj J 0 10 0 (nT x0 x1 x2) (e81 J m aw2 [M2,M6]))))))) (by simp only[ah,ali m M2 rec2 h2 M6 rec6 h6];rfl)
theorem alk m M2 rec2 (h2:Dc m M2 rec2) x0 x1:e81 jn m aw1 [M2] (jQ x0 x1)=aiO m rec2 x0 x1:=
 tq (g:=fun J=>(jj J 1 4 M2 (jQ x0 (IntKind.wrap .i64 (x1+1))) (l81 J m Wh [] M2))) (by simp only[ah,h2];rfl)
theorem OM m M2 rec2 (h2:Dc m M2 rec2):∀M6 x0 x1 x2,l81 jn m OL [M2] M6 (nT x0 x1 x2)=GH m rec2 M6 x0 x1 x2
 |0,_,_,_=>rfl
 | M6+1,x0,x1,x2=>
   tl (g:=fun J=>(bif (decide (x2<x1)) then
  (jj J 0 11 0 (nT x0 x1 x2) (e81 J m alg [M2,M6]))
   else
  (jj J 0 5 0 (jQ x0 x1) (e81 J m aw1 [M2])))) (by simp only[ah,alj m M2 rec2 h2 M6 (GH m rec2 M6) (OM m M2 rec2 h2 M6),alk m M2 rec2 h2];rfl)
theorem alm m M2 rec2 (h2:Dc m M2 rec2) x0 x1 x2:e81 jn m alf [M2] (nT x0 x1 x2)=aiP m rec2 x0 x1 x2:=
 tq (g:=fun J=>(jj J 1 9 (Nat.succ m) (nT x0 x1 x2) (l81 J m OL [M2] (Nat.succ m)))) (by simp only[ah,OM m M2 rec2 h2];rfl)
theorem aln m M2 rec2 (h2:Dc m M2 rec2) x0 x1:e81 jn m ale [M2] (jQ x0 x1)=aiQ m rec2 x0 x1:=
 tq (g:=fun J=>(jj J 0 9 0 (nT x0 x1 0) (e81 J m alf [M2]))) (by simp only[ah,alm m M2 rec2 h2];rfl)
theorem alo m M2 rec2 (h2:Dc m M2 rec2) x0 x1:e81 jn m Wi [M2] (jQ x0 x1)=aiR m rec2 x0 x1:=
 tq (g:=fun J=>((idx x0 x1).bind fun v0=>
  ((zC m (Dt.L v0 0)).bind fun r1=>
  (bif (Bool.not r1) then
  some 10
  else
  (jj J 0 8 0 (jQ x0 x1) (e81 J m ale [M2])))))) (by simp only[ah,aln m M2 rec2 h2];rfl)
theorem Zr m:e81 jn m [1,1,1] [] alh=Rm m:=
 tq (g:=fun J=>some 0) (by rfl)
theorem OO m:∀M2 x0 x1,l81 jn m Wh [] M2 (jQ x0 x1)=BO m M2 x0 x1
 |0,_,_=>rfl
 | M2+1,x0,x1=>
   tl (g:=fun J=>(bif (decide (x1<(List.length x0:Int))) then
  (jj J 0 6 0 (jQ x0 x1) (e81 J m Wi [M2]))
   else
  (jj J 0 13 0 alh (e81 J m [1,1,1] [])))) (by simp only[ah,alo m M2 (BO m M2) (OO m M2),Zr m];rfl)
theorem alp m x0 x1:e81 jn m [1,1,0,1] [] (jQ x0 x1)=aiS m x0 x1:=
 tq (g:=fun J=>(jj J 1 4 (Nat.succ m) (jQ x0 x1) (l81 J m Wh [] (Nat.succ m)))) (by simp only[ah,OO m];rfl)
theorem alq m x0:e81 jn m [1,1] [] (aw3 x0)=aiT m x0:=
 tq (g:=fun J=>(jj J 0 4 0 (jQ x0 0) (e81 J m [1,1,0,1] []))) (by simp only[ah,alp m];rfl)
theorem aEO m a0:e81 jn m [] [] ⟨[.dat 40 (.lst a0)],[],0⟩=zG (m+1) a0:=
 tq (g:=fun J=>(bif (decide (8<(List.length a0:Int))) then
  some 2
   else
  (jj J 0 3 0 (aw3 a0) (e81 J m [1,1] [])))) (by simp only[ah,alq m];rfl)
noncomputable def e99 (J:Q1) (m:Nat):=evAt Tryz.prog env (ct m) J (m+1) 149 11 Tryz.f149 d7
noncomputable def aw5:St:=⟨tsOf [],[],0⟩
noncomputable def aw6 (x0 x1:Int):St:=⟨tsOf [(0,.dat 3 (.int x0)),(1,.dat 3 (.int x1))],[],0⟩
theorem alr m:e99 jn m [1,1,1] [] aw5=aiU m:=
 tq (g:=fun J=>some 0) (by rfl)
theorem als m x0 x1:e99 jn m [1,1] [] (aw6 x0 x1)=aiV m x0 x1:=
 tq (g:=fun J=>(bif (decide (x1<x0)) then
  some 1
   else
  (jj J 0 5 0 aw5 (e99 J m [1,1,1] [])))) (by simp only[ah,alr m];rfl)
theorem aEP m a0 a1:e99 jn m [] [] ⟨[.dat 3 (.int a0),.dat 3 (.int a1)],[],0⟩=yO (m+1) a0 a1:=
 tq (g:=fun J=>(bif (decide (a0<a1)) then
  some (-1)
   else
  (jj J 0 3 0 (aw6 a0 a1) (e99 J m [1,1] [])))) (by simp only[ah,als m];rfl)
def RQ:List Nat:=[1,0,1,0,0,1]
def alu:List Nat:=RQ++[1]
noncomputable def e100 (J:Q1) (m:Nat):=evAt Tryz.prog env (ct m) J (m+1) 150 39 Tryz.f150 d7
noncomputable def atq (J:Q1) (m:Nat):=loopAt Tryz.prog env (ct m) J (m+1) 150 39 Tryz.f150 d7
noncomputable def iC (x0 x1:ByteArray) (x2:Int):St:=⟨tsOf [(0,.dat 9 (.str x0)),(1,.dat 9 (.str x1)),(5,.dat 3 (.int x2))],[],0⟩
noncomputable def RS (x0 x1:ByteArray):St:=⟨tsOf [(0,.dat 9 (.str x0)),(1,.dat 9 (.str x1))],[],0⟩
abbrev alv (m M1:Nat) (rec1:Q39):Prop:=∀x0 x1 x2,atq jn m [1,0,1,0] [] M1 (iC x0 x1 x2)=rec1 x0 x1 x2
theorem alx m M1 rec1 (h1:alv m M1 rec1) x0 x1 x2:e100 jn m alu [M1] (iC x0 x1 x2)=aiW m rec1 x0 x1 x2:=
 tq (g:=fun J=>(jj J 1 2 M1 (iC x0 x1 (IntKind.wrap .i64 (x2+1))) (atq J m [1,0,1,0] [] M1))) (by simp only[ah,h1];rfl)
theorem aly m M1 rec1 (h1:alv m M1 rec1) x0 x1 x2:e100 jn m RQ [M1] (iC x0 x1 x2)=aiX m rec1 x0 x1 x2:=
 tq (g:=fun J=>((idxS x0 x2).bind fun v0=>
  ((idxS x1 x2).bind fun v1=>
  (bif (v0 !=v1) then
  ((idxS x0 x2).bind fun v2=>
  ((idxS x1 x2).bind fun v3=>
  ((yO m (IntKind.wrap .i64 v2) (IntKind.wrap .i64 v3)).bind fun r4=>
  some r4)))
  else
  (jj J 0 3 0 (iC x0 x1 x2) (e100 J m alu [M1])))))) (by simp only[ah,alx m M1 rec1 h1];rfl)
theorem alz m x0 x1:e100 jn m [1,1] [] (RS x0 x1)=NS m x0 x1:=
 tq (g:=fun J=>((yO m (ByteArray.size x0:Int) (ByteArray.size x1:Int)).bind fun r5=>
  some r5)) (by rfl)
theorem OP m:∀M1 x0 x1 x2,atq jn m [1,0,1,0] [] M1 (iC x0 x1 x2)=GI m M1 x0 x1 x2
 |0,_,_,_=>rfl
 | M1+1,x0,x1,x2=>
   tl (g:=fun J=>(bif (decide (x2<(ByteArray.size x0:Int))) then
  (bif (decide (x2<(ByteArray.size x1:Int))) then
  (jj J 0 4 0 (iC x0 x1 x2) (e100 J m RQ [M1]))
  else
  (jj J 0 6 0 (RS x0 x1) (e100 J m [1,1] [])))
   else
  (jj J 0 6 0 (RS x0 x1) (e100 J m [1,1] [])))) (by simp only[ah,aly m M1 (GI m M1) (OP m M1),alz m];rfl)
theorem alA m x0 x1 x2:e100 jn m [1,0,1] [] (iC x0 x1 x2)=awp m x0 x1 x2:=
 tq (g:=fun J=>(jj J 1 2 (Nat.succ m) (iC x0 x1 x2) (atq J m [1,0,1,0] [] (Nat.succ m)))) (by simp only[ah,OP m];rfl)
theorem aEQ m a0 a1:e100 jn m [] [] ⟨[.dat 9 (.str a0),.dat 9 (.str a1)],[],0⟩=yA (m+1) a0 a1:=
 tq (g:=fun J=>(jj J 0 2 0 (iC a0 a1 0) (e100 J m [1,0,1] []))) (by simp only[ah,alA m];rfl)
def Df:List Nat:=[1,1,0,1,0,1]
def kX:List Nat:=Df++[1,1]
def alB:List Nat:=kX++[1,1,0,1]
def alC:List Nat:=kX++[1,1,0,0,1]
def OQ:List Nat:=alC++[0]
def alD:List Nat:=kX++[1,1,1,1,0,1]
def RU:List Nat:=kX++[1,1,1,1,0,0,1]
def alE:List Nat:=OQ++[0,1]
def OT:List Nat:=RU++[0]
def aw7:List Nat:=alE++[1]
def Wj:List Nat:=OT++[0,1]
def aw8:List Nat:=Wj++[1]
def alF:List Nat:=Wj++[0,0,1,1]
noncomputable def e85 (J:Q1) (m:Nat):=evAt Tryz.prog env (ct m) J (m+1) 120 130 Tryz.f120 d7
noncomputable def l85 (J:Q1) (m:Nat):=loopAt Tryz.prog env (ct m) J (m+1) 120 130 Tryz.f120 d7
noncomputable def nU (x0:Int) (x1 x2:Dt):St:=⟨tsOf [(2,.ptr 0 [] 0),(3,.ptr 1 [] 0),(5,.dat 3 (.int x0))],[.box 30 (.dat 30 x1),.box 30 (.dat 30 x2)],0⟩
noncomputable def uY (x0 x1:Dt):St:=⟨tsOf [(2,.ptr 0 [] 0),(3,.ptr 1 [] 0)],[.box 30 (.dat 30 x0),.box 30 (.dat 30 x1)],0⟩
noncomputable def iD (x0:Int) (x1 x2:Dt):St:=⟨tsOf [(2,.ptr 0 [] 0),(3,.ptr 1 [] 0),(7,.dat 3 (.int x0))],[.box 30 (.dat 30 x1),.box 30 (.dat 30 x2)],0⟩
noncomputable def RX (x0 x1:Int) (x2 x3:Dt):St:=⟨tsOf [(2,.ptr 0 [] 0),(3,.ptr 1 [] 0),(7,.dat 3 (.int x0)),(8,.dat 3 (.int x1))],[.box 30 (.dat 30 x2),.box 30 (.dat 30 x3)],0⟩
noncomputable def alG:St:=⟨tsOf [],[],0⟩
noncomputable def Wl (x0:Int) (x1:Bool) (x2 x3:Dt):St:=⟨tsOf [(2,.ptr 0 [] 0),(3,.ptr 1 [] 0),(20,.dat 3 (.int x0)),(30,.dat 4 (.bool x1))],[.box 30 (.dat 30 x2),.box 30 (.dat 30 x3)],0⟩
noncomputable def Wm (x0:Int) (x1:Bool) (x2 x3:Dt):St:=⟨tsOf [(2,.ptr 0 [] 0),(3,.ptr 1 [] 0),(20,.dat 3 (.int x0)),(21,.dat 4 (.bool x1))],[.box 30 (.dat 30 x2),.box 30 (.dat 30 x3)],0⟩
abbrev aw9 (m M4:Nat) (rec4:Q26):Prop:=∀x0 x1 x2,l85 jn m OQ [] M4 (nU x0 x1 x2)=rec4 x0 x1 x2
theorem alH m M4 rec4 (h4:aw9 m M4 rec4) x0 x1 x2:e85 jn m aw7 [M4] (nU x0 x1 x2)=aiY m (qD m) rec4 x0 x1 x2:=
 tq (g:=fun J=>(jj J 1 14 M4 (nU (IntKind.wrap .i64 (x0+1)) x1 x2) (l85 J m OQ [] M4))) (by simp only[ah,h4];rfl)
theorem alI m M4 rec4 (h4:aw9 m M4 rec4) x0 x1 x2:e85 jn m alE [M4] (nU x0 x1 x2)=aiZ m (qD m) rec4 x0 x1 x2:=
 tq (g:=fun J=>((idx (Dt.L x1 3) x0).bind fun v3=>
  ((idx (Dt.L x2 3) x0).bind fun v4=>
  ((qD m v3 v4).bind fun r5=>
  (bif (r5 !=0) then
  some r5
  else
  (jj J 0 15 0 (nU x0 x1 x2) (e85 J m aw7 [M4]))))))) (by simp only[ah,alH m M4 rec4 h4];rfl)
theorem alJ m x0 x1:e85 jn m alB [] (uY x0 x1)=NT m (qD m) x0 x1:=
 tq (g:=fun J=>((yO m (List.length (Dt.L x0 3):Int) (List.length (Dt.L x1 3):Int)).bind fun r6=>
  some r6)) (by rfl)
theorem OU m:∀M4 x0 x1 x2,l85 jn m OQ [] M4 (nU x0 x1 x2)=GJ m (qD m) M4 x0 x1 x2
 |0,_,_,_=>rfl
 | M4+1,x0,x1,x2=>
   tl (g:=fun J=>(bif (decide (x0<(List.length (Dt.L x1 3):Int))) then
  (bif (decide (x0<(List.length (Dt.L x2 3):Int))) then
  (jj J 0 16 0 (nU x0 x1 x2) (e85 J m alE [M4]))
  else
  (jj J 0 19 0 (uY x1 x2) (e85 J m alB [])))
   else
  (jj J 0 19 0 (uY x1 x2) (e85 J m alB [])))) (by simp only[ah,alI m M4 (GJ m (qD m) M4) (OU m M4),alJ m];rfl)
theorem alK m x0 x1 x2:e85 jn m alC [] (nU x0 x1 x2)=VF m (qD m) x0 x1 x2:=
 tq (g:=fun J=>(jj J 1 14 (Nat.succ m) (nU x0 x1 x2) (l85 J m OQ [] (Nat.succ m)))) (by simp only[ah,OU m];rfl)
abbrev alL (m M9:Nat) (rec9:Q26):Prop:=∀x0 x1 x2,l85 jn m OT [] M9 (iD x0 x1 x2)=rec9 x0 x1 x2
theorem Zt m M9 rec9 (h9:alL m M9 rec9) x0 x1 x2:e85 jn m aw8 [M9] (iD x0 x1 x2)=Rn m (qD m) rec9 x0 x1 x2:=
 tq (g:=fun J=>(jj J 1 22 M9 (iD (IntKind.wrap .i64 (x0+1)) x1 x2) (l85 J m OT [] M9))) (by simp only[ah,h9];rfl)
theorem Zu m M9 rec9 (h9:alL m M9 rec9) x0 x1 x2 x3:e85 jn m alF [M9] (RX x0 x1 x2 x3)=I8 m (qD m) rec9 x0 x1 x2 x3:=
 tq (g:=fun J=>(bif (x1 !=0) then
  some x1
   else
  (jj J 0 23 0 (iD x0 x2 x3) (e85 J m aw8 [M9])))) (by simp only[ah,Zt m M9 rec9 h9];rfl)
theorem Zv m M9 rec9 (h9:alL m M9 rec9) x0 x1 x2:e85 jn m Wj [M9] (iD x0 x1 x2)=Ro m (qD m) rec9 x0 x1 x2:=
 tq (g:=fun J=>((idx (Dt.L x1 4) x0).bind fun v7=>
  ((idx (Dt.L x2 4) x0).bind fun v8=>
  ((yA m (Dt.S v7 0) (Dt.S v8 0)).bind fun r9=>
  (bif (r9==0) then
  ((idx (Dt.L x1 4) x0).bind fun v10=>
  ((idx (Dt.L x2 4) x0).bind fun v11=>
  ((qD m (Dt.fld v10 1) (Dt.fld v11 1)).bind fun r12=>
  (jj J 0 27 0 (RX x0 r12 x1 x2) (e85 J m alF [M9])))))
  else
  (jj J 0 27 0 (RX x0 r9 x1 x2) (e85 J m alF [M9]))))))) (by simp only[ah,Zu m M9 rec9 h9];rfl)
theorem Zw m x0 x1:e85 jn m alD [] (uY x0 x1)=BP m (qD m) x0 x1:=
 tq (g:=fun J=>((yO m (List.length (Dt.L x0 4):Int) (List.length (Dt.L x1 4):Int)).bind fun r13=>
  some r13)) (by rfl)
theorem OV m:∀M9 x0 x1 x2,l85 jn m OT [] M9 (iD x0 x1 x2)=GK m (qD m) M9 x0 x1 x2
 |0,_,_,_=>rfl
 | M9+1,x0,x1,x2=>
   tl (g:=fun J=>(bif (decide (x0<(List.length (Dt.L x1 4):Int))) then
  (bif (decide (x0<(List.length (Dt.L x2 4):Int))) then
  (jj J 0 24 0 (iD x0 x1 x2) (e85 J m Wj [M9]))
  else
  (jj J 0 29 0 (uY x1 x2) (e85 J m alD [])))
   else
  (jj J 0 29 0 (uY x1 x2) (e85 J m alD [])))) (by simp only[ah,Zv m M9 (GK m (qD m) M9) (OV m M9),Zw m];rfl)
theorem alM m x0 x1 x2:e85 jn m RU [] (iD x0 x1 x2)=VG m (qD m) x0 x1 x2:=
 tq (g:=fun J=>(jj J 1 22 (Nat.succ m) (iD x0 x1 x2) (l85 J m OT [] (Nat.succ m)))) (by simp only[ah,OV m];rfl)
theorem Zx m:e85 jn m [1,1,1] [] alG=Rp m (qD m):=
 tq (g:=fun J=>some 0) (by rfl)
theorem alN m x0 x1 x2 x3:e85 jn m kX [] (Wl x0 x1 x2 x3)=NU m (qD m) x0 x1 x2 x3:=
 tq (g:=fun J=>(bif x1 then
  ((yA m (Dt.S x2 2) (Dt.S x3 2)).bind fun r2=>
  some r2)
   else
  (bif (x0==6) then
  (jj J 0 14 0 (nU 0 x2 x3) (e85 J m alC []))
  else
  (bif (x0==5) then
  (jj J 0 22 0 (iD 0 x2 x3) (e85 J m RU []))
  else
  (jj J 0 30 0 alG (e85 J m [1,1,1] [])))))) (by simp only[ah,alK m,alM m,Zx m];rfl)
theorem alO m x0 x1 x2 x3:e85 jn m Df [] (Wm x0 x1 x2 x3)=NV m (qD m) x0 x1 x2 x3:=
 tq (g:=fun J=>(bif x1 then
  ((yO m (Dt.I x2 1) (Dt.I x3 1)).bind fun r1=>
  some r1)
   else
  (bif (x0==4) then
  (jj J 0 11 0 (Wl x0 (x0==4) x2 x3) (e85 J m kX []))
  else
  (bif (x0==7) then
  (jj J 0 11 0 (Wl x0 (x0==7) x2 x3) (e85 J m kX []))
  else
  (jj J 0 11 0 (Wl x0 (x0==8) x2 x3) (e85 J m kX [])))))) (by simp only[ah,alN m];rfl)
theorem alP m x0 x1:e85 jn m [1,1] [] (uY x0 x1)=NW m (qD m) x0 x1:=
 tq (g:=fun J=>(bif ((Dt.I x0 0)==3) then
  (jj J 0 7 0 (Wm (Dt.I x0 0) ((Dt.I x0 0)==3) x0 x1) (e85 J m Df []))
   else
  (bif ((Dt.I x0 0)==9) then
  (jj J 0 7 0 (Wm (Dt.I x0 0) ((Dt.I x0 0)==9) x0 x1) (e85 J m Df []))
  else
  (jj J 0 7 0 (Wm (Dt.I x0 0) ((Dt.I x0 0)==10) x0 x1) (e85 J m Df []))))) (by simp only[ah,alO m];rfl)
theorem aER m a0 a1:e85 jn m [] [] ⟨[.dat 30 a0,.dat 30 a1],[],0⟩=qD (m+1) a0 a1:=
 tq (g:=fun J=>(bif ((Dt.I a0 0) !=(Dt.I a1 0)) then
  ((yO m (Dt.I a0 0) (Dt.I a1 0)).bind fun r0=>
  some r0)
   else
  (jj J 0 3 0 (uY a0 a1) (e85 J m [1,1] [])))) (by simp only[ah,alP m];rfl)
noncomputable def aF4 (J:Q0) (m:Nat):=evAt Tryz.prog env (ct m) J (m+1) 143 9 Tryz.f143 d9
theorem aES m a0:aF4 jn m [] [] ⟨[.dat 3 (.int a0)],[],0⟩=vI (m+1) a0:=
 tq (g:=fun J=>(bif (decide (0≤a0)) then
  some (decide (a0<65536))
   else
  some false)) (by rfl)
noncomputable def aF5 (J:Q0) (m:Nat):=evAt Tryz.prog env (ct m) J (m+1) 142 11 Tryz.f142 d9
noncomputable def aF6 (J:Q0) (m:Nat):=loopAt Tryz.prog env (ct m) J (m+1) 142 11 Tryz.f142 d9
theorem aET m a0:aF5 jn m [] [] ⟨[.dat 129 a0],[],0⟩=vL (m+1) a0:=
 tq (g:=fun J=>((vI m (Dt.I a0 0)).bind fun r0=>
  (bif r0 then
  ((vI m (Dt.I a0 1)).bind fun r1=>
  some r1)
  else
  some false))) (by rfl)
def axa:List Nat:=[1,1,1,1,1]
def axb:List Nat:=[1,1,1,0,1]
def OW:List Nat:=[1,1,1,0,1,0]
def bI:List Nat:=[1,1,1,1,0,1]
def alQ:List Nat:=OW++[0,1]
def axc:List Nat:=alQ++[1]
noncomputable def e86 (J:Q1) (m:Nat):=evAt Tryz.prog env (ct m) J (m+1) 109 62 Tryz.f109 d57
noncomputable def l86 (J:Q1) (m:Nat):=loopAt Tryz.prog env (ct m) J (m+1) 109 62 Tryz.f109 d57
noncomputable def nV (x0 x1:Int) (x2:Dt):St:=⟨tsOf [(1,.ptr 0 [] 0),(3,.dat 3 (.int x0)),(4,.dat 3 (.int x1))],[.box 33 (.dat 33 x2)],0⟩
noncomputable def axd:St:=⟨tsOf [],[],0⟩
noncomputable def bJ (x0:Bool):St:=⟨tsOf [(61,.dat 4 (.bool x0))],[],0⟩
noncomputable def Wn (x0:Int) (x1:Dt):St:=⟨tsOf [(1,.ptr 0 [] 0),(3,.dat 3 (.int x0))],[.box 33 (.dat 33 x1)],0⟩
abbrev axe (m M2:Nat) (rec2:Q28):Prop:=∀x0 x1 x2,l86 jn m OW [] M2 (nV x0 x1 x2)=rec2 x0 x1 x2
theorem alR m M2 rec2 (h2:axe m M2 rec2) x0 x1 x2:e86 jn m axc [M2] (nV x0 x1 x2)=ai0 m rec2 x0 x1 x2:=
 tq (g:=fun J=>(jj J 1 5 M2 (nV x0 (IntKind.wrap .i64 (x1+1)) x2) (l86 J m OW [] M2))) (by simp only[ah,h2];rfl)
theorem alS m M2 rec2 (h2:axe m M2 rec2) x0 x1 x2:e86 jn m alQ [M2] (nV x0 x1 x2)=ai1 m rec2 x0 x1 x2:=
 tq (g:=fun J=>((idx (Dt.L x2 1) x1).bind fun v0=>
  ((vL m v0).bind fun r1=>
  (bif (Bool.not r1) then
  some 18
  else
  (jj J 0 6 0 (nV x0 x1 x2) (e86 J m axc [M2])))))) (by simp only[ah,alR m M2 rec2 h2];rfl)
theorem alT m:e86 jn m axa [] axd=ai2 m:=
 tq (g:=fun J=>some 18) (by rfl)
theorem alU m x0:e86 jn m bI [] (bJ x0)=bF m x0:=
 tq (g:=fun J=>(bif x0 then
  some 0
   else
  (jj J 0 11 0 axd (e86 J m axa [])))) (by simp only[ah,alT m];rfl)
theorem alV m x0 x1:e86 jn m [1,1,1,1] [] (Wn x0 x1)=VH m x0 x1:=
 tq (g:=fun J=>(bif ((Dt.I x1 0)==1) then
  (bif (x0==2) then
  (bif ((Dt.I x1 2)==0) then
  (jj J 0 10 0 (bJ true) (e86 J m bI []))
  else
  (bif ((Dt.I x1 0)==2) then
  (bif (x0==1) then
  ((vI m (Dt.I x1 2)).bind fun r2=>
  (bif r2 then
  (jj J 0 10 0 (bJ true) (e86 J m bI []))
  else
  (bif ((Dt.I x1 0)==3) then
  (bif (decide (3≤x0)) then
  (jj J 0 10 0 (bJ ((Dt.I x1 2)==0)) (e86 J m bI []))
  else
  (jj J 0 10 0 (bJ false) (e86 J m bI [])))
  else
  (jj J 0 10 0 (bJ false) (e86 J m bI [])))))
  else
  (bif ((Dt.I x1 0)==3) then
  (bif (decide (3≤x0)) then
  (jj J 0 10 0 (bJ ((Dt.I x1 2)==0)) (e86 J m bI []))
  else
  (jj J 0 10 0 (bJ false) (e86 J m bI [])))
  else
  (jj J 0 10 0 (bJ false) (e86 J m bI []))))
  else
  (bif ((Dt.I x1 0)==3) then
  (bif (decide (3≤x0)) then
  (jj J 0 10 0 (bJ ((Dt.I x1 2)==0)) (e86 J m bI []))
  else
  (jj J 0 10 0 (bJ false) (e86 J m bI [])))
  else
  (jj J 0 10 0 (bJ false) (e86 J m bI [])))))
  else
  (bif ((Dt.I x1 0)==2) then
  (bif (x0==1) then
  ((vI m (Dt.I x1 2)).bind fun r3=>
  (bif r3 then
  (jj J 0 10 0 (bJ true) (e86 J m bI []))
  else
  (bif ((Dt.I x1 0)==3) then
  (bif (decide (3≤x0)) then
  (jj J 0 10 0 (bJ ((Dt.I x1 2)==0)) (e86 J m bI []))
  else
  (jj J 0 10 0 (bJ false) (e86 J m bI [])))
  else
  (jj J 0 10 0 (bJ false) (e86 J m bI [])))))
  else
  (bif ((Dt.I x1 0)==3) then
  (bif (decide (3≤x0)) then
  (jj J 0 10 0 (bJ ((Dt.I x1 2)==0)) (e86 J m bI []))
  else
  (jj J 0 10 0 (bJ false) (e86 J m bI [])))
  else
  (jj J 0 10 0 (bJ false) (e86 J m bI []))))
  else
  (bif ((Dt.I x1 0)==3) then
  (bif (decide (3≤x0)) then
  (jj J 0 10 0 (bJ ((Dt.I x1 2)==0)) (e86 J m bI []))
  else
  (jj J 0 10 0 (bJ false) (e86 J m bI [])))
  else
  (jj J 0 10 0 (bJ false) (e86 J m bI [])))))
   else
  (bif ((Dt.I x1 0)==2) then
  (bif (x0==1) then
  ((vI m (Dt.I x1 2)).bind fun r4=>
  (bif r4 then
  (jj J 0 10 0 (bJ true) (e86 J m bI []))
  else
  (bif ((Dt.I x1 0)==3) then
  (bif (decide (3≤x0)) then
  (jj J 0 10 0 (bJ ((Dt.I x1 2)==0)) (e86 J m bI []))
  else
  (jj J 0 10 0 (bJ false) (e86 J m bI [])))
  else
  (jj J 0 10 0 (bJ false) (e86 J m bI [])))))
  else
  (bif ((Dt.I x1 0)==3) then
  (bif (decide (3≤x0)) then
  (jj J 0 10 0 (bJ ((Dt.I x1 2)==0)) (e86 J m bI []))
  else
  (jj J 0 10 0 (bJ false) (e86 J m bI [])))
  else
  (jj J 0 10 0 (bJ false) (e86 J m bI []))))
  else
  (bif ((Dt.I x1 0)==3) then
  (bif (decide (3≤x0)) then
  (jj J 0 10 0 (bJ ((Dt.I x1 2)==0)) (e86 J m bI []))
  else
  (jj J 0 10 0 (bJ false) (e86 J m bI [])))
  else
  (jj J 0 10 0 (bJ false) (e86 J m bI [])))))) (by simp only[ah,alU m];rfl)
theorem OX m:∀M2 x0 x1 x2,l86 jn m OW [] M2 (nV x0 x1 x2)=GL m M2 x0 x1 x2
 |0,_,_,_=>rfl
 | M2+1,x0,x1,x2=>
   tl (g:=fun J=>(bif (decide (x1<x0)) then
  (jj J 0 7 0 (nV x0 x1 x2) (e86 J m alQ [M2]))
   else
  (jj J 0 9 0 (Wn x0 x2) (e86 J m [1,1,1,1] [])))) (by simp only[ah,alS m M2 (GL m M2) (OX m M2),alV m];rfl)
theorem alW m x0 x1 x2:e86 jn m axb [] (nV x0 x1 x2)=awq m x0 x1 x2:=
 tq (g:=fun J=>(jj J 1 5 (Nat.succ m) (nV x0 x1 x2) (l86 J m OW [] (Nat.succ m)))) (by simp only[ah,OX m];rfl)
theorem alX m x0 x1:e86 jn m [1,1,1] [] (Wn x0 x1)=awr m x0 x1:=
 tq (g:=fun J=>(jj J 0 5 0 (nV x0 0 x1) (e86 J m axb []))) (by simp only[ah,alW m];rfl)
theorem aEU m a0:e86 jn m [] [] ⟨[.dat 33 a0],[],0⟩=zB (m+1) a0:=
 tq (g:=fun J=>(bif (decide (64<(List.length (Dt.L a0 1):Int))) then
  some 18
   else
  (jj J 0 4 0 (Wn (List.length (Dt.L a0 1):Int) a0) (e86 J m [1,1,1] [])))) (by simp only[ah,alX m];rfl)
noncomputable def e56 (J:Q1) (m:Nat):=evAt Tryz.prog env (ct m) J (m+1) 87 21 Tryz.f87 d57
noncomputable def axf:St:=⟨tsOf [],[],0⟩
noncomputable def Wo (x0:Dt):St:=⟨tsOf [(1,.ptr 0 [] 0)],[.box 71 (.dat 71 x0)],0⟩
noncomputable def alY (x0:Bool) (x1:Dt):St:=⟨tsOf [(1,.ptr 0 [] 0),(12,.dat 4 (.bool x0))],[.box 71 (.dat 71 x1)],0⟩
theorem alZ m:e56 jn m [1,1,1,1] [] axf=aws m:=
 tq (g:=fun J=>some 0) (by rfl)
theorem al0 m x0:e56 jn m [1,1,1] [] (Wo x0)=ai3 m x0:=
 tq (g:=fun J=>((yV m (Dt.S x0 7)).bind fun r2=>
  (bif (Bool.not r2) then
  some 9
  else
  (jj J 0 7 0 axf (e56 J m [1,1,1,1] []))))) (by simp only[ah,alZ m];rfl)
theorem al1 m x0:e56 jn m [1,1] [] (Wo x0)=ai4 m x0:=
 tq (g:=fun J=>((zC m (Dt.L x0 6)).bind fun r1=>
  (bif (Bool.not r1) then
  some 10
  else
  (jj J 0 5 0 (Wo x0) (e56 J m [1,1,1] []))))) (by simp only[ah,al0 m];rfl)
theorem al2 m x0 x1:e56 jn m [1,0,1] [] (alY x0 x1)=NY m x0 x1:=
 tq (g:=fun J=>(bif x0 then
  some 18
   else
  (jj J 0 3 0 (Wo x1) (e56 J m [1,1] [])))) (by simp only[ah,al1 m];rfl)
theorem aEV m a0:e56 jn m [] [] ⟨[.dat 71 a0],[],0⟩=yL (m+1) a0:=
 tq (g:=fun J=>((zB m (Dt.fld a0 16)).bind fun r0=>
  (bif (r0 !=0) then
  (jj J 0 2 0 (alY true a0) (e56 J m [1,0,1] []))
  else
  (jj J 0 2 0 (alY ((Dt.I (Dt.fld a0 16) 0) !=2) a0) (e56 J m [1,0,1] []))))) (by simp only[ah,al2 m];rfl)
noncomputable def aF7 (J:Q0) (m:Nat):=evAt Tryz.prog env (ct m) J (m+1) 145 17 Tryz.f145 d9
theorem aEW m a0:aF7 jn m [] [] ⟨[.dat 33 a0],[],0⟩=vF (m+1) a0:=
 tq (g:=fun J=>(bif ((Dt.I a0 0)==0) then
  (bif ((List.length (Dt.L a0 1):Int)==0) then
  some ((Dt.I a0 2)==0)
  else
  some false)
   else
  some false)) (by rfl)
noncomputable def aF8 (J:Q0) (m:Nat):=evAt Tryz.prog env (ct m) J (m+1) 144 28 Tryz.f144 d9
theorem aEX m a0:aF8 jn m [] [] ⟨[.dat 30 a0],[],0⟩=y2 (m+1) a0:=
 tq (g:=fun J=>(bif ((Dt.I a0 0)==0) then
  (bif ((Dt.I a0 1)==0) then
  (bif ((ByteArray.toList (Dt.S a0 2))==[]) then
  (bif ((List.length (Dt.L a0 3):Int)==0) then
  some ((List.length (Dt.L a0 4):Int)==0)
  else
  some false)
  else
  some false)
  else
  some false)
   else
  some false)) (by rfl)
noncomputable def aF9 (J:Q0) (m:Nat):=evAt Tryz.prog env (ct m) J (m+1) 146 39 Tryz.f146 d9
theorem aEY m a0:aF9 jn m [] [] ⟨[.dat 36 a0],[],0⟩=vE (m+1) a0:=
 tq (g:=fun J=>(bif ((Dt.I a0 0)==0) then
  (bif ((List.length (Dt.L a0 1):Int)==0) then
  (bif ((ByteArray.toList (Dt.S a0 2))==[]) then
  (bif ((List.length (Dt.L a0 3):Int)==0) then
  ((y2 m (Dt.fld a0 4)).bind fun r0=>
  (bif r0 then
  (bif ((Dt.I a0 5)==0) then
  some ((List.length (Dt.L a0 6):Int)==0)
  else
  some false)
  else
  some false))
  else
  some false)
  else
  some false)
  else
  some false)
   else
  some false)) (by rfl)
noncomputable def e90 (J:Q0) (m:Nat):=evAt Tryz.prog env (ct m) J (m+1) 110 88 Tryz.f110 d9
noncomputable def Wp (x0:Dt):St:=⟨tsOf [(1,.ptr 0 [] 0)],[.box 39 (.dat 39 x0)],0⟩
noncomputable def jR (x0:Bool) (x1:Dt):St:=⟨tsOf [(1,.ptr 0 [] 0),(69,.dat 4 (.bool x0))],[.box 39 (.dat 39 x1)],0⟩
noncomputable def jS (x0:Bool) (x1:Dt):St:=⟨tsOf [(1,.ptr 0 [] 0),(36,.dat 4 (.bool x0))],[.box 39 (.dat 39 x1)],0⟩
theorem al3 m x0:e90 jn m [1,1,1] [] (Wp x0)=VI m x0:=
 tq (g:=fun J=>(bif ((Dt.I x0 0)==18) then
  (bif ((Dt.I x0 0)==24) then
  some true
  else
  ((vE m (Dt.fld x0 7)).bind fun r1=>
  some r1))
   else
  ((vF m (Dt.fld x0 6)).bind fun r2=>
  (bif r2 then
  (bif ((Dt.I x0 0)==24) then
  some true
  else
  ((vE m (Dt.fld x0 7)).bind fun r3=>
  some r3))
  else
  some false)))) (by rfl)
theorem al4 m x0 x1:e90 jn m [1,1,0,1] [] (jR x0 x1)=gY m x0 x1:=
 tq (g:=fun J=>(bif x0 then
  some false
   else
  (jj J 0 5 0 (Wp x1) (e90 J m [1,1,1] [])))) (by simp only[ah,al3 m];rfl)
theorem al5 m x0:e90 jn m [1,1] [] (Wp x0)=ai5 m x0:=
 tq (g:=fun J=>(bif ((Dt.I x0 0) !=10) then
  (bif ((Dt.I x0 0) !=11) then
  (bif ((Dt.I x0 0) !=12) then
  (bif ((Dt.I x0 0) !=13) then
  (bif ((Dt.I x0 4) !=0) then
  (jj J 0 4 0 (jR true x0) (e90 J m [1,1,0,1] []))
  else
  (bif ((Dt.I x0 0) !=12) then
  (jj J 0 4 0 (jR ((Dt.I x0 5) !=0) x0) (e90 J m [1,1,0,1] []))
  else
  (jj J 0 4 0 (jR false x0) (e90 J m [1,1,0,1] []))))
  else
  (bif ((Dt.I x0 0) !=12) then
  (jj J 0 4 0 (jR ((Dt.I x0 5) !=0) x0) (e90 J m [1,1,0,1] []))
  else
  (jj J 0 4 0 (jR false x0) (e90 J m [1,1,0,1] []))))
  else
  (bif ((Dt.I x0 0) !=12) then
  (jj J 0 4 0 (jR ((Dt.I x0 5) !=0) x0) (e90 J m [1,1,0,1] []))
  else
  (jj J 0 4 0 (jR false x0) (e90 J m [1,1,0,1] []))))
  else
  (bif ((Dt.I x0 0) !=12) then
  (jj J 0 4 0 (jR ((Dt.I x0 5) !=0) x0) (e90 J m [1,1,0,1] []))
  else
  (jj J 0 4 0 (jR false x0) (e90 J m [1,1,0,1] []))))
   else
  (bif ((Dt.I x0 0) !=12) then
  (jj J 0 4 0 (jR ((Dt.I x0 5) !=0) x0) (e90 J m [1,1,0,1] []))
  else
  (jj J 0 4 0 (jR false x0) (e90 J m [1,1,0,1] []))))) (by simp only[ah,al4 m];rfl)
theorem al6 m x0 x1:e90 jn m [1,0,1] [] (jS x0 x1)=gZ m x0 x1:=
 tq (g:=fun J=>(bif x0 then
  some false
   else
  (jj J 0 3 0 (Wp x1) (e90 J m [1,1] [])))) (by simp only[ah,al5 m];rfl)
theorem aEZ m a0:e90 jn m [] [] ⟨[.dat 39 a0],[],0⟩=zQ (m+1) a0:=
 tq (g:=fun J=>((vB m (Dt.I a0 0)).bind fun r0=>
  (bif (Bool.not r0) then
  (bif (decide (0<(List.length (Dt.L a0 1):Int))) then
  (jj J 0 2 0 (jS true a0) (e90 J m [1,0,1] []))
  else
  ((y6 m (Dt.I a0 0)).bind fun r4=>
  (bif (Bool.not r4) then
  ((y2 m (Dt.fld a0 2)).bind fun r5=>
  (bif (Bool.not r5) then
  (jj J 0 2 0 (jS true a0) (e90 J m [1,0,1] []))
  else
  ((yP m (Dt.I a0 0)).bind fun r6=>
  (bif (Bool.not r6) then
  (jj J 0 2 0 (jS (decide (0<(List.length (Dt.L a0 3):Int))) a0) (e90 J m [1,0,1] []))
  else
  (jj J 0 2 0 (jS false a0) (e90 J m [1,0,1] []))))))
  else
  ((yP m (Dt.I a0 0)).bind fun r7=>
  (bif (Bool.not r7) then
  (jj J 0 2 0 (jS (decide (0<(List.length (Dt.L a0 3):Int))) a0) (e90 J m [1,0,1] []))
  else
  (jj J 0 2 0 (jS false a0) (e90 J m [1,0,1] [])))))))
  else
  ((y6 m (Dt.I a0 0)).bind fun r8=>
  (bif (Bool.not r8) then
  ((y2 m (Dt.fld a0 2)).bind fun r9=>
  (bif (Bool.not r9) then
  (jj J 0 2 0 (jS true a0) (e90 J m [1,0,1] []))
  else
  ((yP m (Dt.I a0 0)).bind fun r10=>
  (bif (Bool.not r10) then
  (jj J 0 2 0 (jS (decide (0<(List.length (Dt.L a0 3):Int))) a0) (e90 J m [1,0,1] []))
  else
  (jj J 0 2 0 (jS false a0) (e90 J m [1,0,1] []))))))
  else
  ((yP m (Dt.I a0 0)).bind fun r11=>
  (bif (Bool.not r11) then
  (jj J 0 2 0 (jS (decide (0<(List.length (Dt.L a0 3):Int))) a0) (e90 J m [1,0,1] []))
  else
  (jj J 0 2 0 (jS false a0) (e90 J m [1,0,1] []))))))))) (by simp only[ah,al6 m];rfl)
def Jf:List Nat:=[1,0,1,0,0,1]
def al7:List Nat:=Jf++[1]
def RY:List Nat:=Jf++[0,0,1]
def RZ:List Nat:=RY++[1]
def Dg:List Nat:=RZ++[0]
def R3:List Nat:=Dg++[0,1]
def al8:List Nat:=R3++[1]
noncomputable def kY (J:Q0) (m:Nat):=evAt Tryz.prog env (ct m) J (m+1) 219 31 Tryz.f219 d9
noncomputable def Jg (J:Q0) (m:Nat):=loopAt Tryz.prog env (ct m) J (m+1) 219 31 Tryz.f219 d9
noncomputable def iE (x0:List Dt) (x1 x2:Int):St:=⟨tsOf [(0,.dat 26 (.lst x0)),(3,.dat 3 (.int x1)),(4,.dat 3 (.int x2))],[],0⟩
noncomputable def fJ (x0:List Dt) (x1:Int):St:=⟨tsOf [(0,.dat 26 (.lst x0)),(3,.dat 3 (.int x1))],[],0⟩
noncomputable def al9:St:=⟨tsOf [],[],0⟩
abbrev pO (m M1:Nat) (rec1:Q21):Prop:=∀x0 x1,Jg jn m [1,0,1,0] [] M1 (fJ x0 x1)=rec1 x0 x1
abbrev ama (m M1 M5:Nat) (rec5:Q40):Prop:=∀x0 x1 x2,Jg jn m Dg [M1] M5 (iE x0 x1 x2)=rec5 x0 x1 x2
theorem amb m M1 rec1 (h1:pO m M1 rec1) M5 rec5 (h5:ama m M1 M5 rec5) x0 x1 x2:kY jn m al8 [M1,M5] (iE x0 x1 x2)=ai6 m rec1 rec5 x0 x1 x2:=
 tq (g:=fun J=>(jj J 1 7 M5 (iE x0 x1 (IntKind.wrap .i64 (x2+1))) (Jg J m Dg [M1] M5))) (by simp only[ah,h5];rfl)
theorem amc m M1 rec1 (h1:pO m M1 rec1) M5 rec5 (h5:ama m M1 M5 rec5) x0 x1 x2:kY jn m R3 [M1,M5] (iE x0 x1 x2)=ai7 m rec1 rec5 x0 x1 x2:=
 tq (g:=fun J=>((idx x0 x2).bind fun v2=>
  ((idx x0 x1).bind fun v3=>
  (bif ((ByteArray.toList (Dt.toStr v2))==(ByteArray.toList (Dt.toStr v3))) then
  some false
  else
  (jj J 0 8 0 (iE x0 x1 x2) (kY J m al8 [M1,M5])))))) (by simp only[ah,amb m M1 rec1 h1 M5 rec5 h5];rfl)
theorem amd m M1 rec1 (h1:pO m M1 rec1) x0 x1:kY jn m al7 [M1] (fJ x0 x1)=ai8 m rec1 x0 x1:=
 tq (g:=fun J=>(jj J 1 2 M1 (fJ x0 (IntKind.wrap .i64 (x1+1))) (Jg J m [1,0,1,0] [] M1))) (by simp only[ah,h1];rfl)
theorem OY m M1 rec1 (h1:pO m M1 rec1):∀M5 x0 x1 x2,Jg jn m Dg [M1] M5 (iE x0 x1 x2)=GN m rec1 M5 x0 x1 x2
 |0,_,_,_=>rfl
 | M5+1,x0,x1,x2=>
   tl (g:=fun J=>(bif (decide (x2<x1)) then
  (jj J 0 9 0 (iE x0 x1 x2) (kY J m R3 [M1,M5]))
   else
  (jj J 0 3 0 (fJ x0 x1) (kY J m al7 [M1])))) (by simp only[ah,amc m M1 rec1 h1 M5 (GN m rec1 M5) (OY m M1 rec1 h1 M5),amd m M1 rec1 h1];rfl)
theorem ame m M1 rec1 (h1:pO m M1 rec1) x0 x1 x2:kY jn m RZ [M1] (iE x0 x1 x2)=ai9 m rec1 x0 x1 x2:=
 tq (g:=fun J=>(jj J 1 7 (Nat.succ m) (iE x0 x1 x2) (Jg J m Dg [M1] (Nat.succ m)))) (by simp only[ah,OY m M1 rec1 h1];rfl)
theorem amf m M1 rec1 (h1:pO m M1 rec1) x0 x1:kY jn m RY [M1] (fJ x0 x1)=aja m rec1 x0 x1:=
 tq (g:=fun J=>(jj J 0 7 0 (iE x0 x1 0) (kY J m RZ [M1]))) (by simp only[ah,ame m M1 rec1 h1];rfl)
theorem amg m M1 rec1 (h1:pO m M1 rec1) x0 x1:kY jn m Jf [M1] (fJ x0 x1)=ajb m rec1 x0 x1:=
 tq (g:=fun J=>((idx x0 x1).bind fun v0=>
  ((zE m (Dt.toStr v0)).bind fun r1=>
  (bif (Bool.not r1) then
  some false
  else
  (jj J 0 6 0 (fJ x0 x1) (kY J m RY [M1])))))) (by simp only[ah,amf m M1 rec1 h1];rfl)
theorem amh m:kY jn m [1,1] [] al9=ajc m:=
 tq (g:=fun J=>some true) (by rfl)
theorem OZ m:∀M1 x0 x1,Jg jn m [1,0,1,0] [] M1 (fJ x0 x1)=BQ m M1 x0 x1
 |0,_,_=>rfl
 | M1+1,x0,x1=>
   tl (g:=fun J=>(bif (decide (x1<(List.length x0:Int))) then
  (jj J 0 4 0 (fJ x0 x1) (kY J m Jf [M1]))
   else
  (jj J 0 11 0 al9 (kY J m [1,1] [])))) (by simp only[ah,amg m M1 (BQ m M1) (OZ m M1),amh m];rfl)
theorem ami m x0 x1:kY jn m [1,0,1] [] (fJ x0 x1)=awt m x0 x1:=
 tq (g:=fun J=>(jj J 1 2 (Nat.succ m) (fJ x0 x1) (Jg J m [1,0,1,0] [] (Nat.succ m)))) (by simp only[ah,OZ m];rfl)
theorem aE0 m a0:kY jn m [] [] ⟨[.dat 26 (.lst a0)],[],0⟩=zM (m+1) a0:=
 tq (g:=fun J=>(jj J 0 2 0 (fJ a0 0) (kY J m [1,0,1] []))) (by simp only[ah,ami m];rfl)
def Jh:List Nat:=[1,0,1,0,1]
def iF:List Nat:=[1,0,1,0,1,1,1]
def Ji:List Nat:=iF++[1,1]
def iG:List Nat:=Ji++[1,1]
noncomputable def eD (J:Q1) (m:Nat):=evAt Tryz.prog env (ct m) J (m+1) 218 30 Tryz.f218 d7
noncomputable def aGa (J:Q1) (m:Nat):=loopAt Tryz.prog env (ct m) J (m+1) 218 30 Tryz.f218 d7
noncomputable def amj:St:=⟨tsOf [],[],0⟩
noncomputable def iH (x0:Bool):St:=⟨tsOf [(20,.dat 4 (.bool x0))],[],0⟩
noncomputable def R4 (x0:Int) (x1:Bool):St:=⟨tsOf [(3,.dat 3 (.int x0)),(17,.dat 4 (.bool x1))],[],0⟩
noncomputable def jC (x0:Int) (x1:Bool):St:=⟨tsOf [(3,.dat 3 (.int x0)),(8,.dat 4 (.bool x1))],[],0⟩
noncomputable def Jj (x0:Int) (x1:Bool):St:=⟨tsOf [(3,.dat 3 (.int x0)),(4,.dat 4 (.bool x1))],[],0⟩
theorem amk m:eD jn m [1,1] [] amj=awu m:=
 tq (g:=fun J=>some 2) (by rfl)
theorem aml m x0:eD jn m iG [] (iH x0)=nO m x0:=
 tq (g:=fun J=>(bif x0 then
  some (-1)
   else
  (jj J 0 28 0 amj (eD J m [1,1] [])))) (by simp only[ah,amk m];rfl)
theorem amm m x0 x1:eD jn m Ji [] (R4 x0 x1)=ajd m x0 x1:=
 tq (g:=fun J=>(bif x1 then
  some 3
   else
  (bif (x0==4) then
  (jj J 0 27 0 (iH (x0==4)) (eD J m iG []))
  else
  (bif (x0==6) then
  (jj J 0 27 0 (iH (x0==6)) (eD J m iG []))
  else
  (bif (x0==16) then
  (jj J 0 27 0 (iH (x0==16)) (eD J m iG []))
  else
  (bif (x0==17) then
  (jj J 0 27 0 (iH (x0==17)) (eD J m iG []))
  else
  (bif (x0==21) then
  (jj J 0 27 0 (iH (x0==21)) (eD J m iG []))
  else
  (bif (x0==29) then
  (jj J 0 27 0 (iH (x0==29)) (eD J m iG []))
  else
  (bif (x0==37) then
  (jj J 0 27 0 (iH (x0==37)) (eD J m iG []))
  else
  (bif (x0==35) then
  (jj J 0 27 0 (iH (x0==35)) (eD J m iG []))
  else
  (jj J 0 27 0 (iH (x0==34)) (eD J m iG [])))))))))))) (by simp only[ah,aml m];rfl)
theorem amn m x0 x1:eD jn m iF [] (jC x0 x1)=rF m x0 x1:=
 tq (g:=fun J=>(bif x1 then
  some 1
   else
  (bif (x0==19) then
  (jj J 0 17 0 (R4 x0 (x0==19)) (eD J m Ji []))
  else
  (jj J 0 17 0 (R4 x0 (x0==25)) (eD J m Ji []))))) (by simp only[ah,amm m];rfl)
theorem amo m x0 x1:eD jn m Jh [] (Jj x0 x1)=VJ m x0 x1:=
 tq (g:=fun J=>(bif x1 then
  some 0
   else
  (bif (x0==18) then
  (jj J 0 14 0 (jC x0 (x0==18)) (eD J m iF []))
  else
  (bif (x0==22) then
  (jj J 0 14 0 (jC x0 (x0==22)) (eD J m iF []))
  else
  (bif (x0==23) then
  (jj J 0 14 0 (jC x0 (x0==23)) (eD J m iF []))
  else
  (bif (x0==24) then
  (jj J 0 14 0 (jC x0 (x0==24)) (eD J m iF []))
  else
  (bif (x0==26) then
  (jj J 0 14 0 (jC x0 (x0==26)) (eD J m iF []))
  else
  (bif (x0==30) then
  (jj J 0 14 0 (jC x0 (x0==30)) (eD J m iF []))
  else
  (bif (x0==31) then
  (jj J 0 14 0 (jC x0 (x0==31)) (eD J m iF []))
  else
  (jj J 0 14 0 (jC x0 (x0==36)) (eD J m iF []))))))))))) (by simp only[ah,amn m];rfl)
theorem aE1 m a0:eD jn m [] [] ⟨[.dat 3 (.int a0)],[],0⟩=yB (m+1) a0:=
 tq (g:=fun J=>(bif (a0==1) then
  (jj J 0 5 0 (Jj a0 (a0==1)) (eD J m Jh []))
   else
  (bif (a0==2) then
  (jj J 0 5 0 (Jj a0 (a0==2)) (eD J m Jh []))
  else
  (jj J 0 5 0 (Jj a0 (a0==3)) (eD J m Jh []))))) (by simp only[ah,amo m];rfl)
def R5:List Nat:=[1,1,0,1,0,1]
def Dh:List Nat:=R5++[0]
def R6:List Nat:=[1,1,1,0,1,0,1]
def Di:List Nat:=R6++[0]
def R7:List Nat:=Dh++[0,1]
def amq:List Nat:=R7++[1]
def R8:List Nat:=Di++[0,1]
def amr:List Nat:=R8++[1]
noncomputable def jD (J:Q7) (m:Nat):=evAt Tryz.prog env (ct m) J (m+1) 215 44 Tryz.f215 d32
noncomputable def O0 (J:Q7) (m:Nat):=loopAt Tryz.prog env (ct m) J (m+1) 215 44 Tryz.f215 d32
noncomputable def iI (x0:Int) (x1:Dt) (x2:List Dt):St:=⟨tsOf [(1,.ptr 0 [] 0),(3,.row 1),(4,.dat 3 (.int x0))],[.box 30 (.dat 30 x1),.row 27 x2],0⟩
noncomputable def iJ (x0:Int) (x1:Dt) (x2:List Dt):St:=⟨tsOf [(1,.ptr 0 [] 0),(3,.row 1),(5,.dat 3 (.int x0))],[.box 30 (.dat 30 x1),.row 27 x2],0⟩
noncomputable def R9 (x0:List Dt):St:=⟨tsOf [(3,.row 0)],[.row 27 x0],0⟩
noncomputable def Sb (x0:Dt) (x1:List Dt):St:=⟨tsOf [(1,.ptr 0 [] 0),(3,.row 1)],[.box 30 (.dat 30 x0),.row 27 x1],0⟩
abbrev ams (m M1:Nat) (rec1:Q16):Prop:=∀x0 x1 x2,O0 jn m Dh [] M1 (iI x0 x1 x2)=rec1 x0 x1 x2
theorem amt m M1 rec1 (h1:ams m M1 rec1) x0 x1 x2:jD jn m amq [M1] (iI x0 x1 x2)=aje m rec1 x0 x1 x2:=
 tq (g:=fun J=>(jj J 1 4 M1 (iI (IntKind.wrap .i64 (x0+1)) x1 x2) (O0 J m Dh [] M1))) (by simp only[ah,h1];rfl)
theorem amu m M1 rec1 (h1:ams m M1 rec1) x0 x1 x2:jD jn m R7 [M1] (iI x0 x1 x2)=ajf m rec1 x0 x1 x2:=
 tq (g:=fun J=>((idx (Dt.L x1 3) x0).bind fun v0=>
  ((app x2 [v0]).bind fun v1=>
  (jj J 0 5 0 (iI x0 x1 v1) (jD J m amq [M1]))))) (by simp only[ah,amt m M1 rec1 h1];rfl)
abbrev amv (m M6:Nat) (rec6:Q16):Prop:=∀x0 x1 x2,O0 jn m Di [] M6 (iJ x0 x1 x2)=rec6 x0 x1 x2
theorem amw m M6 rec6 (h6:amv m M6 rec6) x0 x1 x2:jD jn m amr [M6] (iJ x0 x1 x2)=ajg m rec6 x0 x1 x2:=
 tq (g:=fun J=>(jj J 1 9 M6 (iJ (IntKind.wrap .i64 (x0+1)) x1 x2) (O0 J m Di [] M6))) (by simp only[ah,h6];rfl)
theorem amx m M6 rec6 (h6:amv m M6 rec6) x0 x1 x2:jD jn m R8 [M6] (iJ x0 x1 x2)=ajh m rec6 x0 x1 x2:=
 tq (g:=fun J=>((idx (Dt.L x1 4) x0).bind fun v2=>
  ((app x2 [(Dt.fld v2 1)]).bind fun v3=>
  (jj J 0 10 0 (iJ x0 x1 v3) (jD J m amr [M6]))))) (by simp only[ah,amw m M6 rec6 h6];rfl)
theorem O1 m x0:jD jn m [1,1,1,1] [] (R9 x0)=NZ m x0:=
 tq (g:=fun J=>some x0) (by rfl)
theorem O3 m:∀M6 x0 x1 x2,O0 jn m Di [] M6 (iJ x0 x1 x2)=BR m M6 x0 x1 x2
 |0,_,_,_=>rfl
 | M6+1,x0,x1,x2=>
   tl (g:=fun J=>(bif (decide (x0<(List.length (Dt.L x1 4):Int))) then
  (jj J 0 11 0 (iJ x0 x1 x2) (jD J m R8 [M6]))
   else
  (jj J 0 12 0 (R9 x2) (jD J m [1,1,1,1] [])))) (by simp only[ah,amx m M6 (BR m M6) (O3 m M6),O1 m];rfl)
theorem amy m x0 x1 x2:jD jn m R6 [] (iJ x0 x1 x2)=aji m x0 x1 x2:=
 tq (g:=fun J=>(jj J 1 9 (Nat.succ m) (iJ x0 x1 x2) (O0 J m Di [] (Nat.succ m)))) (by simp only[ah,O3 m];rfl)
theorem O4 m x0 x1:jD jn m [1,1,1] [] (Sb x0 x1)=GQ m x0 x1:=
 tq (g:=fun J=>(bif ((Dt.I x0 0)==5) then
  (jj J 0 9 0 (iJ 0 x0 x1) (jD J m R6 []))
   else
  (jj J 0 12 0 (R9 x1) (jD J m [1,1,1,1] [])))) (by simp only[ah,amy m,O1 m];rfl)
theorem O5 m:∀M1 x0 x1 x2,O0 jn m Dh [] M1 (iI x0 x1 x2)=BS m M1 x0 x1 x2
 |0,_,_,_=>rfl
 | M1+1,x0,x1,x2=>
   tl (g:=fun J=>(bif (decide (x0<(List.length (Dt.L x1 3):Int))) then
  (jj J 0 6 0 (iI x0 x1 x2) (jD J m R7 [M1]))
   else
  (jj J 0 7 0 (Sb x1 x2) (jD J m [1,1,1] [])))) (by simp only[ah,amu m M1 (BS m M1) (O5 m M1),O4 m];rfl)
theorem amz m x0 x1 x2:jD jn m R5 [] (iI x0 x1 x2)=ajj m x0 x1 x2:=
 tq (g:=fun J=>(jj J 1 4 (Nat.succ m) (iI x0 x1 x2) (O0 J m Dh [] (Nat.succ m)))) (by simp only[ah,O5 m];rfl)
theorem aE2 m a0:jD jn m [] [] ⟨[.dat 30 a0],[],0⟩=zI (m+1) a0:=
 tq (g:=fun J=>(bif ((Dt.I a0 0)==6) then
  (jj J 0 4 0 (iI 0 a0 []) (jD J m R5 []))
   else
  (jj J 0 7 0 (Sb a0 []) (jD J m [1,1,1] [])))) (by simp only[ah,amz m,O4 m];rfl)
def amA:List Nat:=[1,1,1,1,1]
def Sc:List Nat:=[1,1,1,1,0,1]
def Dj:List Nat:=Sc++[0]
def Sd:List Nat:=Dj++[0,1]
def amB:List Nat:=Sd++[1]
noncomputable def rV (J:Q1) (m:Nat):=evAt Tryz.prog env (ct m) J (m+1) 184 34 Tryz.f184 d7
noncomputable def atr (J:Q1) (m:Nat):=loopAt Tryz.prog env (ct m) J (m+1) 184 34 Tryz.f184 d7
noncomputable def iK (x0:Int) (x1:List Dt) (x2 x3:Int):St:=⟨tsOf [(1,.dat 3 (.int x0)),(5,.dat 27 (.lst x1)),(6,.dat 3 (.int x2)),(7,.dat 3 (.int x3))],[],0⟩
noncomputable def amC (x0:Int):St:=⟨tsOf [(6,.dat 3 (.int x0))],[],0⟩
noncomputable def amD (x0:Int) (x1:List Dt):St:=⟨tsOf [(1,.dat 3 (.int x0)),(5,.dat 27 (.lst x1))],[],0⟩
noncomputable def Sg (x0:Int) (x1:List Dt) (x2:Bool):St:=⟨tsOf [(1,.dat 3 (.int x0)),(5,.dat 27 (.lst x1)),(16,.dat 4 (.bool x2))],[],0⟩
abbrev amE (m M3:Nat) (rec3:Q41):Prop:=∀x0 x1 x2 x3,atr jn m Dj [] M3 (iK x0 x1 x2 x3)=rec3 x0 x1 x2 x3
theorem amF m M3 rec3 (h3:amE m M3 rec3) x0 x1 x2 x3:rV jn m amB [M3] (iK x0 x1 x2 x3)=BU m (qX m) rec3 x0 x1 x2 x3:=
 tq (g:=fun J=>(jj J 1 6 M3 (iK x0 x1 x2 (IntKind.wrap .i64 (x3+1))) (atr J m Dj [] M3))) (by simp only[ah,h3];rfl)
theorem amG m M3 rec3 (h3:amE m M3 rec3) x0 x1 x2 x3:rV jn m Sd [M3] (iK x0 x1 x2 x3)=BX m (qX m) rec3 x0 x1 x2 x3:=
 tq (g:=fun J=>((idx x1 x3).bind fun v1=>
  ((qX m v1 (IntKind.wrap .i64 (x0-1))).bind fun r2=>
  (jj J 0 7 0 (iK x0 x1 (bif (decide (x2<r2)) then r2 else x2) x3) (rV J m amB [M3]))))) (by simp only[ah,amF m M3 rec3 h3];rfl)
theorem amH m x0:rV jn m amA [] (amC x0)=BZ m (qX m) x0:=
 tq (g:=fun J=>some (IntKind.wrap .i64 (x0+1))) (by rfl)
theorem O6 m:∀M3 x0 x1 x2 x3,atr jn m Dj [] M3 (iK x0 x1 x2 x3)=Ca m (qX m) M3 x0 x1 x2 x3
 |0,_,_,_,_=>rfl
 | M3+1,x0,x1,x2,x3=>
   tl (g:=fun J=>(bif (decide (x3<(List.length x1:Int))) then
  (jj J 0 8 0 (iK x0 x1 x2 x3) (rV J m Sd [M3]))
   else
  (jj J 0 9 0 (amC x2) (rV J m amA [])))) (by simp only[ah,amG m M3 (Ca m (qX m) M3) (O6 m M3),amH m];rfl)
theorem amI m x0 x1 x2 x3:rV jn m Sc [] (iK x0 x1 x2 x3)=Cb m (qX m) x0 x1 x2 x3:=
 tq (g:=fun J=>(jj J 1 6 (Nat.succ m) (iK x0 x1 x2 x3) (atr J m Dj [] (Nat.succ m)))) (by simp only[ah,O6 m];rfl)
theorem amJ m x0 x1:rV jn m [1,1,1] [] (amD x0 x1)=Cc m (qX m) x0 x1:=
 tq (g:=fun J=>(jj J 0 6 0 (iK x0 x1 0 0) (rV J m Sc []))) (by simp only[ah,amI m];rfl)
theorem amK m x0 x1 x2:rV jn m [1,1,0,1] [] (Sg x0 x1 x2)=uQ m (qX m) x0 x1 x2:=
 tq (g:=fun J=>(bif x2 then
  some 1
   else
  (jj J 0 4 0 (amD x0 x1) (rV J m [1,1,1] [])))) (by simp only[ah,amJ m];rfl)
theorem aE3 m a0 a1:rV jn m [] [] ⟨[.dat 30 a0,.dat 3 (.int a1)],[],0⟩=qX (m+1) a0 a1:=
 tq (g:=fun J=>((zI m a0).bind fun r0=>
  (bif (decide (a1<2)) then
  (jj J 0 3 0 (Sg a1 r0 true) (rV J m [1,1,0,1] []))
  else
  (jj J 0 3 0 (Sg a1 r0 ((List.length r0:Int)==0)) (rV J m [1,1,0,1] []))))) (by simp only[ah,amK m];rfl)
noncomputable def e96 (J:Q1) (m:Nat):=evAt Tryz.prog env (ct m) J (m+1) 139 5 Tryz.f139 d7
theorem aE4 m a0:e96 jn m [] [] ⟨[.dat 30 a0],[],0⟩=vJ (m+1) a0:=
 tq (g:=fun J=>((qX m a0 17).bind fun r0=>
  some r0)) (by rfl)
def amL:List Nat:=[1,1,1,0,1]
def Dk:List Nat:=[1,1,1,0,1,0]
def Si:List Nat:=Dk++[0,1]
def amM:List Nat:=Si++[1]
noncomputable def e108 (J:Q1) (m:Nat):=evAt Tryz.prog env (ct m) J (m+1) 185 32 Tryz.f185 d7
noncomputable def att (J:Q1) (m:Nat):=loopAt Tryz.prog env (ct m) J (m+1) 185 32 Tryz.f185 d7
noncomputable def iL (x0 x1:Int) (x2:List Dt) (x3:Int):St:=⟨tsOf [(1,.dat 3 (.int x0)),(5,.dat 3 (.int x1)),(6,.dat 27 (.lst x2)),(7,.dat 3 (.int x3))],[],0⟩
noncomputable def Sj (x0:Int):St:=⟨tsOf [(5,.dat 3 (.int x0))],[],0⟩
abbrev amN (m M1:Nat) (rec1:Q42):Prop:=∀x0 x1 x2 x3,att jn m Dk [] M1 (iL x0 x1 x2 x3)=rec1 x0 x1 x2 x3
theorem amO m M1 rec1 (h1:amN m M1 rec1) x0 x1 x2 x3:e108 jn m amM [M1] (iL x0 x1 x2 x3)=ajk m (zY m) rec1 x0 x1 x2 x3:=
 tq (g:=fun J=>(jj J 1 4 M1 (iL x0 x1 x2 (IntKind.wrap .i64 (x3+1))) (att J m Dk [] M1))) (by simp only[ah,h1];rfl)
theorem amP m M1 rec1 (h1:amN m M1 rec1) x0 x1 x2 x3:e108 jn m Si [M1] (iL x0 x1 x2 x3)=ajl m (zY m) rec1 x0 x1 x2 x3:=
 tq (g:=fun J=>((idx x2 x3).bind fun v1=>
  ((zY m v1 (IntKind.wrap .i64 (x0-x1))).bind fun r2=>
  (jj J 0 5 0 (iL x0 (IntKind.wrap .i64 (x1+r2)) x2 x3) (e108 J m amM [M1]))))) (by simp only[ah,amO m M1 rec1 h1];rfl)
theorem amQ m x0:e108 jn m [1,1,1,1] [] (Sj x0)=GR m (zY m) x0:=
 tq (g:=fun J=>some x0) (by rfl)
theorem O7 m:∀M1 x0 x1 x2 x3,att jn m Dk [] M1 (iL x0 x1 x2 x3)=GU m (zY m) M1 x0 x1 x2 x3
 |0,_,_,_,_=>rfl
 | M1+1,x0,x1,x2,x3=>
   tl (g:=fun J=>(bif (decide (x3<(List.length x2:Int))) then
  (bif (decide (x1<x0)) then
  (jj J 0 6 0 (iL x0 x1 x2 x3) (e108 J m Si [M1]))
  else
  (jj J 0 7 0 (Sj x1) (e108 J m [1,1,1,1] [])))
   else
  (jj J 0 7 0 (Sj x1) (e108 J m [1,1,1,1] [])))) (by simp only[ah,amP m M1 (GU m (zY m) M1) (O7 m M1),amQ m];rfl)
theorem amR m x0 x1 x2 x3:e108 jn m amL [] (iL x0 x1 x2 x3)=VK m (zY m) x0 x1 x2 x3:=
 tq (g:=fun J=>(jj J 1 4 (Nat.succ m) (iL x0 x1 x2 x3) (att J m Dk [] (Nat.succ m)))) (by simp only[ah,O7 m];rfl)
theorem aE5 m a0 a1:e108 jn m [] [] ⟨[.dat 30 a0,.dat 3 (.int a1)],[],0⟩=zY (m+1) a0 a1:=
 tq (g:=fun J=>((zI m a0).bind fun r0=>
  (jj J 0 4 0 (iL a1 1 r0 0) (e108 J m amL [])))) (by simp only[ah,amR m];rfl)
noncomputable def e97 (J:Q1) (m:Nat):=evAt Tryz.prog env (ct m) J (m+1) 140 5 Tryz.f140 d7
theorem aE6 m a0:e97 jn m [] [] ⟨[.dat 30 a0],[],0⟩=vK (m+1) a0:=
 tq (g:=fun J=>((zY m a0 1025).bind fun r0=>
  some r0)) (by rfl)
def Jk:List Nat:=[1,1,0,1,0]
def Jl:List Nat:=[1,1,0,1,0,0,1]
def amS:List Nat:=Jl++[1]
def Sk:List Nat:=Jl++[0,0,1]
noncomputable def rW (J:Q0) (m:Nat):=evAt Tryz.prog env (ct m) J (m+1) 216 33 Tryz.f216 d9
noncomputable def atu (J:Q0) (m:Nat):=loopAt Tryz.prog env (ct m) J (m+1) 216 33 Tryz.f216 d9
noncomputable def iM (x0:ByteArray) (x1 x2 x3:Int):St:=⟨tsOf [(0,.dat 9 (.str x0)),(1,.dat 3 (.int x1)),(2,.dat 3 (.int x2)),(7,.dat 3 (.int x3))],[],0⟩
noncomputable def Sl (x0:ByteArray) (x1 x2 x3:Int) (x4:Bool):St:=⟨tsOf [(0,.dat 9 (.str x0)),(1,.dat 3 (.int x1)),(2,.dat 3 (.int x2)),(7,.dat 3 (.int x3)),(32,.dat 4 (.bool x4))],[],0⟩
noncomputable def amT:St:=⟨tsOf [],[],0⟩
noncomputable def amU (x0:ByteArray) (x1 x2:Int):St:=⟨tsOf [(0,.dat 9 (.str x0)),(1,.dat 3 (.int x1)),(2,.dat 3 (.int x2))],[],0⟩
abbrev Sm (m M2:Nat) (rec2:Q33):Prop:=∀x0 x1 x2 x3,atu jn m Jk [] M2 (iM x0 x1 x2 x3)=rec2 x0 x1 x2 x3
theorem amV m M2 rec2 (h2:Sm m M2 rec2) x0 x1 x2 x3:rW jn m amS [M2] (iM x0 x1 x2 x3)=N7 m rec2 x0 x1 x2 x3:=
 tq (g:=fun J=>(jj J 1 4 M2 (iM x0 x1 x2 (IntKind.wrap .i64 (x3+1))) (atu J m Jk [] M2))) (by simp only[ah,h2];rfl)
theorem amW m M2 rec2 (h2:Sm m M2 rec2) x0 x1 x2 x3 x4:rW jn m Sk [M2] (Sl x0 x1 x2 x3 x4)=GV m rec2 x0 x1 x2 x3 x4:=
 tq (g:=fun J=>(bif x4 then
  some false
   else
  (jj J 0 5 0 (iM x0 x1 x2 x3) (rW J m amS [M2])))) (by simp only[ah,amV m M2 rec2 h2];rfl)
theorem amX m M2 rec2 (h2:Sm m M2 rec2) x0 x1 x2 x3:rW jn m Jl [M2] (iM x0 x1 x2 x3)=N8 m rec2 x0 x1 x2 x3:=
 tq (g:=fun J=>((idxS x0 (IntKind.wrap .i64 (x1+x3))).bind fun v0=>
  (bif (decide (v0<128)) then
  (jj J 0 7 0 (Sl x0 x1 x2 x3 true) (rW J m Sk [M2]))
  else
  ((idxS x0 (IntKind.wrap .i64 (x1+x3))).bind fun v1=>
  (jj J 0 7 0 (Sl x0 x1 x2 x3 (decide (191<v1))) (rW J m Sk [M2])))))) (by simp only[ah,amW m M2 rec2 h2];rfl)
theorem amY m:rW jn m [1,1,1] [] amT=N9 m:=
 tq (g:=fun J=>some true) (by rfl)
theorem O8 m:∀M2 x0 x1 x2 x3,atu jn m Jk [] M2 (iM x0 x1 x2 x3)=GX m M2 x0 x1 x2 x3
 |0,_,_,_,_=>rfl
 | M2+1,x0,x1,x2,x3=>
   tl (g:=fun J=>(bif (decide (x3<x2)) then
  (jj J 0 6 0 (iM x0 x1 x2 x3) (rW J m Jl [M2]))
   else
  (jj J 0 8 0 amT (rW J m [1,1,1] [])))) (by simp only[ah,amX m M2 (GX m M2) (O8 m M2),amY m];rfl)
theorem amZ m x0 x1 x2 x3:rW jn m [1,1,0,1] [] (iM x0 x1 x2 x3)=Oa m x0 x1 x2 x3:=
 tq (g:=fun J=>(jj J 1 4 (Nat.succ m) (iM x0 x1 x2 x3) (atu J m Jk [] (Nat.succ m)))) (by simp only[ah,O8 m];rfl)
theorem am0 m x0 x1 x2:rW jn m [1,1] [] (amU x0 x1 x2)=Oc m x0 x1 x2:=
 tq (g:=fun J=>(jj J 0 4 0 (iM x0 x1 x2 0) (rW J m [1,1,0,1] []))) (by simp only[ah,amZ m];rfl)
theorem aE7 m a0 a1 a2:rW jn m [] [] ⟨[.dat 9 (.str a0),.dat 3 (.int a1),.dat 3 (.int a2)],[],0⟩=zX (m+1) a0 a1 a2:=
 tq (g:=fun J=>(bif (decide ((ByteArray.size a0:Int)<(IntKind.wrap .i64 (a1+a2)))) then
  some false
   else
  (jj J 0 3 0 (amU a0 a1 a2) (rW J m [1,1] [])))) (by simp only[ah,am0 m];rfl)
def Jm:List Nat:=[1,0,1,0,0,1]
def tZ:List Nat:=Jm++[0,1,1,1]
def Jo:List Nat:=tZ++[1]
def am1:List Nat:=Jo++[1]
def bG:List Nat:=Jo++[0,1]
def Jp:List Nat:=Jm++[0,1,1,0,0,1,1,1]
def Jq:List Nat:=Jp++[1,1]
def Sn:List Nat:=Jq++[1,1]
noncomputable def e109 (J:Q0) (m:Nat):=evAt Tryz.prog env (ct m) J (m+1) 186 89 Tryz.f186 d9
noncomputable def atv (J:Q0) (m:Nat):=loopAt Tryz.prog env (ct m) J (m+1) 186 89 Tryz.f186 d9
noncomputable def am2 (x0:ByteArray) (x1 x2:Int):St:=⟨tsOf [(0,.dat 9 (.str x0)),(3,.dat 3 (.int x1)),(5,.dat 3 (.int x2))],[],0⟩
noncomputable def bH (x0:ByteArray) (x1 x2:Int) (x3:Bool):St:=⟨tsOf [(0,.dat 9 (.str x0)),(3,.dat 3 (.int x1)),(5,.dat 3 (.int x2)),(84,.dat 4 (.bool x3))],[],0⟩
noncomputable def pQ (x0:ByteArray) (x1 x2 x3:Int):St:=⟨tsOf [(0,.dat 9 (.str x0)),(3,.dat 3 (.int x1)),(4,.dat 5 (.int x2)),(5,.dat 3 (.int x3))],[],0⟩
noncomputable def Sq (x0:ByteArray) (x1 x2:Int) (x3:Bool):St:=⟨tsOf [(0,.dat 9 (.str x0)),(3,.dat 3 (.int x1)),(4,.dat 5 (.int x2)),(30,.dat 4 (.bool x3))],[],0⟩
noncomputable def Sr (x0:ByteArray) (x1 x2:Int) (x3:Bool):St:=⟨tsOf [(0,.dat 9 (.str x0)),(3,.dat 3 (.int x1)),(4,.dat 5 (.int x2)),(23,.dat 4 (.bool x3))],[],0⟩
noncomputable def Sv (x0:ByteArray) (x1 x2:Int) (x3:Bool):St:=⟨tsOf [(0,.dat 9 (.str x0)),(3,.dat 3 (.int x1)),(4,.dat 5 (.int x2)),(16,.dat 4 (.bool x3))],[],0⟩
noncomputable def kZ (x0:ByteArray) (x1:Int):St:=⟨tsOf [(0,.dat 9 (.str x0)),(3,.dat 3 (.int x1))],[],0⟩
noncomputable def Wq:St:=⟨tsOf [],[],0⟩
abbrev lg (m M1:Nat) (rec1:Q15):Prop:=∀x0 x1,atv jn m [1,0,1,0] [] M1 (kZ x0 x1)=rec1 x0 x1
theorem am3 m M1 rec1 (h1:lg m M1 rec1) x0 x1 x2:e109 jn m am1 [M1] (am2 x0 x1 x2)=ajm m rec1 x0 x1 x2:=
 tq (g:=fun J=>(jj J 1 2 M1 (kZ x0 (IntKind.wrap .i64 ((IntKind.wrap .i64 (x1+x2))+1))) (atv J m [1,0,1,0] [] M1))) (by simp only[ah,h1];rfl)
theorem am4 m M1 rec1 (h1:lg m M1 rec1) x0 x1 x2 x3:e109 jn m bG [M1] (bH x0 x1 x2 x3)=cZ m rec1 x0 x1 x2 x3:=
 tq (g:=fun J=>(bif x3 then
  some false
   else
  (jj J 0 17 0 (am2 x0 x1 x2) (e109 J m am1 [M1])))) (by simp only[ah,am3 m M1 rec1 h1];rfl)
theorem am5 m M1 rec1 (h1:lg m M1 rec1) x0 x1 x2 x3:e109 jn m Jo [M1] (pQ x0 x1 x2 x3)=VL m rec1 x0 x1 x2 x3:=
 tq (g:=fun J=>(bif (x2==224) then
  ((idxS x0 (IntKind.wrap .i64 (x1+1))).bind fun v2=>
  (bif (decide (v2<160)) then
  (jj J 0 16 0 (bH x0 x1 x3 true) (e109 J m bG [M1]))
  else
  (bif (x2==237) then
  ((idxS x0 (IntKind.wrap .i64 (x1+1))).bind fun v3=>
  (bif (decide (159<v3)) then
  (jj J 0 16 0 (bH x0 x1 x3 true) (e109 J m bG [M1]))
  else
  (bif (x2==240) then
  ((idxS x0 (IntKind.wrap .i64 (x1+1))).bind fun v4=>
  (bif (decide (v4<144)) then
  (jj J 0 16 0 (bH x0 x1 x3 true) (e109 J m bG [M1]))
  else
  (bif (x2==244) then
  ((idxS x0 (IntKind.wrap .i64 (x1+1))).bind fun v5=>
  (jj J 0 16 0 (bH x0 x1 x3 (decide (143<v5))) (e109 J m bG [M1])))
  else
  (jj J 0 16 0 (bH x0 x1 x3 false) (e109 J m bG [M1])))))
  else
  (bif (x2==244) then
  ((idxS x0 (IntKind.wrap .i64 (x1+1))).bind fun v6=>
  (jj J 0 16 0 (bH x0 x1 x3 (decide (143<v6))) (e109 J m bG [M1])))
  else
  (jj J 0 16 0 (bH x0 x1 x3 false) (e109 J m bG [M1]))))))
  else
  (bif (x2==240) then
  ((idxS x0 (IntKind.wrap .i64 (x1+1))).bind fun v7=>
  (bif (decide (v7<144)) then
  (jj J 0 16 0 (bH x0 x1 x3 true) (e109 J m bG [M1]))
  else
  (bif (x2==244) then
  ((idxS x0 (IntKind.wrap .i64 (x1+1))).bind fun v8=>
  (jj J 0 16 0 (bH x0 x1 x3 (decide (143<v8))) (e109 J m bG [M1])))
  else
  (jj J 0 16 0 (bH x0 x1 x3 false) (e109 J m bG [M1])))))
  else
  (bif (x2==244) then
  ((idxS x0 (IntKind.wrap .i64 (x1+1))).bind fun v9=>
  (jj J 0 16 0 (bH x0 x1 x3 (decide (143<v9))) (e109 J m bG [M1])))
  else
  (jj J 0 16 0 (bH x0 x1 x3 false) (e109 J m bG [M1])))))))
   else
  (bif (x2==237) then
  ((idxS x0 (IntKind.wrap .i64 (x1+1))).bind fun v10=>
  (bif (decide (159<v10)) then
  (jj J 0 16 0 (bH x0 x1 x3 true) (e109 J m bG [M1]))
  else
  (bif (x2==240) then
  ((idxS x0 (IntKind.wrap .i64 (x1+1))).bind fun v11=>
  (bif (decide (v11<144)) then
  (jj J 0 16 0 (bH x0 x1 x3 true) (e109 J m bG [M1]))
  else
  (bif (x2==244) then
  ((idxS x0 (IntKind.wrap .i64 (x1+1))).bind fun v12=>
  (jj J 0 16 0 (bH x0 x1 x3 (decide (143<v12))) (e109 J m bG [M1])))
  else
  (jj J 0 16 0 (bH x0 x1 x3 false) (e109 J m bG [M1])))))
  else
  (bif (x2==244) then
  ((idxS x0 (IntKind.wrap .i64 (x1+1))).bind fun v13=>
  (jj J 0 16 0 (bH x0 x1 x3 (decide (143<v13))) (e109 J m bG [M1])))
  else
  (jj J 0 16 0 (bH x0 x1 x3 false) (e109 J m bG [M1]))))))
  else
  (bif (x2==240) then
  ((idxS x0 (IntKind.wrap .i64 (x1+1))).bind fun v14=>
  (bif (decide (v14<144)) then
  (jj J 0 16 0 (bH x0 x1 x3 true) (e109 J m bG [M1]))
  else
  (bif (x2==244) then
  ((idxS x0 (IntKind.wrap .i64 (x1+1))).bind fun v15=>
  (jj J 0 16 0 (bH x0 x1 x3 (decide (143<v15))) (e109 J m bG [M1])))
  else
  (jj J 0 16 0 (bH x0 x1 x3 false) (e109 J m bG [M1])))))
  else
  (bif (x2==244) then
  ((idxS x0 (IntKind.wrap .i64 (x1+1))).bind fun v16=>
  (jj J 0 16 0 (bH x0 x1 x3 (decide (143<v16))) (e109 J m bG [M1])))
  else
  (jj J 0 16 0 (bH x0 x1 x3 false) (e109 J m bG [M1]))))))) (by simp only[ah,am4 m M1 rec1 h1];rfl)
theorem rX m M1 rec1 (h1:lg m M1 rec1) x0 x1 x2 x3:e109 jn m tZ [M1] (pQ x0 x1 x2 x3)=Ce m rec1 x0 x1 x2 x3:=
 tq (g:=fun J=>((zX m x0 (IntKind.wrap .i64 (x1+1)) x3).bind fun r1=>
  (bif (Bool.not r1) then
  some false
  else
  (jj J 0 15 0 (pQ x0 x1 x2 x3) (e109 J m Jo [M1]))))) (by simp only[ah,am5 m M1 rec1 h1];rfl)
theorem am6 m M1 rec1 (h1:lg m M1 rec1) x0 x1 x2 x3:e109 jn m Sn [M1] (Sq x0 x1 x2 x3)=VN m rec1 x0 x1 x2 x3:=
 tq (g:=fun J=>(bif x3 then
  (jj J 0 13 0 (pQ x0 x1 x2 3) (e109 J m tZ [M1]))
   else
  some false)) (by simp only[ah,rX m M1 rec1 h1];rfl)
theorem am7 m M1 rec1 (h1:lg m M1 rec1) x0 x1 x2 x3:e109 jn m Jq [M1] (Sr x0 x1 x2 x3)=VO m rec1 x0 x1 x2 x3:=
 tq (g:=fun J=>(bif x3 then
  (jj J 0 13 0 (pQ x0 x1 x2 2) (e109 J m tZ [M1]))
   else
  (bif (decide (240≤x2)) then
  (jj J 0 12 0 (Sq x0 x1 x2 (decide (x2≤244))) (e109 J m Sn [M1]))
  else
  (jj J 0 12 0 (Sq x0 x1 x2 false) (e109 J m Sn [M1]))))) (by simp only[ah,rX m M1 rec1 h1,am6 m M1 rec1 h1];rfl)
theorem am8 m M1 rec1 (h1:lg m M1 rec1) x0 x1 x2 x3:e109 jn m Jp [M1] (Sv x0 x1 x2 x3)=VP m rec1 x0 x1 x2 x3:=
 tq (g:=fun J=>(bif x3 then
  (jj J 0 13 0 (pQ x0 x1 x2 1) (e109 J m tZ [M1]))
   else
  (bif (decide (224≤x2)) then
  (jj J 0 10 0 (Sr x0 x1 x2 (decide (x2≤239))) (e109 J m Jq [M1]))
  else
  (jj J 0 10 0 (Sr x0 x1 x2 false) (e109 J m Jq [M1]))))) (by simp only[ah,rX m M1 rec1 h1,am7 m M1 rec1 h1];rfl)
theorem am9 m M1 rec1 (h1:lg m M1 rec1) x0 x1:e109 jn m Jm [M1] (kZ x0 x1)=VQ m rec1 x0 x1:=
 tq (g:=fun J=>((idxS x0 x1).bind fun v0=>
  (bif (decide (v0<128)) then
  (jj J 0 13 0 (pQ x0 x1 v0 0) (e109 J m tZ [M1]))
  else
  (bif (decide (194≤v0)) then
  (jj J 0 8 0 (Sv x0 x1 v0 (decide (v0≤223))) (e109 J m Jp [M1]))
  else
  (jj J 0 8 0 (Sv x0 x1 v0 false) (e109 J m Jp [M1])))))) (by simp only[ah,rX m M1 rec1 h1,am8 m M1 rec1 h1];rfl)
theorem Zy m:e109 jn m [1,1] [] Wq=Rq m:=
 tq (g:=fun J=>some true) (by rfl)
theorem O9 m:∀M1 x0 x1,atv jn m [1,0,1,0] [] M1 (kZ x0 x1)=Cg m M1 x0 x1
 |0,_,_=>rfl
 | M1+1,x0,x1=>
   tl (g:=fun J=>(bif (decide (x1<(ByteArray.size x0:Int))) then
  (jj J 0 3 0 (kZ x0 x1) (e109 J m Jm [M1]))
   else
  (jj J 0 18 0 Wq (e109 J m [1,1] [])))) (by simp only[ah,am9 m M1 (Cg m M1) (O9 m M1),Zy m];rfl)
theorem ana m x0 x1:e109 jn m [1,0,1] [] (kZ x0 x1)=awv m x0 x1:=
 tq (g:=fun J=>(jj J 1 2 (Nat.succ m) (kZ x0 x1) (atv J m [1,0,1,0] [] (Nat.succ m)))) (by simp only[ah,O9 m];rfl)
theorem aE8 m a0:e109 jn m [] [] ⟨[.dat 9 (.str a0)],[],0⟩=qZ (m+1) a0:=
 tq (g:=fun J=>(jj J 0 2 0 (kZ a0 0) (e109 J m [1,0,1] []))) (by simp only[ah,ana m];rfl)
def Jr:List Nat:=[1,1,0,1,0]
def Js:List Nat:=[1,1,0,1,0,0,1]
def anb:List Nat:=Js++[1]
def Sw:List Nat:=Js++[0,0,1]
noncomputable def e115 (J:Q0) (m:Nat):=evAt Tryz.prog env (ct m) J (m+1) 217 28 Tryz.f217 d9
noncomputable def atw (J:Q0) (m:Nat):=loopAt Tryz.prog env (ct m) J (m+1) 217 28 Tryz.f217 d9
noncomputable def iN (x0:ByteArray) (x1:Int):St:=⟨tsOf [(0,.dat 9 (.str x0)),(3,.dat 3 (.int x1))],[],0⟩
noncomputable def Sy (x0:ByteArray) (x1:Int) (x2:Bool):St:=⟨tsOf [(0,.dat 9 (.str x0)),(3,.dat 3 (.int x1)),(27,.dat 4 (.bool x2))],[],0⟩
noncomputable def anc:St:=⟨tsOf [],[],0⟩
noncomputable def ane (x0:ByteArray):St:=⟨tsOf [(0,.dat 9 (.str x0))],[],0⟩
noncomputable def Sz (x0:ByteArray) (x1:Bool):St:=⟨tsOf [(0,.dat 9 (.str x0)),(11,.dat 4 (.bool x1))],[],0⟩
abbrev SA (m M3:Nat) (rec3:Q15):Prop:=∀x0 x1,atw jn m Jr [] M3 (iN x0 x1)=rec3 x0 x1
theorem anf m M3 rec3 (h3:SA m M3 rec3) x0 x1:e115 jn m anb [M3] (iN x0 x1)=Ch m rec3 x0 x1:=
 tq (g:=fun J=>(jj J 1 4 M3 (iN x0 (IntKind.wrap .i64 (x1+1))) (atw J m Jr [] M3))) (by simp only[ah,h3];rfl)
theorem ang m M3 rec3 (h3:SA m M3 rec3) x0 x1 x2:e115 jn m Sw [M3] (Sy x0 x1 x2)=uR m rec3 x0 x1 x2:=
 tq (g:=fun J=>(bif x2 then
  some false
   else
  (jj J 0 5 0 (iN x0 x1) (e115 J m anb [M3])))) (by simp only[ah,anf m M3 rec3 h3];rfl)
theorem anh m M3 rec3 (h3:SA m M3 rec3) x0 x1:e115 jn m Js [M3] (iN x0 x1)=Ci m rec3 x0 x1:=
 tq (g:=fun J=>((idxS x0 x1).bind fun v0=>
  (bif (decide (v0<32)) then
  (jj J 0 7 0 (Sy x0 x1 true) (e115 J m Sw [M3]))
  else
  ((idxS x0 x1).bind fun v1=>
  (jj J 0 7 0 (Sy x0 x1 (decide (126<v1))) (e115 J m Sw [M3])))))) (by simp only[ah,ang m M3 rec3 h3];rfl)
theorem ani m:e115 jn m [1,1,1] [] anc=Cj m:=
 tq (g:=fun J=>some true) (by rfl)
theorem Pb m:∀M3 x0 x1,atw jn m Jr [] M3 (iN x0 x1)=Ck m M3 x0 x1
 |0,_,_=>rfl
 | M3+1,x0,x1=>
   tl (g:=fun J=>(bif (decide (x1<(ByteArray.size x0:Int))) then
  (jj J 0 6 0 (iN x0 x1) (e115 J m Js [M3]))
   else
  (jj J 0 8 0 anc (e115 J m [1,1,1] [])))) (by simp only[ah,anh m M3 (Ck m M3) (Pb m M3),ani m];rfl)
theorem anj m x0 x1:e115 jn m [1,1,0,1] [] (iN x0 x1)=Cm m x0 x1:=
 tq (g:=fun J=>(jj J 1 4 (Nat.succ m) (iN x0 x1) (atw J m Jr [] (Nat.succ m)))) (by simp only[ah,Pb m];rfl)
theorem ank m x0:e115 jn m [1,1] [] (ane x0)=Co m x0:=
 tq (g:=fun J=>(jj J 0 4 0 (iN x0 0) (e115 J m [1,1,0,1] []))) (by simp only[ah,anj m];rfl)
theorem anl m x0 x1:e115 jn m [1,0,1] [] (Sz x0 x1)=uS m x0 x1:=
 tq (g:=fun J=>(bif x1 then
  some false
   else
  (jj J 0 3 0 (ane x0) (e115 J m [1,1] [])))) (by simp only[ah,ank m];rfl)
theorem aE9 m a0:e115 jn m [] [] ⟨[.dat 9 (.str a0)],[],0⟩=zK (m+1) a0:=
 tq (g:=fun J=>(bif (decide ((ByteArray.size a0:Int)<1)) then
  (jj J 0 2 0 (Sz a0 true) (e115 J m [1,0,1] []))
   else
  (jj J 0 2 0 (Sz a0 (decide (128<(ByteArray.size a0:Int)))) (e115 J m [1,0,1] [])))) (by simp only[ah,anl m];rfl)
def axg:List Nat:=[1,1,1,1,1]
def Ws:List Nat:=[1,1,1,1,1,1]
def jU:List Nat:=[1,1,1,1,0,1]
def axh:List Nat:=Ws++[1]
def anm:List Nat:=Ws++[0,1]
def Pf:List Nat:=anm++[0]
def ano:List Nat:=Pf++[0,1]
def axi:List Nat:=ano++[1]
noncomputable def e98 (J:Q0) (m:Nat):=evAt Tryz.prog env (ct m) J (m+1) 141 138 Tryz.f141 d9
noncomputable def l98 (J:Q0) (m:Nat):=loopAt Tryz.prog env (ct m) J (m+1) 141 138 Tryz.f141 d9
noncomputable def iO (x0:Bool) (x1:Int) (x2:Dt):St:=⟨tsOf [(1,.dat 4 (.bool x0)),(2,.ptr 0 [] 0),(7,.dat 3 (.int x1))],[.box 30 (.dat 30 x2)],0⟩
noncomputable def lq (x0:Bool) (x1:Dt):St:=⟨tsOf [(1,.dat 4 (.bool x0)),(2,.ptr 0 [] 0)],[.box 30 (.dat 30 x1)],0⟩
noncomputable def jV (x0 x1:Bool) (x2:Dt):St:=⟨tsOf [(1,.dat 4 (.bool x0)),(2,.ptr 0 [] 0),(79,.dat 4 (.bool x1))],[.box 30 (.dat 30 x2)],0⟩
noncomputable def Wt (x0 x1 x2:Bool) (x3:Dt):St:=⟨tsOf [(1,.dat 4 (.bool x0)),(2,.ptr 0 [] 0),(5,.dat 4 (.bool x1)),(6,.dat 4 (.bool x2))],[.box 30 (.dat 30 x3)],0⟩
noncomputable def Wu (x0 x1:Bool) (x2:Dt):St:=⟨tsOf [(1,.dat 4 (.bool x0)),(2,.ptr 0 [] 0),(5,.dat 4 (.bool x1))],[.box 30 (.dat 30 x2)],0⟩
noncomputable def HV (x0 x1:Bool) (x2:Dt):St:=⟨tsOf [(1,.dat 4 (.bool x0)),(2,.ptr 0 [] 0),(27,.dat 4 (.bool x1))],[.box 30 (.dat 30 x2)],0⟩
abbrev axj (m M8:Nat) (rec8:Q19):Prop:=∀x0 x1 x2,l98 jn m Pf [] M8 (iO x0 x1 x2)=rec8 x0 x1 x2
theorem Zz m M8 rec8 (h8:axj m M8 rec8) x0 x1 x2:e98 jn m axi [M8] (iO x0 x1 x2)=Rs m (qE m) (qG m) rec8 x0 x1 x2:=
 tq (g:=fun J=>(jj J 1 19 M8 (iO x0 (IntKind.wrap .i64 (x1+1)) x2) (l98 J m Pf [] M8))) (by simp only[ah,h8];rfl)
theorem anp m M8 rec8 (h8:axj m M8 rec8) x0 x1 x2:e98 jn m ano [M8] (iO x0 x1 x2)=ajn m (qE m) (qG m) rec8 x0 x1 x2:=
 tq (g:=fun J=>((idx (Dt.L x2 3) x1).bind fun v1=>
  ((qE m v1 x0).bind fun r2=>
  (bif (Bool.not r2) then
  some false
  else
  (jj J 0 20 0 (iO x0 x1 x2) (e98 J m axi [M8])))))) (by simp only[ah,Zz m M8 rec8 h8];rfl)
theorem ZA m x0 x1:e98 jn m axh [] (lq x0 x1)=Rt m (qE m) (qG m) x0 x1:=
 tq (g:=fun J=>((qG m x1 x0).bind fun r3=>
  some r3)) (by rfl)
theorem Pg m:∀M8 x0 x1 x2,l98 jn m Pf [] M8 (iO x0 x1 x2)=GY m (qE m) (qG m) M8 x0 x1 x2
 |0,_,_,_=>rfl
 | M8+1,x0,x1,x2=>
   tl (g:=fun J=>(bif (decide (x1<(List.length (Dt.L x2 3):Int))) then
  (jj J 0 21 0 (iO x0 x1 x2) (e98 J m ano [M8]))
   else
  (jj J 0 23 0 (lq x0 x2) (e98 J m axh [])))) (by simp only[ah,anp m M8 (GY m (qE m) (qG m) M8) (Pg m M8),ZA m];rfl)
theorem anq m x0 x1 x2:e98 jn m anm [] (iO x0 x1 x2)=aww m (qE m) (qG m) x0 x1 x2:=
 tq (g:=fun J=>(jj J 1 19 (Nat.succ m) (iO x0 x1 x2) (l98 J m Pf [] (Nat.succ m)))) (by simp only[ah,Pg m];rfl)
theorem anr m x0 x1:e98 jn m Ws [] (lq x0 x1)=ajo m (qE m) (qG m) x0 x1:=
 tq (g:=fun J=>(jj J 0 19 0 (iO x0 0 x1) (e98 J m anm []))) (by simp only[ah,anq m];rfl)
theorem ant m x0 x1:e98 jn m axg [] (lq x0 x1)=Od m (qE m) (qG m) x0 x1:=
 tq (g:=fun J=>(bif ((Dt.I x1 0)==9) then
  (bif ((Dt.I x1 1)==0) then
  some true
  else
  some ((Dt.I x1 1)==1))
   else
  (bif ((Dt.I x1 0)==10) then
  some (decide (0≤(Dt.I x1 1)))
  else
  (bif ((Dt.I x1 0)==4) then
  (bif (decide ((ByteArray.size (Dt.S x1 2):Int)≤4096)) then
  ((qZ m (Dt.S x1 2)).bind fun r0=>
  some r0)
  else
  some false)
  else
  (bif ((Dt.I x1 0)==7) then
  some (decide ((ByteArray.size (Dt.S x1 2):Int)≤4096))
  else
  (bif ((Dt.I x1 0)==8) then
  some ((ByteArray.size (Dt.S x1 2):Int)==12)
  else
  (jj J 0 18 0 (lq x0 x1) (e98 J m Ws [])))))))) (by simp only[ah,anr m];rfl)
theorem anu m x0 x1 x2:e98 jn m jU [] (jV x0 x1 x2)=jm m (qE m) (qG m) x0 x1 x2:=
 tq (g:=fun J=>(bif x1 then
  some false
   else
  (jj J 0 7 0 (lq x0 x2) (e98 J m axg [])))) (by simp only[ah,ant m];rfl)
theorem anv m x0 x1 x2 x3:e98 jn m [1,1,1,1] [] (Wt x0 x1 x2 x3)=Cq m (qE m) (qG m) x0 x1 x2 x3:=
 tq (g:=fun J=>(bif (Bool.not x1) then
  (bif (Bool.not ((ByteArray.toList (Dt.S x3 2))==[])) then
  (jj J 0 6 0 (jV x0 true x3) (e98 J m jU []))
  else
  (bif (Bool.not x2) then
  (bif ((Dt.I x3 1) !=0) then
  (jj J 0 6 0 (jV x0 true x3) (e98 J m jU []))
  else
  (bif (decide ((Dt.I x3 0)<1)) then
  (jj J 0 6 0 (jV x0 true x3) (e98 J m jU []))
  else
  (jj J 0 6 0 (jV x0 (decide (11<(Dt.I x3 0))) x3) (e98 J m jU []))))
  else
  (bif (decide ((Dt.I x3 0)<1)) then
  (jj J 0 6 0 (jV x0 true x3) (e98 J m jU []))
  else
  (jj J 0 6 0 (jV x0 (decide (11<(Dt.I x3 0))) x3) (e98 J m jU [])))))
   else
  (bif (Bool.not x2) then
  (bif ((Dt.I x3 1) !=0) then
  (jj J 0 6 0 (jV x0 true x3) (e98 J m jU []))
  else
  (bif (decide ((Dt.I x3 0)<1)) then
  (jj J 0 6 0 (jV x0 true x3) (e98 J m jU []))
  else
  (jj J 0 6 0 (jV x0 (decide (11<(Dt.I x3 0))) x3) (e98 J m jU []))))
  else
  (bif (decide ((Dt.I x3 0)<1)) then
  (jj J 0 6 0 (jV x0 true x3) (e98 J m jU []))
  else
  (jj J 0 6 0 (jV x0 (decide (11<(Dt.I x3 0))) x3) (e98 J m jU [])))))) (by simp only[ah,anu m];rfl)
theorem anw m x0 x1 x2:e98 jn m [1,1,1] [] (Wu x0 x1 x2)=Cr m (qE m) (qG m) x0 x1 x2:=
 tq (g:=fun J=>(bif ((Dt.I x2 0)==3) then
  (jj J 0 5 0 (Wt x0 x1 true x2) (e98 J m [1,1,1,1] []))
   else
  (bif ((Dt.I x2 0)==9) then
  (jj J 0 5 0 (Wt x0 x1 true x2) (e98 J m [1,1,1,1] []))
  else
  (jj J 0 5 0 (Wt x0 x1 ((Dt.I x2 0)==10) x2) (e98 J m [1,1,1,1] []))))) (by simp only[ah,anv m];rfl)
theorem anx m x0 x1:e98 jn m [1,1] [] (lq x0 x1)=Oe m (qE m) (qG m) x0 x1:=
 tq (g:=fun J=>(bif ((Dt.I x1 0)==4) then
  (jj J 0 4 0 (Wu x0 true x1) (e98 J m [1,1,1] []))
   else
  (bif ((Dt.I x1 0)==7) then
  (jj J 0 4 0 (Wu x0 true x1) (e98 J m [1,1,1] []))
  else
  (jj J 0 4 0 (Wu x0 ((Dt.I x1 0)==8) x1) (e98 J m [1,1,1] []))))) (by simp only[ah,anw m];rfl)
theorem anz m x0 x1 x2:e98 jn m [1,0,1] [] (HV x0 x1 x2)=Ct m (qE m) (qG m) x0 x1 x2:=
 tq (g:=fun J=>(bif x1 then
  some false
   else
  (jj J 0 3 0 (lq x0 x2) (e98 J m [1,1] [])))) (by simp only[ah,anx m];rfl)
theorem aFa m a0 a1:e98 jn m [] [] ⟨[.dat 30 a0,.dat 4 (.bool a1)],[],0⟩=qE (m+1) a0 a1:=
 tq (g:=fun J=>(bif ((Dt.I a0 0) !=6) then
  (bif (decide (0<(List.length (Dt.L a0 3):Int))) then
  (jj J 0 2 0 (HV a1 true a0) (e98 J m [1,0,1] []))
  else
  (bif ((Dt.I a0 0) !=5) then
  (jj J 0 2 0 (HV a1 (decide (0<(List.length (Dt.L a0 4):Int))) a0) (e98 J m [1,0,1] []))
  else
  (jj J 0 2 0 (HV a1 false a0) (e98 J m [1,0,1] []))))
   else
  (bif ((Dt.I a0 0) !=5) then
  (jj J 0 2 0 (HV a1 (decide (0<(List.length (Dt.L a0 4):Int))) a0) (e98 J m [1,0,1] []))
  else
  (jj J 0 2 0 (HV a1 false a0) (e98 J m [1,0,1] []))))) (by simp only[ah,anz m];rfl)
def Dm:List Nat:=[1,0,1,0,0,1]
def anA:List Nat:=Dm++[1]
def SB:List Nat:=Dm++[0,0,1,1]
def SC:List Nat:=SB++[1]
def lu:List Nat:=Dm++[0,0,1,0,1]
def Dn:List Nat:=SC++[0]
def SE:List Nat:=Dn++[0,1]
def anB:List Nat:=SE++[1]
noncomputable def fK (J:Q0) (m:Nat):=evAt Tryz.prog env (ct m) J (m+1) 187 58 Tryz.f187 d9
noncomputable def Ph (J:Q0) (m:Nat):=loopAt Tryz.prog env (ct m) J (m+1) 187 58 Tryz.f187 d9
noncomputable def iP (x0:Bool) (x1 x2:Int) (x3 x4:Dt):St:=⟨tsOf [(1,.dat 4 (.bool x0)),(2,.ptr 0 [] 0),(5,.dat 3 (.int x1)),(6,.ptr 1 [] 0),(7,.dat 3 (.int x2))],[.box 30 (.dat 30 x3),.box 156 (.dat 156 x4)],0⟩
noncomputable def iQ (x0:Bool) (x1:Int) (x2:Dt):St:=⟨tsOf [(1,.dat 4 (.bool x0)),(2,.ptr 0 [] 0),(5,.dat 3 (.int x1))],[.box 30 (.dat 30 x2)],0⟩
noncomputable def anC (x0:Bool) (x1:Int) (x2 x3:Dt):St:=⟨tsOf [(1,.dat 4 (.bool x0)),(2,.ptr 0 [] 0),(5,.dat 3 (.int x1)),(6,.ptr 1 [] 0)],[.box 30 (.dat 30 x2),.box 156 (.dat 156 x3)],0⟩
noncomputable def lC (x0:Bool) (x1:Int) (x2:Bool) (x3 x4:Dt):St:=⟨tsOf [(1,.dat 4 (.bool x0)),(2,.ptr 0 [] 0),(5,.dat 3 (.int x1)),(6,.ptr 1 [] 0),(43,.dat 4 (.bool x2))],[.box 30 (.dat 30 x3),.box 156 (.dat 156 x4)],0⟩
noncomputable def Wv:St:=⟨tsOf [],[],0⟩
abbrev lD (m M1:Nat) (rec1:Q19):Prop:=∀x0 x1 x2,Ph jn m [1,0,1,0] [] M1 (iQ x0 x1 x2)=rec1 x0 x1 x2
abbrev anD (m M1 M6:Nat) (rec6:Q43):Prop:=∀x0 x1 x2 x3 x4,Ph jn m Dn [M1] M6 (iP x0 x1 x2 x3 x4)=rec6 x0 x1 x2 x3 x4
theorem anE m M1 rec1 (h1:lD m M1 rec1) M6 rec6 (h6:anD m M1 M6 rec6) x0 x1 x2 x3 x4:fK jn m anB [M1,M6] (iP x0 x1 x2 x3 x4)=GZ m (qE m) rec1 rec6 x0 x1 x2 x3 x4:=
 tq (g:=fun J=>(jj J 1 8 M6 (iP x0 x1 (IntKind.wrap .i64 (x2+1)) x3 x4) (Ph J m Dn [M1] M6))) (by simp only[ah,h6];rfl)
theorem anF m M1 rec1 (h1:lD m M1 rec1) M6 rec6 (h6:anD m M1 M6 rec6) x0 x1 x2 x3 x4:fK jn m SE [M1,M6] (iP x0 x1 x2 x3 x4)=G5 m (qE m) rec1 rec6 x0 x1 x2 x3 x4:=
 tq (g:=fun J=>((idx (Dt.L x3 4) x2).bind fun v2=>
  (bif ((ByteArray.toList (Dt.S v2 0))==(ByteArray.toList (Dt.S x4 0))) then
  some false
  else
  (jj J 0 9 0 (iP x0 x1 x2 x3 x4) (fK J m anB [M1,M6]))))) (by simp only[ah,anE m M1 rec1 h1 M6 rec6 h6];rfl)
theorem anG m M1 rec1 (h1:lD m M1 rec1) x0 x1 x2:fK jn m anA [M1] (iQ x0 x1 x2)=G6 m (qE m) rec1 x0 x1 x2:=
 tq (g:=fun J=>(jj J 1 2 M1 (iQ x0 (IntKind.wrap .i64 (x1+1)) x2) (Ph J m [1,0,1,0] [] M1))) (by simp only[ah,h1];rfl)
theorem Pj m M1 rec1 (h1:lD m M1 rec1):∀M6 x0 x1 x2 x3 x4,Ph jn m Dn [M1] M6 (iP x0 x1 x2 x3 x4)=Cu m (qE m) rec1 M6 x0 x1 x2 x3 x4
 |0,_,_,_,_,_=>rfl
 | M6+1,x0,x1,x2,x3,x4=>
   tl (g:=fun J=>(bif (decide (x2<x1)) then
  (jj J 0 10 0 (iP x0 x1 x2 x3 x4) (fK J m SE [M1,M6]))
   else
  (jj J 0 3 0 (iQ x0 x1 x3) (fK J m anA [M1])))) (by simp only[ah,anF m M1 rec1 h1 M6 (Cu m (qE m) rec1 M6) (Pj m M1 rec1 h1 M6),anG m M1 rec1 h1];rfl)
theorem anH m M1 rec1 (h1:lD m M1 rec1) x0 x1 x2 x3 x4:fK jn m SC [M1] (iP x0 x1 x2 x3 x4)=G7 m (qE m) rec1 x0 x1 x2 x3 x4:=
 tq (g:=fun J=>(jj J 1 8 (Nat.succ m) (iP x0 x1 x2 x3 x4) (Ph J m Dn [M1] (Nat.succ m)))) (by simp only[ah,Pj m M1 rec1 h1];rfl)
theorem anI m M1 rec1 (h1:lD m M1 rec1) x0 x1 x2 x3:fK jn m SB [M1] (anC x0 x1 x2 x3)=G8 m (qE m) rec1 x0 x1 x2 x3:=
 tq (g:=fun J=>(jj J 0 8 0 (iP x0 x1 0 x2 x3) (fK J m SC [M1]))) (by simp only[ah,anH m M1 rec1 h1];rfl)
theorem anJ m M1 rec1 (h1:lD m M1 rec1) x0 x1 x2 x3 x4:fK jn m lu [M1] (lC x0 x1 x2 x3 x4)=jP m (qE m) rec1 x0 x1 x2 x3 x4:=
 tq (g:=fun J=>(bif x2 then
  some false
   else
  (jj J 0 7 0 (anC x0 x1 x3 x4) (fK J m SB [M1])))) (by simp only[ah,anI m M1 rec1 h1];rfl)
theorem anK m M1 rec1 (h1:lD m M1 rec1) x0 x1 x2:fK jn m Dm [M1] (iQ x0 x1 x2)=G9 m (qE m) rec1 x0 x1 x2:=
 tq (g:=fun J=>((idx (Dt.L x2 4) x1).bind fun v0=>
  (bif x0 then
  ((zE m (Dt.S v0 0)).bind fun r1=>
  (bif (Bool.not r1) then
  (jj J 0 6 0 (lC x0 x1 true x2 v0) (fK J m lu [M1]))
  else
  (bif (Bool.not x0) then
  ((zK m (Dt.S v0 0)).bind fun r3=>
  (bif (Bool.not r3) then
  (jj J 0 6 0 (lC x0 x1 true x2 v0) (fK J m lu [M1]))
  else
  ((qE m (Dt.fld v0 1) x0).bind fun r4=>
  (jj J 0 6 0 (lC x0 x1 (Bool.not r4) x2 v0) (fK J m lu [M1])))))
  else
  ((qE m (Dt.fld v0 1) x0).bind fun r5=>
  (jj J 0 6 0 (lC x0 x1 (Bool.not r5) x2 v0) (fK J m lu [M1]))))))
  else
  (bif (Bool.not x0) then
  ((zK m (Dt.S v0 0)).bind fun r6=>
  (bif (Bool.not r6) then
  (jj J 0 6 0 (lC x0 x1 true x2 v0) (fK J m lu [M1]))
  else
  ((qE m (Dt.fld v0 1) x0).bind fun r7=>
  (jj J 0 6 0 (lC x0 x1 (Bool.not r7) x2 v0) (fK J m lu [M1])))))
  else
  ((qE m (Dt.fld v0 1) x0).bind fun r8=>
  (jj J 0 6 0 (lC x0 x1 (Bool.not r8) x2 v0) (fK J m lu [M1]))))))) (by simp only[ah,anJ m M1 rec1 h1];rfl)
theorem ZB m:fK jn m [1,1] [] Wv=tO m (qE m):=
 tq (g:=fun J=>some true) (by rfl)
theorem Pk m:∀M1 x0 x1 x2,Ph jn m [1,0,1,0] [] M1 (iQ x0 x1 x2)=uU m (qE m) M1 x0 x1 x2
 |0,_,_,_=>rfl
 | M1+1,x0,x1,x2=>
   tl (g:=fun J=>(bif (decide (x1<(List.length (Dt.L x2 4):Int))) then
  (jj J 0 4 0 (iQ x0 x1 x2) (fK J m Dm [M1]))
   else
  (jj J 0 12 0 Wv (fK J m [1,1] [])))) (by simp only[ah,anK m M1 (uU m (qE m) M1) (Pk m M1),ZB m];rfl)
theorem anL m x0 x1 x2:fK jn m [1,0,1] [] (iQ x0 x1 x2)=Cw m (qE m) x0 x1 x2:=
 tq (g:=fun J=>(jj J 1 2 (Nat.succ m) (iQ x0 x1 x2) (Ph J m [1,0,1,0] [] (Nat.succ m)))) (by simp only[ah,Pk m];rfl)
theorem aFb m a0 a1:fK jn m [] [] ⟨[.dat 30 a0,.dat 4 (.bool a1)],[],0⟩=qG (m+1) a0 a1:=
 tq (g:=fun J=>(jj J 0 2 0 (iQ a1 0 a0) (fK J m [1,0,1] []))) (by simp only[ah,anL m];rfl)
noncomputable def e84 (J:Q0) (m:Nat):=evAt Tryz.prog env (ct m) J (m+1) 107 15 Tryz.f107 d9
theorem aFc m a0:e84 jn m [] [] ⟨[.dat 30 a0],[],0⟩=y3 (m+1) a0:=
 tq (g:=fun J=>((vJ m a0).bind fun r0=>
  (bif (decide (r0≤16)) then
  ((vK m a0).bind fun r1=>
  (bif (decide (r1≤1024)) then
  ((qE m a0 true).bind fun r2=>
  some r2)
  else
  some false))
  else
  some false))) (by rfl)
def anM:List Nat:=[1,1,1,1,1]
def Jt:List Nat:=[1,1,1,1,1,1]
def uf:List Nat:=[1,1,1,1,0,1]
def anN:List Nat:=Jt++[1]
def SF:List Nat:=[1,1,1,1,1,0,1]
def aN:List Nat:=Jt++[0,1]
noncomputable def aQ (J:Q1) (m:Nat):=evAt Tryz.prog env (ct m) J (m+1) 188 164 Tryz.f188 d57
noncomputable def Ww:St:=⟨tsOf [],[],0⟩
noncomputable def aO (x0:Bool):St:=⟨tsOf [(163,.dat 4 (.bool x0))],[],0⟩
noncomputable def lF (x0:Bool) (x1:Dt):St:=⟨tsOf [(1,.ptr 0 [] 0),(3,.dat 4 (.bool x0))],[.box 36 (.dat 36 x1)],0⟩
noncomputable def SG (x0 x1:Bool) (x2:Dt):St:=⟨tsOf [(1,.ptr 0 [] 0),(3,.dat 4 (.bool x0)),(112,.dat 4 (.bool x1))],[.box 36 (.dat 36 x2)],0⟩
noncomputable def ug (x0 x1:Bool) (x2:Dt):St:=⟨tsOf [(1,.ptr 0 [] 0),(3,.dat 4 (.bool x0)),(103,.dat 4 (.bool x1))],[.box 36 (.dat 36 x2)],0⟩
noncomputable def Ju (x0:Dt):St:=⟨tsOf [(1,.ptr 0 [] 0)],[.box 36 (.dat 36 x0)],0⟩
noncomputable def lG (x0:Bool) (x1:Dt):St:=⟨tsOf [(1,.ptr 0 [] 0),(72,.dat 4 (.bool x0))],[.box 36 (.dat 36 x1)],0⟩
noncomputable def iR (x0:Bool) (x1:Dt):St:=⟨tsOf [(1,.ptr 0 [] 0),(46,.dat 4 (.bool x0))],[.box 36 (.dat 36 x1)],0⟩
theorem ZC m:aQ jn m anN [] Ww=Ru m:=
 tq (g:=fun J=>some 0) (by rfl)
theorem anO m x0:aQ jn m aN [] (aO x0)=aV m x0:=
 tq (g:=fun J=>(bif x0 then
  some 4
   else
  (jj J 0 12 0 Ww (aQ J m anN [])))) (by simp only[ah,ZC m];rfl)
theorem anP m x0 x1:aQ jn m Jt [] (lF x0 x1)=VR m x0 x1:=
 tq (g:=fun J=>(bif ((Dt.I x1 0) !=2) then
  (bif ((Dt.I x1 0) !=3) then
  (bif (decide (0<(List.length (Dt.L x1 1):Int))) then
  (jj J 0 11 0 (aO true) (aQ J m aN []))
  else
  (bif (Bool.not x0) then
  (bif (Bool.not ((ByteArray.toList (Dt.S x1 2))==[])) then
  (jj J 0 11 0 (aO true) (aQ J m aN []))
  else
  (bif ((Dt.I x1 0) !=34) then
  (bif (decide (0<(List.length (Dt.L x1 3):Int))) then
  (jj J 0 11 0 (aO true) (aQ J m aN []))
  else
  (bif ((Dt.I x1 0) !=1) then
  ((qA m (Dt.fld x1 4) aW).bind fun r3=>
  (bif (Bool.not r3) then
  (jj J 0 11 0 (aO true) (aQ J m aN []))
  else
  (jj J 0 11 0 (aO ((Dt.I x1 5) !=0)) (aQ J m aN []))))
  else
  (jj J 0 11 0 (aO ((Dt.I x1 5) !=0)) (aQ J m aN []))))
  else
  (bif ((Dt.I x1 0) !=1) then
  ((qA m (Dt.fld x1 4) aW).bind fun r4=>
  (bif (Bool.not r4) then
  (jj J 0 11 0 (aO true) (aQ J m aN []))
  else
  (jj J 0 11 0 (aO ((Dt.I x1 5) !=0)) (aQ J m aN []))))
  else
  (jj J 0 11 0 (aO ((Dt.I x1 5) !=0)) (aQ J m aN [])))))
  else
  (bif ((Dt.I x1 0) !=34) then
  (bif (decide (0<(List.length (Dt.L x1 3):Int))) then
  (jj J 0 11 0 (aO true) (aQ J m aN []))
  else
  (bif ((Dt.I x1 0) !=1) then
  ((qA m (Dt.fld x1 4) aW).bind fun r5=>
  (bif (Bool.not r5) then
  (jj J 0 11 0 (aO true) (aQ J m aN []))
  else
  (jj J 0 11 0 (aO ((Dt.I x1 5) !=0)) (aQ J m aN []))))
  else
  (jj J 0 11 0 (aO ((Dt.I x1 5) !=0)) (aQ J m aN []))))
  else
  (bif ((Dt.I x1 0) !=1) then
  ((qA m (Dt.fld x1 4) aW).bind fun r6=>
  (bif (Bool.not r6) then
  (jj J 0 11 0 (aO true) (aQ J m aN []))
  else
  (jj J 0 11 0 (aO ((Dt.I x1 5) !=0)) (aQ J m aN []))))
  else
  (jj J 0 11 0 (aO ((Dt.I x1 5) !=0)) (aQ J m aN []))))))
  else
  (bif (Bool.not x0) then
  (bif (Bool.not ((ByteArray.toList (Dt.S x1 2))==[])) then
  (jj J 0 11 0 (aO true) (aQ J m aN []))
  else
  (bif ((Dt.I x1 0) !=34) then
  (bif (decide (0<(List.length (Dt.L x1 3):Int))) then
  (jj J 0 11 0 (aO true) (aQ J m aN []))
  else
  (bif ((Dt.I x1 0) !=1) then
  ((qA m (Dt.fld x1 4) aW).bind fun r7=>
  (bif (Bool.not r7) then
  (jj J 0 11 0 (aO true) (aQ J m aN []))
  else
  (jj J 0 11 0 (aO ((Dt.I x1 5) !=0)) (aQ J m aN []))))
  else
  (jj J 0 11 0 (aO ((Dt.I x1 5) !=0)) (aQ J m aN []))))
  else
  (bif ((Dt.I x1 0) !=1) then
  ((qA m (Dt.fld x1 4) aW).bind fun r8=>
  (bif (Bool.not r8) then
  (jj J 0 11 0 (aO true) (aQ J m aN []))
  else
  (jj J 0 11 0 (aO ((Dt.I x1 5) !=0)) (aQ J m aN []))))
  else
  (jj J 0 11 0 (aO ((Dt.I x1 5) !=0)) (aQ J m aN [])))))
  else
  (bif ((Dt.I x1 0) !=34) then
  (bif (decide (0<(List.length (Dt.L x1 3):Int))) then
  (jj J 0 11 0 (aO true) (aQ J m aN []))
  else
  (bif ((Dt.I x1 0) !=1) then
  ((qA m (Dt.fld x1 4) aW).bind fun r9=>
  (bif (Bool.not r9) then
  (jj J 0 11 0 (aO true) (aQ J m aN []))
  else
  (jj J 0 11 0 (aO ((Dt.I x1 5) !=0)) (aQ J m aN []))))
  else
  (jj J 0 11 0 (aO ((Dt.I x1 5) !=0)) (aQ J m aN []))))
  else
  (bif ((Dt.I x1 0) !=1) then
  ((qA m (Dt.fld x1 4) aW).bind fun r10=>
  (bif (Bool.not r10) then
  (jj J 0 11 0 (aO true) (aQ J m aN []))
  else
  (jj J 0 11 0 (aO ((Dt.I x1 5) !=0)) (aQ J m aN []))))
  else
  (jj J 0 11 0 (aO ((Dt.I x1 5) !=0)) (aQ J m aN []))))))
   else
  (bif (Bool.not x0) then
  (bif (Bool.not ((ByteArray.toList (Dt.S x1 2))==[])) then
  (jj J 0 11 0 (aO true) (aQ J m aN []))
  else
  (bif ((Dt.I x1 0) !=34) then
  (bif (decide (0<(List.length (Dt.L x1 3):Int))) then
  (jj J 0 11 0 (aO true) (aQ J m aN []))
  else
  (bif ((Dt.I x1 0) !=1) then
  ((qA m (Dt.fld x1 4) aW).bind fun r11=>
  (bif (Bool.not r11) then
  (jj J 0 11 0 (aO true) (aQ J m aN []))
  else
  (jj J 0 11 0 (aO ((Dt.I x1 5) !=0)) (aQ J m aN []))))
  else
  (jj J 0 11 0 (aO ((Dt.I x1 5) !=0)) (aQ J m aN []))))
  else
  (bif ((Dt.I x1 0) !=1) then
  ((qA m (Dt.fld x1 4) aW).bind fun r12=>
  (bif (Bool.not r12) then
  (jj J 0 11 0 (aO true) (aQ J m aN []))
  else
  (jj J 0 11 0 (aO ((Dt.I x1 5) !=0)) (aQ J m aN []))))
  else
  (jj J 0 11 0 (aO ((Dt.I x1 5) !=0)) (aQ J m aN [])))))
  else
  (bif ((Dt.I x1 0) !=34) then
  (bif (decide (0<(List.length (Dt.L x1 3):Int))) then
  (jj J 0 11 0 (aO true) (aQ J m aN []))
  else
  (bif ((Dt.I x1 0) !=1) then
  ((qA m (Dt.fld x1 4) aW).bind fun r13=>
  (bif (Bool.not r13) then
  (jj J 0 11 0 (aO true) (aQ J m aN []))
  else
  (jj J 0 11 0 (aO ((Dt.I x1 5) !=0)) (aQ J m aN []))))
  else
  (jj J 0 11 0 (aO ((Dt.I x1 5) !=0)) (aQ J m aN []))))
  else
  (bif ((Dt.I x1 0) !=1) then
  ((qA m (Dt.fld x1 4) aW).bind fun r14=>
  (bif (Bool.not r14) then
  (jj J 0 11 0 (aO true) (aQ J m aN []))
  else
  (jj J 0 11 0 (aO ((Dt.I x1 5) !=0)) (aQ J m aN []))))
  else
  (jj J 0 11 0 (aO ((Dt.I x1 5) !=0)) (aQ J m aN []))))))) (by simp only[ah,anO m];rfl)
theorem anQ m x0 x1 x2:aQ jn m SF [] (SG x0 x1 x2)=VU m x0 x1 x2:=
 tq (g:=fun J=>(bif x1 then
  some 8
   else
  (jj J 0 10 0 (lF x0 x2) (aQ J m Jt [])))) (by simp only[ah,anP m];rfl)
theorem anR m x0 x1:aQ jn m anM [] (lF x0 x1)=VW m x0 x1:=
 tq (g:=fun J=>(bif ((Dt.I x1 0)==1) then
  ((y3 m (Dt.fld x1 4)).bind fun r2=>
  (jj J 0 9 0 (SG x0 (Bool.not r2) x1) (aQ J m SF [])))
   else
  (jj J 0 9 0 (SG x0 false x1) (aQ J m SF [])))) (by simp only[ah,anQ m];rfl)
theorem anS m x0 x1 x2:aQ jn m uf [] (ug x0 x1 x2)=Cx m x0 x1 x2:=
 tq (g:=fun J=>(bif x1 then
  some 9
   else
  (jj J 0 8 0 (lF x0 x2) (aQ J m anM [])))) (by simp only[ah,anR m];rfl)
theorem anT m x0 x1:aQ jn m [1,1,1,1] [] (lF x0 x1)=He m x0 x1:=
 tq (g:=fun J=>(bif x0 then
  ((zE m (Dt.S x1 2)).bind fun r1=>
  (bif (Bool.not r1) then
  (jj J 0 7 0 (ug x0 true x1) (aQ J m uf []))
  else
  (bif ((Dt.I x1 0)==34) then
  ((zM m (Dt.L x1 3)).bind fun r15=>
  (jj J 0 7 0 (ug x0 (Bool.not r15) x1) (aQ J m uf [])))
  else
  (jj J 0 7 0 (ug x0 false x1) (aQ J m uf [])))))
   else
  (bif ((Dt.I x1 0)==34) then
  ((zM m (Dt.L x1 3)).bind fun r16=>
  (jj J 0 7 0 (ug x0 (Bool.not r16) x1) (aQ J m uf [])))
  else
  (jj J 0 7 0 (ug x0 false x1) (aQ J m uf []))))) (by simp only[ah,anS m];rfl)
theorem anU m x0:aQ jn m [1,1,1] [] (Ju x0)=ajp m x0:=
 tq (g:=fun J=>(bif ((Dt.I x0 0)==3) then
  (jj J 0 6 0 (lF true x0) (aQ J m [1,1,1,1] []))
   else
  (bif ((Dt.I x0 0)==32) then
  (jj J 0 6 0 (lF true x0) (aQ J m [1,1,1,1] []))
  else
  (jj J 0 6 0 (lF ((Dt.I x0 0)==33) x0) (aQ J m [1,1,1,1] []))))) (by simp only[ah,anT m];rfl)
theorem anV m x0 x1:aQ jn m [1,1,0,1] [] (lG x0 x1)=rG m x0 x1:=
 tq (g:=fun J=>(bif x0 then
  some 10
   else
  (jj J 0 5 0 (Ju x1) (aQ J m [1,1,1] [])))) (by simp only[ah,anU m];rfl)
theorem anW m x0:aQ jn m [1,1] [] (Ju x0)=VX m x0:=
 tq (g:=fun J=>(bif ((Dt.I x0 0)==2) then
  ((zC m (Dt.L x0 1)).bind fun r0=>
  (bif (Bool.not r0) then
  (jj J 0 4 0 (lG true x0) (aQ J m [1,1,0,1] []))
  else
  (bif ((Dt.I x0 0)==3) then
  (bif (decide (0<(List.length (Dt.L x0 1):Int))) then
  ((zC m (Dt.L x0 1)).bind fun r17=>
  (jj J 0 4 0 (lG (Bool.not r17) x0) (aQ J m [1,1,0,1] [])))
  else
  (jj J 0 4 0 (lG false x0) (aQ J m [1,1,0,1] [])))
  else
  (jj J 0 4 0 (lG false x0) (aQ J m [1,1,0,1] [])))))
   else
  (bif ((Dt.I x0 0)==3) then
  (bif (decide (0<(List.length (Dt.L x0 1):Int))) then
  ((zC m (Dt.L x0 1)).bind fun r18=>
  (jj J 0 4 0 (lG (Bool.not r18) x0) (aQ J m [1,1,0,1] [])))
  else
  (jj J 0 4 0 (lG false x0) (aQ J m [1,1,0,1] [])))
  else
  (jj J 0 4 0 (lG false x0) (aQ J m [1,1,0,1] []))))) (by simp only[ah,anV m];rfl)
theorem anX m x0 x1:aQ jn m [1,0,1] [] (iR x0 x1)=kQ m x0 x1:=
 tq (g:=fun J=>(bif x0 then
  some 11
   else
  (jj J 0 3 0 (Ju x1) (aQ J m [1,1] [])))) (by simp only[ah,anW m];rfl)
theorem aFd m a0:aQ jn m [] [] ⟨[.dat 36 a0],[],0⟩=qL (m+1) a0:=
 tq (g:=fun J=>(bif (decide ((Dt.I a0 0)<1)) then
  (jj J 0 2 0 (iR true a0) (aQ J m [1,0,1] []))
   else
  (bif (decide (37<(Dt.I a0 0))) then
  (jj J 0 2 0 (iR true a0) (aQ J m [1,0,1] []))
  else
  ((yB m (Dt.I a0 0)).bind fun r19=>
  (bif (decide (0≤r19)) then
  ((yB m (Dt.I a0 0)).bind fun r20=>
  (bif ((List.length (Dt.L a0 6):Int) !=r20) then
  (jj J 0 2 0 (iR true a0) (aQ J m [1,0,1] []))
  else
  (bif ((Dt.I a0 0)==34) then
  (bif ((List.length (Dt.L a0 6):Int) !=(List.length (Dt.L a0 3):Int)) then
  (jj J 0 2 0 (iR true a0) (aQ J m [1,0,1] []))
  else
  (jj J 0 2 0 (iR ((List.length (Dt.L a0 6):Int)==0) a0) (aQ J m [1,0,1] [])))
  else
  (jj J 0 2 0 (iR false a0) (aQ J m [1,0,1] [])))))
  else
  (bif ((Dt.I a0 0)==34) then
  (bif ((List.length (Dt.L a0 6):Int) !=(List.length (Dt.L a0 3):Int)) then
  (jj J 0 2 0 (iR true a0) (aQ J m [1,0,1] []))
  else
  (jj J 0 2 0 (iR ((List.length (Dt.L a0 6):Int)==0) a0) (aQ J m [1,0,1] [])))
  else
  (jj J 0 2 0 (iR false a0) (aQ J m [1,0,1] [])))))))) (by simp only[ah,anX m];rfl)
def axk:List Nat:=[1,1,1,0,1]
def Pm:List Nat:=[1,1,1,0,1,0]
def Wx:List Nat:=Pm++[0,1]
def axl:List Nat:=Wx++[1]
def axm:List Nat:=Wx++[0,0,1,1]
noncomputable def e94 (J:Q46) (m:Nat):=evAt Tryz.prog env (ct m) J (m+1) 147 51 Tryz.f147 d94
noncomputable def l94 (J:Q46) (m:Nat):=loopAt Tryz.prog env (ct m) J (m+1) 147 51 Tryz.f147 d94
noncomputable def nW (x0 x1 x2:Int) (x3:Dt):St:=⟨tsOf [(1,.dat 3 (.int x0)),(2,.dat 3 (.int x1)),(3,.ptr 0 [] 0),(9,.dat 3 (.int x2))],[.box 36 (.dat 36 x3)],0⟩
noncomputable def axn (x0 x1 x2:Int) (x3:Dt):St:=⟨tsOf [(2,.dat 3 (.int x0)),(3,.ptr 0 [] 0),(9,.dat 3 (.int x1)),(10,.dat 3 (.int x2))],[.box 36 (.dat 36 x3)],0⟩
noncomputable def axo (x0:Int):St:=⟨tsOf [(1,.dat 3 (.int x0))],[],0⟩
noncomputable def Wy (x0 x1:Int) (x2:Dt):St:=⟨tsOf [(1,.dat 3 (.int x0)),(2,.dat 3 (.int x1)),(3,.ptr 0 [] 0)],[.box 36 (.dat 36 x2)],0⟩
noncomputable def anY (x0 x1:Int) (x2:Bool) (x3:Dt):St:=⟨tsOf [(1,.dat 3 (.int x0)),(2,.dat 3 (.int x1)),(3,.ptr 0 [] 0),(17,.dat 4 (.bool x2))],[.box 36 (.dat 36 x3)],0⟩
abbrev anZ (m M4:Nat) (rec4:Q34):Prop:=∀x0 x1 x2 x3,l94 jn m Pm [] M4 (nW x0 x1 x2 x3)=rec4 x0 x1 x2 x3
theorem an0 m M4 rec4 (h4:anZ m M4 rec4) x0 x1 x2 x3:e94 jn m axl [M4] (nW x0 x1 x2 x3)=ajq m (zJ m) rec4 x0 x1 x2 x3:=
 tq (g:=fun J=>(jj J 1 7 M4 (nW x0 x1 (IntKind.wrap .i64 (x2+1)) x3) (l94 J m Pm [] M4))) (by simp only[ah,h4];rfl)
theorem an1 m M4 rec4 (h4:anZ m M4 rec4) x0 x1 x2 x3:e94 jn m axm [M4] (axn x0 x1 x2 x3)=VY m (zJ m) rec4 x0 x1 x2 x3:=
 tq (g:=fun J=>(jj J 0 8 0 (nW x2 x0 x1 x3) (e94 J m axl [M4]))) (by simp only[ah,an0 m M4 rec4 h4];rfl)
theorem an2 m M4 rec4 (h4:anZ m M4 rec4) x0 x1 x2 x3:e94 jn m Wx [M4] (nW x0 x1 x2 x3)=ajr m (zJ m) rec4 x0 x1 x2 x3:=
 tq (g:=fun J=>((idx (Dt.L x3 6) x2).bind fun v1=>
  ((zJ m v1 (IntKind.wrap .i64 (x0+1)) (IntKind.wrap .i64 (x1+1))).bind fun r2=>
  (bif (r2.2 !=0) then
  some (r2.1,r2.2)
  else
  (jj J 0 12 0 (axn x1 x2 r2.1 x3) (e94 J m axm [M4])))))) (by simp only[ah,an1 m M4 rec4 h4];rfl)
theorem an3 m x0:e94 jn m [1,1,1,1] [] (axo x0)=awx m (zJ m) x0:=
 tq (g:=fun J=>some (x0,0)) (by rfl)
theorem Pn m:∀M4 x0 x1 x2 x3,l94 jn m Pm [] M4 (nW x0 x1 x2 x3)=Cy m (zJ m) M4 x0 x1 x2 x3
 |0,_,_,_,_=>rfl
 | M4+1,x0,x1,x2,x3=>
   tl (g:=fun J=>(bif (decide (x2<(List.length (Dt.L x3 6):Int))) then
  (jj J 0 9 0 (nW x0 x1 x2 x3) (e94 J m Wx [M4]))
   else
  (jj J 0 13 0 (axo x0) (e94 J m [1,1,1,1] [])))) (by simp only[ah,an2 m M4 (Cy m (zJ m) M4) (Pn m M4),an3 m];rfl)
theorem an4 m x0 x1 x2 x3:e94 jn m axk [] (nW x0 x1 x2 x3)=ajs m (zJ m) x0 x1 x2 x3:=
 tq (g:=fun J=>(jj J 1 7 (Nat.succ m) (nW x0 x1 x2 x3) (l94 J m Pm [] (Nat.succ m)))) (by simp only[ah,Pn m];rfl)
theorem an5 m x0 x1 x2:e94 jn m [1,1,1] [] (Wy x0 x1 x2)=ajt m (zJ m) x0 x1 x2:=
 tq (g:=fun J=>(jj J 0 7 0 (nW x0 x1 0 x2) (e94 J m axk []))) (by simp only[ah,an4 m];rfl)
theorem an6 m x0 x1 x2:e94 jn m [1,1] [] (Wy x0 x1 x2)=aju m (zJ m) x0 x1 x2:=
 tq (g:=fun J=>((qL m x2).bind fun r0=>
  (bif (r0 !=0) then
  some (x0,r0)
  else
  (jj J 0 6 0 (Wy x0 x1 x2) (e94 J m [1,1,1] []))))) (by simp only[ah,an5 m];rfl)
theorem an7 m x0 x1 x2 x3:e94 jn m [1,0,1] [] (anY x0 x1 x2 x3)=VZ m (zJ m) x0 x1 x2 x3:=
 tq (g:=fun J=>(bif x2 then
  some (x0,2)
   else
  (jj J 0 3 0 (Wy x0 x1 x3) (e94 J m [1,1] [])))) (by simp only[ah,an6 m];rfl)
theorem aFe m a0 a1 a2:e94 jn m [] [] ⟨[.dat 36 a0,.dat 3 (.int a1),.dat 3 (.int a2)],[],0⟩=zJ (m+1) a0 a1 a2:=
 tq (g:=fun J=>(bif (decide (16<a2)) then
  (jj J 0 2 0 (anY a1 a2 true a0) (e94 J m [1,0,1] []))
   else
  (jj J 0 2 0 (anY a1 a2 (decide (256<a1)) a0) (e94 J m [1,0,1] [])))) (by simp only[ah,an7 m];rfl)
noncomputable def e78 (J:Q1) (m:Nat):=evAt Tryz.prog env (ct m) J (m+1) 111 11 Tryz.f111 d57
theorem aFf m a0:e78 jn m [] [] ⟨[.dat 36 a0],[],0⟩=yG (m+1) a0:=
 tq (g:=fun J=>((zJ m a0 1 1).bind fun r0=>
  some r0.2)) (by rfl)
def an8:List Nat:=[1,1,1,0,1]
def Po:List Nat:=[1,1,1,0,1,0]
def Dp:List Nat:=Po++[0,1]
def an9:List Nat:=Dp++[1]
def Wz:List Nat:=Dp++[0,0,1]
def WA:List Nat:=Wz++[1]
def SH:List Nat:=Dp++[0,0,0,1]
def aoa:List Nat:=Wz++[0,1]
def Pp:List Nat:=aoa++[0]
def axp:List Nat:=WA++[1,1,1]
def aob:List Nat:=Pp++[0,1]
def WB:List Nat:=WA++[1,1,0,1]
def axq:List Nat:=aob++[1]
noncomputable def e49 (J:Q1) (m:Nat):=evAt Tryz.prog env (ct m) J (m+1) 80 86 Tryz.f80 d57
noncomputable def l49 (J:Q1) (m:Nat):=loopAt Tryz.prog env (ct m) J (m+1) 80 86 Tryz.f80 d57
noncomputable def nX (x0:List Dt) (x1 x2:Int) (x3:Dt):St:=⟨tsOf [(1,.ptr 0 [] 0),(3,.dat 41 (.lst x0)),(4,.dat 3 (.int x1)),(5,.dat 3 (.int x2))],[.box 45 (.dat 45 x3)],0⟩
noncomputable def dU (x0:List Dt) (x1:Int) (x2:Dt):St:=⟨tsOf [(1,.ptr 0 [] 0),(3,.dat 41 (.lst x0)),(4,.dat 3 (.int x1))],[.box 45 (.dat 45 x2)],0⟩
noncomputable def aoc (x0:List Dt) (x1 x2:Int) (x3:Dt):St:=⟨tsOf [(1,.ptr 0 [] 0),(3,.dat 41 (.lst x0)),(4,.dat 3 (.int x1)),(7,.dat 3 (.int x2))],[.box 45 (.dat 45 x3)],0⟩
noncomputable def Jv (x0:List Dt) (x1 x2:Int) (x3:Bool) (x4:Dt):St:=⟨tsOf [(1,.ptr 0 [] 0),(3,.dat 41 (.lst x0)),(4,.dat 3 (.int x1)),(7,.dat 3 (.int x2)),(73,.dat 4 (.bool x3))],[.box 45 (.dat 45 x4)],0⟩
noncomputable def aod (x0:List Dt) (x1:Int) (x2:Bool) (x3:Dt):St:=⟨tsOf [(1,.ptr 0 [] 0),(3,.dat 41 (.lst x0)),(4,.dat 3 (.int x1)),(34,.dat 4 (.bool x2))],[.box 45 (.dat 45 x3)],0⟩
noncomputable def aoe:St:=⟨tsOf [],[],0⟩
noncomputable def axr (x0:List Dt) (x1:Dt):St:=⟨tsOf [(1,.ptr 0 [] 0),(3,.dat 41 (.lst x0))],[.box 45 (.dat 45 x1)],0⟩
abbrev lH (m M2:Nat) (rec2:Q20):Prop:=∀x0 x1 x2,l49 jn m Po [] M2 (dU x0 x1 x2)=rec2 x0 x1 x2
abbrev axt (m M2 M7:Nat) (rec7:Q44):Prop:=∀x0 x1 x2 x3,l49 jn m Pp [M2] M7 (nX x0 x1 x2 x3)=rec7 x0 x1 x2 x3
theorem aof m M2 rec2 (h2:lH m M2 rec2) M7 rec7 (h7:axt m M2 M7 rec7) x0 x1 x2 x3:e49 jn m axq [M2,M7] (nX x0 x1 x2 x3)=ajv m rec2 rec7 x0 x1 x2 x3:=
 tq (g:=fun J=>(jj J 1 10 M7 (nX x0 x1 (IntKind.wrap .i64 (x2+1)) x3) (l49 J m Pp [M2] M7))) (by simp only[ah,h7];rfl)
theorem aog m M2 rec2 (h2:lH m M2 rec2) M7 rec7 (h7:axt m M2 M7 rec7) x0 x1 x2 x3:e49 jn m aob [M2,M7] (nX x0 x1 x2 x3)=ajw m rec2 rec7 x0 x1 x2 x3:=
 tq (g:=fun J=>((idx x0 x2).bind fun v3=>
  ((idx x0 x1).bind fun v4=>
  ((y7 m (Dt.toLst v3) (Dt.toLst v4)).bind fun r5=>
  (bif r5 then
  some 12
  else
  (jj J 0 11 0 (nX x0 x1 x2 x3) (e49 J m axq [M2,M7]))))))) (by simp only[ah,aof m M2 rec2 h2 M7 rec7 h7];rfl)
theorem ZE m M2 rec2 (h2:lH m M2 rec2) x0 x1 x2:e49 jn m an9 [M2] (dU x0 x1 x2)=Cz m rec2 x0 x1 x2:=
 tq (g:=fun J=>(jj J 1 5 M2 (dU x0 (IntKind.wrap .i64 (x1+1)) x2) (l49 J m Po [] M2))) (by simp only[ah,h2];rfl)
theorem ZF m M2 rec2 (h2:lH m M2 rec2) x0 x1 x2 x3:e49 jn m axp [M2] (aoc x0 x1 x2 x3)=Rv m rec2 x0 x1 x2 x3:=
 tq (g:=fun J=>(bif (decide (0≤x2)) then
  ((idx (Dt.L x3 4) x2).bind fun v7=>
  ((yG m (Dt.fld v7 1)).bind fun r8=>
  (bif (r8 !=0) then
  some r8
  else
  (jj J 0 6 0 (dU x0 x1 x3) (e49 J m an9 [M2])))))
   else
  (jj J 0 6 0 (dU x0 x1 x3) (e49 J m an9 [M2])))) (by simp only[ah,ZE m M2 rec2 h2];rfl)
theorem ZG m M2 rec2 (h2:lH m M2 rec2) x0 x1 x2 x3 x4:e49 jn m WB [M2] (Jv x0 x1 x2 x3 x4)=tQ m rec2 x0 x1 x2 x3 x4:=
 tq (g:=fun J=>(bif x3 then
  some 1
   else
  (jj J 0 18 0 (aoc x0 x1 x2 x4) (e49 J m axp [M2])))) (by simp only[ah,ZF m M2 rec2 h2];rfl)
theorem ZH m M2 rec2 (h2:lH m M2 rec2) x0 x1 x2:e49 jn m WA [M2] (dU x0 x1 x2)=CB m rec2 x0 x1 x2:=
 tq (g:=fun J=>(bif (decide (0≤(IntKind.wrap .i64 (x1-(List.length (Dt.L x2 1):Int))))) then
  (bif (decide ((IntKind.wrap .i64 ((IntKind.wrap .i64 (x1-(List.length (Dt.L x2 1):Int)))-(List.length (Dt.L x2 3):Int)))<0)) then
  ((idx (Dt.L x2 3) (IntKind.wrap .i64 (x1-(List.length (Dt.L x2 1):Int)))).bind fun v6=>
  (jj J 0 17 0 (Jv x0 x1 (IntKind.wrap .i64 ((IntKind.wrap .i64 (x1-(List.length (Dt.L x2 1):Int)))-(List.length (Dt.L x2 3):Int))) (decide ((Dt.I v6 2)<0)) x2) (e49 J m WB [M2])))
  else
  (jj J 0 17 0 (Jv x0 x1 (IntKind.wrap .i64 ((IntKind.wrap .i64 (x1-(List.length (Dt.L x2 1):Int)))-(List.length (Dt.L x2 3):Int))) false x2) (e49 J m WB [M2])))
   else
  (jj J 0 17 0 (Jv x0 x1 (IntKind.wrap .i64 ((IntKind.wrap .i64 (x1-(List.length (Dt.L x2 1):Int)))-(List.length (Dt.L x2 3):Int))) false x2) (e49 J m WB [M2])))) (by simp only[ah,ZG m M2 rec2 h2];rfl)
theorem Pq m M2 rec2 (h2:lH m M2 rec2):∀M7 x0 x1 x2 x3,l49 jn m Pp [M2] M7 (nX x0 x1 x2 x3)=Hf m rec2 M7 x0 x1 x2 x3
 |0,_,_,_,_=>rfl
 | M7+1,x0,x1,x2,x3=>
   tl (g:=fun J=>(bif (decide (x2<x1)) then
  (jj J 0 12 0 (nX x0 x1 x2 x3) (e49 J m aob [M2,M7]))
   else
  (jj J 0 14 0 (dU x0 x1 x3) (e49 J m WA [M2])))) (by simp only[ah,aog m M2 rec2 h2 M7 (Hf m rec2 M7) (Pq m M2 rec2 h2 M7),ZH m M2 rec2 h2];rfl)
theorem aoh m M2 rec2 (h2:lH m M2 rec2) x0 x1 x2 x3:e49 jn m aoa [M2] (nX x0 x1 x2 x3)=awy m rec2 x0 x1 x2 x3:=
 tq (g:=fun J=>(jj J 1 10 (Nat.succ m) (nX x0 x1 x2 x3) (l49 J m Pp [M2] (Nat.succ m)))) (by simp only[ah,Pq m M2 rec2 h2];rfl)
theorem aoi m M2 rec2 (h2:lH m M2 rec2) x0 x1 x2:e49 jn m Wz [M2] (dU x0 x1 x2)=awz m rec2 x0 x1 x2:=
 tq (g:=fun J=>(jj J 0 10 0 (nX x0 x1 0 x2) (e49 J m aoa [M2]))) (by simp only[ah,aoh m M2 rec2 h2];rfl)
theorem aoj m M2 rec2 (h2:lH m M2 rec2) x0 x1 x2 x3:e49 jn m SH [M2] (aod x0 x1 x2 x3)=Og m rec2 x0 x1 x2 x3:=
 tq (g:=fun J=>(bif x2 then
  some 10
   else
  (jj J 0 9 0 (dU x0 x1 x3) (e49 J m Wz [M2])))) (by simp only[ah,aoi m M2 rec2 h2];rfl)
theorem aok m M2 rec2 (h2:lH m M2 rec2) x0 x1 x2:e49 jn m Dp [M2] (dU x0 x1 x2)=ajx m rec2 x0 x1 x2:=
 tq (g:=fun J=>((idx x0 x1).bind fun v1=>
  ((zC m (Dt.toLst v1)).bind fun r2=>
  (bif (Bool.not r2) then
  (jj J 0 8 0 (aod x0 x1 true x2) (e49 J m SH [M2]))
  else
  ((idx x0 x1).bind fun v9=>
  ((idx (Dt.toLst v9) 0).bind fun v10=>
  (jj J 0 8 0 (aod x0 x1 ((ByteArray.toList (Dt.toStr v10))==[95,105,100]) x2) (e49 J m SH [M2])))))))) (by simp only[ah,aoj m M2 rec2 h2];rfl)
theorem ZI m:e49 jn m [1,1,1,1] [] aoe=ajy m:=
 tq (g:=fun J=>some 0) (by rfl)
theorem Pv m:∀M2 x0 x1 x2,l49 jn m Po [] M2 (dU x0 x1 x2)=CF m M2 x0 x1 x2
 |0,_,_,_=>rfl
 | M2+1,x0,x1,x2=>
   tl (g:=fun J=>(bif (decide (x1<(List.length x0:Int))) then
  (jj J 0 7 0 (dU x0 x1 x2) (e49 J m Dp [M2]))
   else
  (jj J 0 22 0 aoe (e49 J m [1,1,1,1] [])))) (by simp only[ah,aok m M2 (CF m M2) (Pv m M2),ZI m];rfl)
theorem aol m x0 x1 x2:e49 jn m an8 [] (dU x0 x1 x2)=awC m x0 x1 x2:=
 tq (g:=fun J=>(jj J 1 5 (Nat.succ m) (dU x0 x1 x2) (l49 J m Po [] (Nat.succ m)))) (by simp only[ah,Pv m];rfl)
theorem aom m x0 x1:e49 jn m [1,1,1] [] (axr x0 x1)=awD m x0 x1:=
 tq (g:=fun J=>(jj J 0 5 0 (dU x0 0 x1) (e49 J m an8 []))) (by simp only[ah,aol m];rfl)
theorem aFg m a0:e49 jn m [] [] ⟨[.dat 45 a0],[],0⟩=qS (m+1) a0:=
 tq (g:=fun J=>((zP m a0).bind fun r0=>
  (bif (decide (32<(List.length r0:Int))) then
  some 2
  else
  (jj J 0 4 0 (axr r0 a0) (e49 J m [1,1,1] []))))) (by simp only[ah,aom m];rfl)
def WC:List Nat:=[1,1,0,1,0]
def WG:List Nat:=[1,1,0,1,0,0,1]
def axu:List Nat:=WG++[1]
def aon:List Nat:=WG++[0,0,1]
def WH:List Nat:=aon++[1]
def axv:List Nat:=WH++[1]
def aoo:List Nat:=WH++[0,1]
def Pw:List Nat:=aoo++[0]
def aop:List Nat:=Pw++[0,1]
def axw:List Nat:=aop++[1]
noncomputable def e50 (J:Q1) (m:Nat):=evAt Tryz.prog env (ct m) J (m+1) 81 60 Tryz.f81 d57
noncomputable def l50 (J:Q1) (m:Nat):=loopAt Tryz.prog env (ct m) J (m+1) 81 60 Tryz.f81 d57
noncomputable def iT (x0:List Dt) (x1 x2:Int):St:=⟨tsOf [(0,.dat 43 (.lst x0)),(3,.dat 3 (.int x1)),(4,.dat 3 (.int x2))],[],0⟩
noncomputable def dM (x0:List Dt) (x1:Int):St:=⟨tsOf [(0,.dat 43 (.lst x0)),(3,.dat 3 (.int x1))],[],0⟩
noncomputable def aoq:St:=⟨tsOf [],[],0⟩
noncomputable def axx (x0:List Dt):St:=⟨tsOf [(0,.dat 43 (.lst x0))],[],0⟩
noncomputable def aor (x0:List Dt) (x1:Bool):St:=⟨tsOf [(0,.dat 43 (.lst x0)),(13,.dat 4 (.bool x1))],[],0⟩
abbrev rY (m M3:Nat) (rec3:Q2):Prop:=∀x0 x1,l50 jn m WC [] M3 (dM x0 x1)=rec3 x0 x1
abbrev axy (m M3 M8:Nat) (rec8:Q29):Prop:=∀x0 x1 x2,l50 jn m Pw [M3] M8 (iT x0 x1 x2)=rec8 x0 x1 x2
theorem ZJ m M3 rec3 (h3:rY m M3 rec3) M8 rec8 (h8:axy m M3 M8 rec8) x0 x1 x2:e50 jn m axw [M3,M8] (iT x0 x1 x2)=Rw m rec3 rec8 x0 x1 x2:=
 tq (g:=fun J=>(jj J 1 11 M8 (iT x0 x1 (IntKind.wrap .i64 (x2+1))) (l50 J m Pw [M3] M8))) (by simp only[ah,h8];rfl)
theorem aos m M3 rec3 (h3:rY m M3 rec3) M8 rec8 (h8:axy m M3 M8 rec8) x0 x1 x2:e50 jn m aop [M3,M8] (iT x0 x1 x2)=ajz m rec3 rec8 x0 x1 x2:=
 tq (g:=fun J=>((idx x0 x1).bind fun v4=>
  ((idx x0 x2).bind fun v5=>
  ((y7 m (Dt.L v4 0) (Dt.L v5 0)).bind fun r6=>
  (bif r6 then
  some 12
  else
  (jj J 0 12 0 (iT x0 x1 x2) (e50 J m axw [M3,M8]))))))) (by simp only[ah,ZJ m M3 rec3 h3 M8 rec8 h8];rfl)
theorem ZK m M3 rec3 (h3:rY m M3 rec3) x0 x1:e50 jn m axu [M3] (dM x0 x1)=Rx m rec3 x0 x1:=
 tq (g:=fun J=>(jj J 1 4 M3 (dM x0 (IntKind.wrap .i64 (x1+1))) (l50 J m WC [] M3))) (by simp only[ah,h3];rfl)
theorem ZL m M3 rec3 (h3:rY m M3 rec3) x0 x1:e50 jn m axv [M3] (dM x0 x1)=Ry m rec3 x0 x1:=
 tq (g:=fun J=>((idx x0 x1).bind fun v7=>
  ((yG m (Dt.fld v7 1)).bind fun r8=>
  (bif (r8 !=0) then
  some r8
  else
  (jj J 0 5 0 (dM x0 x1) (e50 J m axu [M3])))))) (by simp only[ah,ZK m M3 rec3 h3];rfl)
theorem Px m M3 rec3 (h3:rY m M3 rec3):∀M8 x0 x1 x2,l50 jn m Pw [M3] M8 (iT x0 x1 x2)=Hg m rec3 M8 x0 x1 x2
 |0,_,_,_=>rfl
 | M8+1,x0,x1,x2=>
   tl (g:=fun J=>(bif (decide (x2<x1)) then
  (jj J 0 13 0 (iT x0 x1 x2) (e50 J m aop [M3,M8]))
   else
  (jj J 0 15 0 (dM x0 x1) (e50 J m axv [M3])))) (by simp only[ah,aos m M3 rec3 h3 M8 (Hg m rec3 M8) (Px m M3 rec3 h3 M8),ZL m M3 rec3 h3];rfl)
theorem aot m M3 rec3 (h3:rY m M3 rec3) x0 x1 x2:e50 jn m aoo [M3] (iT x0 x1 x2)=awE m rec3 x0 x1 x2:=
 tq (g:=fun J=>(jj J 1 11 (Nat.succ m) (iT x0 x1 x2) (l50 J m Pw [M3] (Nat.succ m)))) (by simp only[ah,Px m M3 rec3 h3];rfl)
theorem aou m M3 rec3 (h3:rY m M3 rec3) x0 x1:e50 jn m WH [M3] (dM x0 x1)=awF m rec3 x0 x1:=
 tq (g:=fun J=>(jj J 0 11 0 (iT x0 x1 0) (e50 J m aoo [M3]))) (by simp only[ah,aot m M3 rec3 h3];rfl)
theorem aov m M3 rec3 (h3:rY m M3 rec3) x0 x1:e50 jn m aon [M3] (dM x0 x1)=ajA m rec3 x0 x1:=
 tq (g:=fun J=>((idx x0 x1).bind fun v2=>
  ((idx (Dt.L v2 0) 0).bind fun v3=>
  (bif ((ByteArray.toList (Dt.toStr v3))==[95,105,100]) then
  some 13
  else
  (jj J 0 10 0 (dM x0 x1) (e50 J m WH [M3])))))) (by simp only[ah,aou m M3 rec3 h3];rfl)
theorem aow m M3 rec3 (h3:rY m M3 rec3) x0 x1:e50 jn m WG [M3] (dM x0 x1)=ajB m rec3 x0 x1:=
 tq (g:=fun J=>((idx x0 x1).bind fun v0=>
  ((zC m (Dt.L v0 0)).bind fun r1=>
  (bif (Bool.not r1) then
  some 10
  else
  (jj J 0 8 0 (dM x0 x1) (e50 J m aon [M3])))))) (by simp only[ah,aov m M3 rec3 h3];rfl)
theorem ZM m:e50 jn m [1,1,1] [] aoq=ajC m:=
 tq (g:=fun J=>some 0) (by rfl)
theorem Py m:∀M3 x0 x1,l50 jn m WC [] M3 (dM x0 x1)=Hl m M3 x0 x1
 |0,_,_=>rfl
 | M3+1,x0,x1=>
   tl (g:=fun J=>(bif (decide (x1<(List.length x0:Int))) then
  (jj J 0 6 0 (dM x0 x1) (e50 J m WG [M3]))
   else
  (jj J 0 18 0 aoq (e50 J m [1,1,1] [])))) (by simp only[ah,aow m M3 (Hl m M3) (Py m M3),ZM m];rfl)
theorem aox m x0 x1:e50 jn m [1,1,0,1] [] (dM x0 x1)=awG m x0 x1:=
 tq (g:=fun J=>(jj J 1 4 (Nat.succ m) (dM x0 x1) (l50 J m WC [] (Nat.succ m)))) (by simp only[ah,Py m];rfl)
theorem aoy m x0:e50 jn m [1,1] [] (axx x0)=awH m x0:=
 tq (g:=fun J=>(jj J 0 4 0 (dM x0 0) (e50 J m [1,1,0,1] []))) (by simp only[ah,aox m];rfl)
theorem aoz m x0 x1:e50 jn m [1,0,1] [] (aor x0 x1)=Oh m x0 x1:=
 tq (g:=fun J=>(bif x1 then
  some 21
   else
  (jj J 0 3 0 (axx x0) (e50 J m [1,1] [])))) (by simp only[ah,aoy m];rfl)
theorem aFh m a0:e50 jn m [] [] ⟨[.dat 43 (.lst a0)],[],0⟩=zH (m+1) a0:=
 tq (g:=fun J=>(bif (decide ((List.length a0:Int)<1)) then
  (jj J 0 2 0 (aor a0 true) (e50 J m [1,0,1] []))
   else
  (jj J 0 2 0 (aor a0 (decide (32<(List.length a0:Int)))) (e50 J m [1,0,1] [])))) (by simp only[ah,aoz m];rfl)
def axz:List Nat:=[1,1,1,1,1]
def aoA:List Nat:=[1,1,1,1,0,1]
def Pz:List Nat:=aoA++[0]
def WI:List Nat:=Pz++[0,1]
def axA:List Nat:=WI++[1]
def aoB:List Nat:=WI++[0,0,1]
def aoC:List Nat:=aoB++[1]
noncomputable def e55 (J:Q1) (m:Nat):=evAt Tryz.prog env (ct m) J (m+1) 86 46 Tryz.f86 d57
noncomputable def l55 (J:Q1) (m:Nat):=loopAt Tryz.prog env (ct m) J (m+1) 86 46 Tryz.f86 d57
noncomputable def jW (x0:Int) (x1:Dt):St:=⟨tsOf [(1,.ptr 0 [] 0),(4,.dat 3 (.int x0))],[.box 71 (.dat 71 x1)],0⟩
noncomputable def aoD (x0:Int) (x1:Bool) (x2:Dt):St:=⟨tsOf [(1,.ptr 0 [] 0),(4,.dat 3 (.int x0)),(45,.dat 4 (.bool x1))],[.box 71 (.dat 71 x2)],0⟩
noncomputable def axB:St:=⟨tsOf [],[],0⟩
noncomputable def WJ (x0:Dt):St:=⟨tsOf [(1,.ptr 0 [] 0)],[.box 71 (.dat 71 x0)],0⟩
abbrev WK (m M3:Nat) (rec3:Q8):Prop:=∀x0 x1,l55 jn m Pz [] M3 (jW x0 x1)=rec3 x0 x1
theorem aoE m M3 rec3 (h3:WK m M3 rec3) x0 x1:e55 jn m axA [M3] (jW x0 x1)=ajD m rec3 x0 x1:=
 tq (g:=fun J=>(jj J 1 7 M3 (jW (IntKind.wrap .i64 (x0+1)) x1) (l55 J m Pz [] M3))) (by simp only[ah,h3];rfl)
theorem aoF m M3 rec3 (h3:WK m M3 rec3) x0 x1 x2:e55 jn m aoC [M3] (aoD x0 x1 x2)=Oi m rec3 x0 x1 x2:=
 tq (g:=fun J=>(bif x1 then
  some 1
   else
  (jj J 0 8 0 (jW x0 x2) (e55 J m axA [M3])))) (by simp only[ah,aoE m M3 rec3 h3];rfl)
theorem aoG m M3 rec3 (h3:WK m M3 rec3) x0 x1:e55 jn m aoB [M3] (jW x0 x1)=ajE m rec3 x0 x1:=
 tq (g:=fun J=>(bif (decide (0<x0)) then
  ((idx (Dt.L x1 14) (IntKind.wrap .i64 (x0-1))).bind fun v3=>
  ((idx (Dt.L x1 14) x0).bind fun v4=>
  ((qD m v3 v4).bind fun r5=>
  (jj J 0 12 0 (aoD x0 (decide (0≤r5)) x1) (e55 J m aoC [M3])))))
   else
  (jj J 0 12 0 (aoD x0 false x1) (e55 J m aoC [M3])))) (by simp only[ah,aoF m M3 rec3 h3];rfl)
theorem aoH m M3 rec3 (h3:WK m M3 rec3) x0 x1:e55 jn m WI [M3] (jW x0 x1)=ajF m rec3 x0 x1:=
 tq (g:=fun J=>((idx (Dt.L x1 14) x0).bind fun v1=>
  ((y3 m v1).bind fun r2=>
  (bif (Bool.not r2) then
  some 8
  else
  (jj J 0 11 0 (jW x0 x1) (e55 J m aoB [M3])))))) (by simp only[ah,aoG m M3 rec3 h3];rfl)
theorem aoI m:e55 jn m axz [] axB=awI m:=
 tq (g:=fun J=>some 0) (by rfl)
theorem PD m:∀M3 x0 x1,l55 jn m Pz [] M3 (jW x0 x1)=CG m M3 x0 x1
 |0,_,_=>rfl
 | M3+1,x0,x1=>
   tl (g:=fun J=>(bif (decide (x0<(List.length (Dt.L x1 14):Int))) then
  (jj J 0 9 0 (jW x0 x1) (e55 J m WI [M3]))
   else
  (jj J 0 13 0 axB (e55 J m axz [])))) (by simp only[ah,aoH m M3 (CG m M3) (PD m M3),aoI m];rfl)
theorem aoJ m x0 x1:e55 jn m aoA [] (jW x0 x1)=awJ m x0 x1:=
 tq (g:=fun J=>(jj J 1 7 (Nat.succ m) (jW x0 x1) (l55 J m Pz [] (Nat.succ m)))) (by simp only[ah,PD m];rfl)
theorem aoK m x0:e55 jn m [1,1,1,1] [] (WJ x0)=awK m x0:=
 tq (g:=fun J=>(jj J 0 7 0 (jW 0 x0) (e55 J m aoA []))) (by simp only[ah,aoJ m];rfl)
theorem aoL m x0:e55 jn m [1,1,1] [] (WJ x0)=ajG m x0:=
 tq (g:=fun J=>(bif (decide ((List.length (Dt.L x0 14):Int)<2)) then
  some 21
   else
  (jj J 0 6 0 (WJ x0) (e55 J m [1,1,1,1] [])))) (by simp only[ah,aoK m];rfl)
theorem aFi m a0:e55 jn m [] [] ⟨[.dat 71 a0],[],0⟩=zO (m+1) a0:=
 tq (g:=fun J=>((yG m (Dt.fld a0 9)).bind fun r0=>
  (bif (r0 !=0) then
  some r0
  else
  (jj J 0 4 0 (WJ a0) (e55 J m [1,1,1] []))))) (by simp only[ah,aoL m];rfl)
def axC:List Nat:=[1,0,1,0,1,0,1]
def aoM:List Nat:=[1,0,1,0,1,1,1,1,1,1,1,0,1]
def aoN:List Nat:=aoM++[1]
def aoO:List Nat:=[1,0,1,0,1,1,1,1,1,1,1,1,1,1,1]
noncomputable def e58 (J:Q1) (m:Nat):=evAt Tryz.prog env (ct m) J (m+1) 89 51 Tryz.f89 d57
noncomputable def WL (x0:Dt):St:=⟨tsOf [(1,.ptr 0 [] 0)],[.box 71 (.dat 71 x0)],0⟩
noncomputable def HY:St:=⟨tsOf [],[],0⟩
noncomputable def aoP (x0:Bool):St:=⟨tsOf [(38,.dat 4 (.bool x0))],[],0⟩
noncomputable def aoQ (x0:Bool) (x1:Dt):St:=⟨tsOf [(1,.ptr 0 [] 0),(45,.dat 4 (.bool x0))],[.box 71 (.dat 71 x1)],0⟩
theorem aoR m x0:e58 jn m axC [] (WL x0)=ajH m x0:=
 tq (g:=fun J=>((zG m (Dt.L x0 4)).bind fun r0=>
  some r0)) (by rfl)
theorem Dq m:e58 jn m [1,1] [] HY=CJ m:=
 tq (g:=fun J=>some 0) (by rfl)
theorem aoS m x0:e58 jn m aoN [] (aoP x0)=V3 m x0:=
 tq (g:=fun J=>(bif x0 then
  some 9
   else
  (jj J 0 23 0 HY (e58 J m [1,1] [])))) (by simp only[ah,Dq m];rfl)
theorem aoT m x0:e58 jn m aoM [] (WL x0)=ajI m x0:=
 tq (g:=fun J=>(bif (Bool.not ((ByteArray.toList (Dt.S x0 7))==[])) then
  ((yV m (Dt.S x0 7)).bind fun r2=>
  (jj J 0 16 0 (aoP (Bool.not r2)) (e58 J m aoN [])))
   else
  (jj J 0 16 0 (aoP false) (e58 J m aoN [])))) (by simp only[ah,aoS m];rfl)
theorem aoU m x0 x1:e58 jn m aoO [] (aoQ x0 x1)=V4 m x0 x1:=
 tq (g:=fun J=>(bif x0 then
  ((yG m (Dt.fld x1 9)).bind fun r4=>
  some r4)
   else
  (jj J 0 23 0 HY (e58 J m [1,1] [])))) (by simp only[ah,Dq m];rfl)
theorem aFj m a0:e58 jn m [] [] ⟨[.dat 71 a0],[],0⟩=z6 (m+1) a0:=
 tq (g:=fun J=>(bif ((Dt.I a0 0)==4) then
  (bif ((List.length (Dt.L a0 4):Int)==0) then
  some 21
  else
  (jj J 0 5 0 (WL a0) (e58 J m axC [])))
   else
  (bif ((Dt.I a0 0)==5) then
  (bif (decide ((Dt.I a0 5)<0)) then
  some 1
  else
  (jj J 0 23 0 HY (e58 J m [1,1] [])))
  else
  (bif ((Dt.I a0 0)==6) then
  (bif (decide ((Dt.I a0 5)<1)) then
  some 1
  else
  (jj J 0 23 0 HY (e58 J m [1,1] [])))
  else
  (bif ((Dt.I a0 0)==7) then
  ((zC m (Dt.L a0 6)).bind fun r1=>
  (bif (Bool.not r1) then
  some 10
  else
  (jj J 0 15 0 (WL a0) (e58 J m aoM []))))
  else
  (bif ((Dt.I a0 0)==13) then
  ((yV m (Dt.S a0 7)).bind fun r3=>
  (bif (Bool.not r3) then
  some 9
  else
  (jj J 0 23 0 HY (e58 J m [1,1] []))))
  else
  (bif ((Dt.I a0 0)==14) then
  (jj J 0 22 0 (aoQ ((Dt.I a0 0)==14) a0) (e58 J m aoO []))
  else
  (jj J 0 22 0 (aoQ ((Dt.I a0 0)==16) a0) (e58 J m aoO []))))))))) (by simp only[ah,aoR m,Dq m,aoT m,aoU m];rfl)
def SI:List Nat:=[1,1,1,1,1]
def Dr:List Nat:=[1,1,1,0,1]
def Jw:List Nat:=[1,1,1,1,1,1]
def SN:List Nat:=[1,1,1,1,0,1]
def PE:List Nat:=SN++[0]
def SQ:List Nat:=Jw++[1]
def WM:List Nat:=SQ++[1]
def aoV:List Nat:=PE++[0,1]
def axD:List Nat:=WM++[1]
def axE:List Nat:=aoV++[1]
def aoW:List Nat:=WM++[0,1]
def PG:List Nat:=aoW++[0]
def WO:List Nat:=PG++[0,1]
def axF:List Nat:=WO++[1]
def aoX:List Nat:=WO++[0,0,1]
noncomputable def e74 (J:Q1) (m:Nat):=evAt Tryz.prog env (ct m) J (m+1) 59 136 Tryz.f59 d57
noncomputable def l74 (J:Q1) (m:Nat):=loopAt Tryz.prog env (ct m) J (m+1) 59 136 Tryz.f59 d57
noncomputable def nY (x0:Bool) (x1:Int) (x2:Dt):St:=⟨tsOf [(1,.dat 4 (.bool x0)),(2,.ptr 0 [] 0),(5,.dat 3 (.int x1))],[.box 39 (.dat 39 x2)],0⟩
noncomputable def iU (x0:Bool) (x1:Int) (x2:Dt):St:=⟨tsOf [(1,.dat 4 (.bool x0)),(2,.ptr 0 [] 0),(7,.dat 3 (.int x1))],[.box 39 (.dat 39 x2)],0⟩
noncomputable def SV (x0:Bool) (x1 x2:Int) (x3:Dt):St:=⟨tsOf [(1,.dat 4 (.bool x0)),(2,.ptr 0 [] 0),(7,.dat 3 (.int x1)),(8,.dat 23 (.int x2))],[.box 39 (.dat 39 x3)],0⟩
noncomputable def aoY:St:=⟨tsOf [],[],0⟩
noncomputable def dN (x0:Bool) (x1:Dt):St:=⟨tsOf [(1,.dat 4 (.bool x0)),(2,.ptr 0 [] 0)],[.box 39 (.dat 39 x1)],0⟩
noncomputable def PI (x0 x1:Bool) (x2:Dt):St:=⟨tsOf [(1,.dat 4 (.bool x0)),(2,.ptr 0 [] 0),(76,.dat 4 (.bool x1))],[.box 39 (.dat 39 x2)],0⟩
noncomputable def PK (x0 x1:Bool) (x2:Dt):St:=⟨tsOf [(1,.dat 4 (.bool x0)),(2,.ptr 0 [] 0),(56,.dat 4 (.bool x1))],[.box 39 (.dat 39 x2)],0⟩
noncomputable def Du (x0 x1:Bool) (x2:Dt):St:=⟨tsOf [(1,.dat 4 (.bool x0)),(2,.ptr 0 [] 0),(37,.dat 4 (.bool x1))],[.box 39 (.dat 39 x2)],0⟩
abbrev axG (m M7:Nat) (rec7:Q27):Prop:=∀x0 x1 x2,l74 jn m PE [] M7 (nY x0 x1 x2)=rec7 x0 x1 x2
theorem aoZ m M7 rec7 (h7:axG m M7 rec7) x0 x1 x2:e74 jn m axE [M7] (nY x0 x1 x2)=ajJ m (qF m) rec7 x0 x1 x2:=
 tq (g:=fun J=>(jj J 1 8 M7 (nY x0 (IntKind.wrap .i64 (x1+1)) x2) (l74 J m PE [] M7))) (by simp only[ah,h7];rfl)
theorem ao0 m M7 rec7 (h7:axG m M7 rec7) x0 x1 x2:e74 jn m aoV [M7] (nY x0 x1 x2)=ajK m (qF m) rec7 x0 x1 x2:=
 tq (g:=fun J=>((idx (Dt.L x2 3) x1).bind fun v5=>
  ((y3 m v5).bind fun r6=>
  (bif (Bool.not r6) then
  some 8
  else
  (jj J 0 9 0 (nY x0 x1 x2) (e74 J m axE [M7])))))) (by simp only[ah,aoZ m M7 rec7 h7];rfl)
abbrev SX (m M15:Nat) (rec15:Q27):Prop:=∀x0 x1 x2,l74 jn m PG [] M15 (iU x0 x1 x2)=rec15 x0 x1 x2
theorem ZN m M15 rec15 (h15:SX m M15 rec15) x0 x1 x2:e74 jn m axF [M15] (iU x0 x1 x2)=Rz m (qF m) rec15 x0 x1 x2:=
 tq (g:=fun J=>(jj J 1 21 M15 (iU x0 (IntKind.wrap .i64 (x1+1)) x2) (l74 J m PG [] M15))) (by simp only[ah,h15];rfl)
theorem ZO m M15 rec15 (h15:SX m M15 rec15) x0 x1 x2 x3:e74 jn m aoX [M15] (SV x0 x1 x2 x3)=CK m (qF m) rec15 x0 x1 x2 x3:=
 tq (g:=fun J=>(bif (x2 !=0) then
  some x2
   else
  (jj J 0 22 0 (iU x0 x1 x3) (e74 J m axF [M15])))) (by simp only[ah,ZN m M15 rec15 h15];rfl)
theorem ZP m M15 rec15 (h15:SX m M15 rec15) x0 x1 x2:e74 jn m WO [M15] (iU x0 x1 x2)=RB m (qF m) rec15 x0 x1 x2:=
 tq (g:=fun J=>((idx (Dt.L x2 8) x1).bind fun v10=>
  (bif x0 then
  ((qF m v10 true).bind fun r11=>
  (jj J 0 24 0 (SV x0 x1 r11 x2) (e74 J m aoX [M15])))
  else
  ((qF m v10 ((Dt.I x2 0)==15)).bind fun r12=>
  (jj J 0 24 0 (SV x0 x1 r12 x2) (e74 J m aoX [M15])))))) (by simp only[ah,ZO m M15 rec15 h15];rfl)
theorem ZQ m:e74 jn m axD [] aoY=ajL m (qF m):=
 tq (g:=fun J=>some 0) (by rfl)
theorem HZ m:∀M15 x0 x1 x2,l74 jn m PG [] M15 (iU x0 x1 x2)=pJ m (qF m) M15 x0 x1 x2
 |0,_,_,_=>rfl
 | M15+1,x0,x1,x2=>
   tl (g:=fun J=>(bif (decide (x1<(List.length (Dt.L x2 8):Int))) then
  (jj J 0 23 0 (iU x0 x1 x2) (e74 J m WO [M15]))
   else
  (jj J 0 26 0 aoY (e74 J m axD [])))) (by simp only[ah,ZP m M15 (pJ m (qF m) M15) (HZ m M15),ZQ m];rfl)
theorem ZR m x0 x1 x2:e74 jn m aoW [] (iU x0 x1 x2)=ajM m (qF m) x0 x1 x2:=
 tq (g:=fun J=>(jj J 1 21 (Nat.succ m) (iU x0 x1 x2) (l74 J m PG [] (Nat.succ m)))) (by simp only[ah,HZ m];rfl)
theorem ZT m x0 x1:e74 jn m WM [] (dN x0 x1)=ajN m (qF m) x0 x1:=
 tq (g:=fun J=>(jj J 0 21 0 (iU x0 0 x1) (e74 J m aoW []))) (by simp only[ah,ZR m];rfl)
theorem ZU m x0 x1:e74 jn m SQ [] (dN x0 x1)=RF m (qF m) x0 x1:=
 tq (g:=fun J=>(bif ((Dt.I x1 0)==24) then
  ((yG m (Dt.fld x1 7)).bind fun r9=>
  some r9)
   else
  (jj J 0 20 0 (dN x0 x1) (e74 J m WM [])))) (by simp only[ah,ZT m];rfl)
theorem ZV m x0 x1:e74 jn m Jw [] (dN x0 x1)=CO m (qF m) x0 x1:=
 tq (g:=fun J=>((zQ m x1).bind fun r8=>
  (bif (Bool.not r8) then
  some 4
  else
  (jj J 0 18 0 (dN x0 x1) (e74 J m SQ []))))) (by simp only[ah,ZU m];rfl)
theorem ZW m x0 x1:e74 jn m SI [] (dN x0 x1)=tT m (qF m) x0 x1:=
 tq (g:=fun J=>(bif ((Dt.I x1 0)==18) then
  ((zB m (Dt.fld x1 6)).bind fun r7=>
  (bif (r7 !=0) then
  some r7
  else
  (jj J 0 16 0 (dN x0 x1) (e74 J m Jw []))))
   else
  (jj J 0 16 0 (dN x0 x1) (e74 J m Jw [])))) (by simp only[ah,ZV m];rfl)
theorem PL m:∀M7 x0 x1 x2,l74 jn m PE [] M7 (nY x0 x1 x2)=Ho m (qF m) M7 x0 x1 x2
 |0,_,_,_=>rfl
 | M7+1,x0,x1,x2=>
   tl (g:=fun J=>(bif (decide (x1<(List.length (Dt.L x2 3):Int))) then
  ((yP m (Dt.I x2 0)).bind fun r4=>
  (bif r4 then
  (jj J 0 10 0 (nY x0 x1 x2) (e74 J m aoV [M7]))
  else
  (jj J 0 12 0 (dN x0 x2) (e74 J m SI []))))
   else
  (jj J 0 12 0 (dN x0 x2) (e74 J m SI [])))) (by simp only[ah,ao0 m M7 (Ho m (qF m) M7) (PL m M7),ZW m];rfl)
theorem ao1 m x0 x1 x2:e74 jn m SN [] (nY x0 x1 x2)=awL m (qF m) x0 x1 x2:=
 tq (g:=fun J=>(jj J 1 8 (Nat.succ m) (nY x0 x1 x2) (l74 J m PE [] (Nat.succ m)))) (by simp only[ah,PL m];rfl)
theorem ao2 m x0 x1:e74 jn m [1,1,1,1] [] (dN x0 x1)=awM m (qF m) x0 x1:=
 tq (g:=fun J=>(jj J 0 8 0 (nY x0 0 x1) (e74 J m SN []))) (by simp only[ah,ao1 m];rfl)
theorem ao3 m x0 x1 x2:e74 jn m Dr [] (PI x0 x1 x2)=CP m (qF m) x0 x1 x2:=
 tq (g:=fun J=>(bif x1 then
  some 8
   else
  (jj J 0 7 0 (dN x0 x2) (e74 J m [1,1,1,1] [])))) (by simp only[ah,ao2 m];rfl)
theorem ao4 m x0 x1:e74 jn m [1,1,1] [] (dN x0 x1)=V6 m (qF m) x0 x1:=
 tq (g:=fun J=>((y6 m (Dt.I x1 0)).bind fun r2=>
  (bif r2 then
  ((y3 m (Dt.fld x1 2)).bind fun r3=>
  (bif (Bool.not r3) then
  (jj J 0 6 0 (PI x0 true x1) (e74 J m Dr []))
  else
  ((y1 m (Dt.I x1 0)).bind fun r13=>
  (bif r13 then
  (jj J 0 6 0 (PI x0 ((Dt.I (Dt.fld x1 2) 0) !=4) x1) (e74 J m Dr []))
  else
  (jj J 0 6 0 (PI x0 false x1) (e74 J m Dr []))))))
  else
  (jj J 0 6 0 (PI x0 false x1) (e74 J m Dr []))))) (by simp only[ah,ao3 m];rfl)
theorem ao5 m x0 x1 x2:e74 jn m [1,1,0,1] [] (PK x0 x1 x2)=CQ m (qF m) x0 x1 x2:=
 tq (g:=fun J=>(bif x1 then
  some 10
   else
  (jj J 0 5 0 (dN x0 x2) (e74 J m [1,1,1] [])))) (by simp only[ah,ao4 m];rfl)
theorem ao6 m x0 x1:e74 jn m [1,1] [] (dN x0 x1)=ajO m (qF m) x0 x1:=
 tq (g:=fun J=>((vB m (Dt.I x1 0)).bind fun r0=>
  (bif r0 then
  ((zC m (Dt.L x1 1)).bind fun r1=>
  (bif (Bool.not r1) then
  (bif x0 then
  (jj J 0 4 0 (PK x0 (Bool.not ((List.length (Dt.L x1 1):Int)==0)) x1) (e74 J m [1,1,0,1] []))
  else
  (jj J 0 4 0 (PK x0 true x1) (e74 J m [1,1,0,1] [])))
  else
  (jj J 0 4 0 (PK x0 false x1) (e74 J m [1,1,0,1] []))))
  else
  (jj J 0 4 0 (PK x0 false x1) (e74 J m [1,1,0,1] []))))) (by simp only[ah,ao5 m];rfl)
theorem ao7 m x0 x1 x2:e74 jn m [1,0,1] [] (Du x0 x1 x2)=rH m (qF m) x0 x1 x2:=
 tq (g:=fun J=>(bif x1 then
  some 11
   else
  (jj J 0 3 0 (dN x0 x2) (e74 J m [1,1] [])))) (by simp only[ah,ao6 m];rfl)
theorem aFk m a0 a1:e74 jn m [] [] ⟨[.dat 39 a0,.dat 4 (.bool a1)],[],0⟩=qF (m+1) a0 a1:=
 tq (g:=fun J=>(bif (decide ((Dt.I a0 0)<1)) then
  (jj J 0 2 0 (Du a1 true a0) (e74 J m [1,0,1] []))
   else
  (bif (decide (24<(Dt.I a0 0))) then
  (jj J 0 2 0 (Du a1 true a0) (e74 J m [1,0,1] []))
  else
  ((yR m a0).bind fun r14=>
  (bif (Bool.not r14) then
  (jj J 0 2 0 (Du a1 true a0) (e74 J m [1,0,1] []))
  else
  ((yP m (Dt.I a0 0)).bind fun r15=>
  (bif r15 then
  (bif ((List.length (Dt.L a0 3):Int)==0) then
  (jj J 0 2 0 (Du a1 true a0) (e74 J m [1,0,1] []))
  else
  ((yW m a0).bind fun r16=>
  (jj J 0 2 0 (Du a1 (Bool.not r16) a0) (e74 J m [1,0,1] []))))
  else
  ((yW m a0).bind fun r17=>
  (jj J 0 2 0 (Du a1 (Bool.not r17) a0) (e74 J m [1,0,1] [])))))))))) (by simp only[ah,ao7 m];rfl)
noncomputable def e48 (J:Q1) (m:Nat):=evAt Tryz.prog env (ct m) J (m+1) 27 8 Tryz.f27 d57
noncomputable def axH (x0:Dt):St:=⟨tsOf [(1,.ptr 0 [] 0)],[.box 39 (.dat 39 x0)],0⟩
theorem ao8 m x0:e48 jn m [1,1] [] (axH x0)=ajP m x0:=
 tq (g:=fun J=>((qF m x0 false).bind fun r1=>
  some r1)) (by rfl)
theorem aFl m a0:e48 jn m [] [] ⟨[.dat 39 a0],[],0⟩=vA (m+1) a0:=
 tq (g:=fun J=>((zT m a0 16 256).bind fun r0=>
  (bif (decide (r0<0)) then
  some 2
  else
  (jj J 0 3 0 (axH a0) (e48 J m [1,1] []))))) (by simp only[ah,ao8 m];rfl)
def axI:List Nat:=[1,1,1,1,1]
def axJ:List Nat:=[1,1,1,1,1,1,1]
def WQ:List Nat:=[1,1,1,1,1,1,0,1]
noncomputable def e80 (J:Q1) (m:Nat):=evAt Tryz.prog env (ct m) J (m+1) 116 66 Tryz.f116 d57
noncomputable def axK (x0:Int):St:=⟨tsOf [(4,.dat 23 (.int x0))],[],0⟩
noncomputable def WR (x0:Int) (x1:Bool):St:=⟨tsOf [(4,.dat 23 (.int x0)),(64,.dat 4 (.bool x1))],[],0⟩
noncomputable def rZ (x0:Dt):St:=⟨tsOf [(1,.ptr 0 [] 0)],[.box 114 (.dat 114 x0)],0⟩
noncomputable def uZ (x0:Bool) (x1:Dt):St:=⟨tsOf [(1,.ptr 0 [] 0),(37,.dat 4 (.bool x0))],[.box 114 (.dat 114 x1)],0⟩
noncomputable def ao9 (x0:Bool) (x1:Dt):St:=⟨tsOf [(1,.ptr 0 [] 0),(12,.dat 4 (.bool x0))],[.box 114 (.dat 114 x1)],0⟩
theorem apa m x0:e80 jn m axJ [] (axK x0)=ajQ m x0:=
 tq (g:=fun J=>some x0) (by rfl)
theorem apb m x0 x1:e80 jn m WQ [] (WR x0 x1)=Oj m x0 x1:=
 tq (g:=fun J=>(bif x1 then
  some 1
   else
  (jj J 0 14 0 (axK x0) (e80 J m axJ [])))) (by simp only[ah,apa m];rfl)
theorem apc m x0:e80 jn m axI [] (rZ x0)=ajR m x0:=
 tq (g:=fun J=>((zG m (Dt.L x0 3)).bind fun r2=>
  (bif (r2==0) then
  (bif (decide ((Dt.I x0 4)<1)) then
  (jj J 0 13 0 (WR r2 true) (e80 J m WQ []))
  else
  (jj J 0 13 0 (WR r2 (decide (64<(Dt.I x0 4)))) (e80 J m WQ [])))
  else
  (jj J 0 13 0 (WR r2 false) (e80 J m WQ []))))) (by simp only[ah,apb m];rfl)
theorem apd m x0:e80 jn m [1,1,1,1] [] (rZ x0)=Ol m x0:=
 tq (g:=fun J=>(bif ((Dt.I x0 1) !=10) then
  some 0
   else
  (jj J 0 11 0 (rZ x0) (e80 J m axI [])))) (by simp only[ah,apc m];rfl)
theorem ape m x0:e80 jn m [1,1,1] [] (rZ x0)=ajS m x0:=
 tq (g:=fun J=>(bif ((Dt.I x0 1) !=2) then
  ((yG m (Dt.fld x0 2)).bind fun r1=>
  (bif (r1 !=0) then
  some r1
  else
  (jj J 0 9 0 (rZ x0) (e80 J m [1,1,1,1] []))))
   else
  (jj J 0 9 0 (rZ x0) (e80 J m [1,1,1,1] [])))) (by simp only[ah,apd m];rfl)
theorem apf m x0 x1:e80 jn m [1,1,0,1] [] (uZ x0 x1)=nP m x0 x1:=
 tq (g:=fun J=>(bif x0 then
  some 21
   else
  (jj J 0 5 0 (rZ x1) (e80 J m [1,1,1] [])))) (by simp only[ah,ape m];rfl)
theorem apg m x0:e80 jn m [1,1] [] (rZ x0)=ajT m x0:=
 tq (g:=fun J=>(bif ((Dt.I x0 1)==2) then
  ((yS m (Dt.fld x0 2)).bind fun r0=>
  (bif (Bool.not r0) then
  (jj J 0 4 0 (uZ true x0) (e80 J m [1,1,0,1] []))
  else
  (bif ((Dt.I x0 1) !=10) then
  (bif (decide (0<(List.length (Dt.L x0 3):Int))) then
  (jj J 0 4 0 (uZ true x0) (e80 J m [1,1,0,1] []))
  else
  (jj J 0 4 0 (uZ ((Dt.I x0 4) !=0) x0) (e80 J m [1,1,0,1] [])))
  else
  (jj J 0 4 0 (uZ false x0) (e80 J m [1,1,0,1] [])))))
   else
  (bif ((Dt.I x0 1) !=10) then
  (bif (decide (0<(List.length (Dt.L x0 3):Int))) then
  (jj J 0 4 0 (uZ true x0) (e80 J m [1,1,0,1] []))
  else
  (jj J 0 4 0 (uZ ((Dt.I x0 4) !=0) x0) (e80 J m [1,1,0,1] [])))
  else
  (jj J 0 4 0 (uZ false x0) (e80 J m [1,1,0,1] []))))) (by simp only[ah,apf m];rfl)
theorem aph m x0 x1:e80 jn m [1,0,1] [] (ao9 x0 x1)=Om m x0 x1:=
 tq (g:=fun J=>(bif x0 then
  some 11
   else
  (jj J 0 3 0 (rZ x1) (e80 J m [1,1] [])))) (by simp only[ah,apg m];rfl)
theorem aFm m a0:e80 jn m [] [] ⟨[.dat 114 a0],[],0⟩=zZ (m+1) a0:=
 tq (g:=fun J=>(bif (decide ((Dt.I a0 1)<1)) then
  (jj J 0 2 0 (ao9 true a0) (e80 J m [1,0,1] []))
   else
  (jj J 0 2 0 (ao9 (decide (10<(Dt.I a0 1))) a0) (e80 J m [1,0,1] [])))) (by simp only[ah,aph m];rfl)
def axL:List Nat:=[1,1,1,1,1]
def SY:List Nat:=[1,1,1,1,0,1]
def PN:List Nat:=SY++[0]
def PO:List Nat:=PN++[0,1]
def axM:List Nat:=PO++[1]
def apj:List Nat:=PO++[0,0,1,1]
def axN:List Nat:=apj++[1]
def apk:List Nat:=PO++[0,0,1,0,1]
def PS:List Nat:=apk++[0]
def apl:List Nat:=PS++[0,1]
def apm:List Nat:=apl++[1]
noncomputable def e51 (J:Q1) (m:Nat):=evAt Tryz.prog env (ct m) J (m+1) 82 64 Tryz.f82 d57
noncomputable def l51 (J:Q1) (m:Nat):=loopAt Tryz.prog env (ct m) J (m+1) 82 64 Tryz.f82 d57
noncomputable def lI (x0:Int) (x1:Bool) (x2:Int) (x3:Dt):St:=⟨tsOf [(1,.ptr 0 [] 0),(4,.dat 3 (.int x0)),(5,.dat 4 (.bool x1)),(6,.dat 3 (.int x2))],[.box 61 (.dat 61 x3)],0⟩
noncomputable def fM (x0:Int) (x1:Dt):St:=⟨tsOf [(1,.ptr 0 [] 0),(4,.dat 3 (.int x0))],[.box 61 (.dat 61 x1)],0⟩
noncomputable def axO (x0:Int) (x1:Bool) (x2:Dt):St:=⟨tsOf [(1,.ptr 0 [] 0),(4,.dat 3 (.int x0)),(5,.dat 4 (.bool x1))],[.box 61 (.dat 61 x2)],0⟩
noncomputable def apn:St:=⟨tsOf [],[],0⟩
noncomputable def WS (x0:Dt):St:=⟨tsOf [(1,.ptr 0 [] 0)],[.box 61 (.dat 61 x0)],0⟩
abbrev u6 (m M3:Nat) (rec3:Q8):Prop:=∀x0 x1,l51 jn m PN [] M3 (fM x0 x1)=rec3 x0 x1
abbrev axP (m M3 M6:Nat) (rec6:Q30):Prop:=∀x0 x1 x2 x3,l51 jn m PS [M3] M6 (lI x0 x1 x2 x3)=rec6 x0 x1 x2 x3
theorem apo m M3 rec3 (h3:u6 m M3 rec3) M6 rec6 (h6:axP m M3 M6 rec6) x0 x1 x2 x3:e51 jn m apm [M3,M6] (lI x0 x1 x2 x3)=Oo m rec3 rec6 x0 x1 x2 x3:=
 tq (g:=fun J=>(jj J 1 11 M6 (lI x0 x1 (IntKind.wrap .i64 (x2+1)) x3) (l51 J m PS [M3] M6))) (by simp only[ah,h6];rfl)
theorem apq m M3 rec3 (h3:u6 m M3 rec3) M6 rec6 (h6:axP m M3 M6 rec6) x0 x1 x2 x3:e51 jn m apl [M3,M6] (lI x0 x1 x2 x3)=ajU m rec3 rec6 x0 x1 x2 x3:=
 tq (g:=fun J=>(bif x1 then
  ((idx (Dt.L x3 1) x2).bind fun v3=>
  ((idx (Dt.L x3 1) x0).bind fun v4=>
  (jj J 0 12 0 (lI x0 (Bool.not ((ByteArray.toList (Dt.S v3 0))==(ByteArray.toList (Dt.S v4 0)))) x2 x3) (e51 J m apm [M3,M6]))))
   else
  (jj J 0 12 0 (lI x0 false x2 x3) (e51 J m apm [M3,M6])))) (by simp only[ah,apo m M3 rec3 h3 M6 rec6 h6];rfl)
theorem ZX m M3 rec3 (h3:u6 m M3 rec3) x0 x1:e51 jn m axM [M3] (fM x0 x1)=RG m rec3 x0 x1:=
 tq (g:=fun J=>(jj J 1 7 M3 (fM (IntKind.wrap .i64 (x0+1)) x1) (l51 J m PN [] M3))) (by simp only[ah,h3];rfl)
theorem ZY m M3 rec3 (h3:u6 m M3 rec3) x0 x1:e51 jn m axN [M3] (fM x0 x1)=RH m rec3 x0 x1:=
 tq (g:=fun J=>((idx (Dt.L x1 1) x0).bind fun v5=>
  ((zZ m v5).bind fun r6=>
  (bif (r6 !=0) then
  some r6
  else
  (jj J 0 8 0 (fM x0 x1) (e51 J m axM [M3])))))) (by simp only[ah,ZX m M3 rec3 h3];rfl)
theorem apr m M3 rec3 (h3:u6 m M3 rec3) x0 x1 x2:e51 jn m apj [M3] (axO x0 x1 x2)=ajV m rec3 x0 x1 x2:=
 tq (g:=fun J=>(bif (Bool.not x1) then
  some 9
   else
  (jj J 0 16 0 (fM x0 x2) (e51 J m axN [M3])))) (by simp only[ah,ZY m M3 rec3 h3];rfl)
theorem PU m M3 rec3 (h3:u6 m M3 rec3):∀M6 x0 x1 x2 x3,l51 jn m PS [M3] M6 (lI x0 x1 x2 x3)=CS m rec3 M6 x0 x1 x2 x3
 |0,_,_,_,_=>rfl
 | M6+1,x0,x1,x2,x3=>
   tl (g:=fun J=>(bif (decide (x2<x0)) then
  (jj J 0 13 0 (lI x0 x1 x2 x3) (e51 J m apl [M3,M6]))
   else
  (jj J 0 14 0 (axO x0 x1 x3) (e51 J m apj [M3])))) (by simp only[ah,apq m M3 rec3 h3 M6 (CS m rec3 M6) (PU m M3 rec3 h3 M6),apr m M3 rec3 h3];rfl)
theorem apt m M3 rec3 (h3:u6 m M3 rec3) x0 x1 x2 x3:e51 jn m apk [M3] (lI x0 x1 x2 x3)=awN m rec3 x0 x1 x2 x3:=
 tq (g:=fun J=>(jj J 1 11 (Nat.succ m) (lI x0 x1 x2 x3) (l51 J m PS [M3] (Nat.succ m)))) (by simp only[ah,PU m M3 rec3 h3];rfl)
theorem apu m M3 rec3 (h3:u6 m M3 rec3) x0 x1:e51 jn m PO [M3] (fM x0 x1)=ajW m rec3 x0 x1:=
 tq (g:=fun J=>((idx (Dt.L x1 1) x0).bind fun v1=>
  ((yV m (Dt.S v1 0)).bind fun r2=>
  (jj J 0 11 0 (lI x0 r2 0 x1) (e51 J m apk [M3]))))) (by simp only[ah,apt m M3 rec3 h3];rfl)
theorem Z0 m:e51 jn m axL [] apn=ajX m:=
 tq (g:=fun J=>some 0) (by rfl)
theorem PV m:∀M3 x0 x1,l51 jn m PN [] M3 (fM x0 x1)=Hq m M3 x0 x1
 |0,_,_=>rfl
 | M3+1,x0,x1=>
   tl (g:=fun J=>(bif (decide (x0<(List.length (Dt.L x1 1):Int))) then
  (jj J 0 9 0 (fM x0 x1) (e51 J m PO [M3]))
   else
  (jj J 0 19 0 apn (e51 J m axL [])))) (by simp only[ah,apu m M3 (Hq m M3) (PV m M3),Z0 m];rfl)
theorem apv m x0 x1:e51 jn m SY [] (fM x0 x1)=awO m x0 x1:=
 tq (g:=fun J=>(jj J 1 7 (Nat.succ m) (fM x0 x1) (l51 J m PN [] (Nat.succ m)))) (by simp only[ah,PV m];rfl)
theorem apw m x0:e51 jn m [1,1,1,1] [] (WS x0)=awP m x0:=
 tq (g:=fun J=>(jj J 0 7 0 (fM 0 x0) (e51 J m SY []))) (by simp only[ah,apv m];rfl)
theorem apx m x0:e51 jn m [1,1,1] [] (WS x0)=ajY m x0:=
 tq (g:=fun J=>(bif (decide (32<(List.length (Dt.L x0 1):Int))) then
  some 21
   else
  (jj J 0 6 0 (WS x0) (e51 J m [1,1,1,1] [])))) (by simp only[ah,apw m];rfl)
theorem aFo m a0:e51 jn m [] [] ⟨[.dat 61 a0],[],0⟩=zD (m+1) a0:=
 tq (g:=fun J=>((yG m (Dt.fld a0 0)).bind fun r0=>
  (bif (r0 !=0) then
  some r0
  else
  (jj J 0 4 0 (WS a0) (e51 J m [1,1,1] []))))) (by simp only[ah,apx m];rfl)
def axQ:List Nat:=[1,1,1,1,1]
def PW:List Nat:=[1,1,1,1,1,1]
def bn:List Nat:=[1,1,1,1,0,1]
def axR:List Nat:=PW++[1]
def Dv:List Nat:=PW++[0,1]
noncomputable def e82 (J:Q1) (m:Nat):=evAt Tryz.prog env (ct m) J (m+1) 118 132 Tryz.f118 d57
noncomputable def axS:St:=⟨tsOf [],[],0⟩
noncomputable def Dw (x0:Bool):St:=⟨tsOf [(131,.dat 4 (.bool x0))],[],0⟩
noncomputable def apy (x0:Dt):St:=⟨tsOf [(1,.ptr 0 [] 0)],[.box 118 (.dat 118 x0)],0⟩
noncomputable def axT (x0:Bool) (x1:Dt):St:=⟨tsOf [(1,.ptr 0 [] 0),(4,.dat 4 (.bool x0))],[.box 118 (.dat 118 x1)],0⟩
noncomputable def bq (x0 x1:Bool) (x2:Dt):St:=⟨tsOf [(1,.ptr 0 [] 0),(4,.dat 4 (.bool x0)),(93,.dat 4 (.bool x1))],[.box 118 (.dat 118 x2)],0⟩
noncomputable def apz (x0 x1:Bool) (x2:Dt):St:=⟨tsOf [(1,.ptr 0 [] 0),(3,.dat 4 (.bool x0)),(4,.dat 4 (.bool x1))],[.box 118 (.dat 118 x2)],0⟩
noncomputable def H6 (x0:Bool) (x1:Dt):St:=⟨tsOf [(1,.ptr 0 [] 0),(3,.dat 4 (.bool x0))],[.box 118 (.dat 118 x1)],0⟩
noncomputable def H7 (x0 x1:Bool) (x2:Dt):St:=⟨tsOf [(1,.ptr 0 [] 0),(3,.dat 4 (.bool x0)),(35,.dat 4 (.bool x1))],[.box 118 (.dat 118 x2)],0⟩
theorem apA m:e82 jn m axR [] axS=ajZ m:=
 tq (g:=fun J=>some 0) (by rfl)
theorem apB m x0:e82 jn m Dv [] (Dw x0)=uV m x0:=
 tq (g:=fun J=>(bif x0 then
  some 1
   else
  (jj J 0 13 0 axS (e82 J m axR [])))) (by simp only[ah,apA m];rfl)
theorem apC m x0:e82 jn m PW [] (apy x0)=Oq m x0:=
 tq (g:=fun J=>(bif (decide ((Dt.I x0 3)<(-4096))) then
  (jj J 0 12 0 (Dw true) (e82 J m Dv []))
   else
  (bif (decide (4096<(Dt.I x0 3))) then
  (jj J 0 12 0 (Dw true) (e82 J m Dv []))
  else
  (bif (decide ((Dt.I x0 4)<(-4096))) then
  (jj J 0 12 0 (Dw true) (e82 J m Dv []))
  else
  (bif (decide (4096<(Dt.I x0 4))) then
  (jj J 0 12 0 (Dw true) (e82 J m Dv []))
  else
  (bif ((Dt.I x0 1) !=24) then
  (jj J 0 12 0 (Dw (decide ((Dt.I x0 4)<(Dt.I x0 3)))) (e82 J m Dv []))
  else
  (jj J 0 12 0 (Dw false) (e82 J m Dv [])))))))) (by simp only[ah,apB m];rfl)
theorem apD m x0 x1:e82 jn m axQ [] (axT x0 x1)=V7 m x0 x1:=
 tq (g:=fun J=>(bif (Bool.not x0) then
  ((yG m (Dt.fld x1 2)).bind fun r1=>
  (bif (r1 !=0) then
  some r1
  else
  (jj J 0 11 0 (apy x1) (e82 J m PW []))))
   else
  (jj J 0 11 0 (apy x1) (e82 J m PW [])))) (by simp only[ah,apC m];rfl)
theorem apE m x0 x1 x2:e82 jn m bn [] (bq x0 x1 x2)=aZ m x0 x1 x2:=
 tq (g:=fun J=>(bif x1 then
  some 21
   else
  (jj J 0 7 0 (axT x0 x2) (e82 J m axQ [])))) (by simp only[ah,apD m];rfl)
theorem apF m x0 x1 x2:e82 jn m [1,1,1,1] [] (apz x0 x1 x2)=Ot m x0 x1 x2:=
 tq (g:=fun J=>(bif x1 then
  ((yS m (Dt.fld x2 2)).bind fun r0=>
  (bif (Bool.not r0) then
  (jj J 0 6 0 (bq x1 true x2) (e82 J m bn []))
  else
  (bif x0 then
  (bif ((Dt.I x2 3) !=0) then
  (jj J 0 6 0 (bq x1 true x2) (e82 J m bn []))
  else
  (bif ((Dt.I x2 4) !=0) then
  (jj J 0 6 0 (bq x1 true x2) (e82 J m bn []))
  else
  (bif (Dt.B x2 5) then
  (jj J 0 6 0 (bq x1 true x2) (e82 J m bn []))
  else
  (bif ((Dt.I x2 1)==24) then
  (bif ((Dt.I x2 4) !=0) then
  (jj J 0 6 0 (bq x1 true x2) (e82 J m bn []))
  else
  (bif (Dt.B x2 5) then
  (jj J 0 6 0 (bq x1 true x2) (e82 J m bn []))
  else
  (bif (Dt.B x2 5) then
  (bif ((Dt.I x2 3) !=0) then
  (jj J 0 6 0 (bq x1 true x2) (e82 J m bn []))
  else
  (jj J 0 6 0 (bq x1 ((Dt.I x2 4) !=0) x2) (e82 J m bn [])))
  else
  (jj J 0 6 0 (bq x1 false x2) (e82 J m bn [])))))
  else
  (bif (Dt.B x2 5) then
  (bif ((Dt.I x2 3) !=0) then
  (jj J 0 6 0 (bq x1 true x2) (e82 J m bn []))
  else
  (jj J 0 6 0 (bq x1 ((Dt.I x2 4) !=0) x2) (e82 J m bn [])))
  else
  (jj J 0 6 0 (bq x1 false x2) (e82 J m bn [])))))))
  else
  (bif ((Dt.I x2 1)==24) then
  (bif ((Dt.I x2 4) !=0) then
  (jj J 0 6 0 (bq x1 true x2) (e82 J m bn []))
  else
  (bif (Dt.B x2 5) then
  (jj J 0 6 0 (bq x1 true x2) (e82 J m bn []))
  else
  (bif (Dt.B x2 5) then
  (bif ((Dt.I x2 3) !=0) then
  (jj J 0 6 0 (bq x1 true x2) (e82 J m bn []))
  else
  (jj J 0 6 0 (bq x1 ((Dt.I x2 4) !=0) x2) (e82 J m bn [])))
  else
  (jj J 0 6 0 (bq x1 false x2) (e82 J m bn [])))))
  else
  (bif (Dt.B x2 5) then
  (bif ((Dt.I x2 3) !=0) then
  (jj J 0 6 0 (bq x1 true x2) (e82 J m bn []))
  else
  (jj J 0 6 0 (bq x1 ((Dt.I x2 4) !=0) x2) (e82 J m bn [])))
  else
  (jj J 0 6 0 (bq x1 false x2) (e82 J m bn [])))))))
   else
  (bif x0 then
  (bif ((Dt.I x2 3) !=0) then
  (jj J 0 6 0 (bq x1 true x2) (e82 J m bn []))
  else
  (bif ((Dt.I x2 4) !=0) then
  (jj J 0 6 0 (bq x1 true x2) (e82 J m bn []))
  else
  (bif (Dt.B x2 5) then
  (jj J 0 6 0 (bq x1 true x2) (e82 J m bn []))
  else
  (bif ((Dt.I x2 1)==24) then
  (bif ((Dt.I x2 4) !=0) then
  (jj J 0 6 0 (bq x1 true x2) (e82 J m bn []))
  else
  (bif (Dt.B x2 5) then
  (jj J 0 6 0 (bq x1 true x2) (e82 J m bn []))
  else
  (bif (Dt.B x2 5) then
  (bif ((Dt.I x2 3) !=0) then
  (jj J 0 6 0 (bq x1 true x2) (e82 J m bn []))
  else
  (jj J 0 6 0 (bq x1 ((Dt.I x2 4) !=0) x2) (e82 J m bn [])))
  else
  (jj J 0 6 0 (bq x1 false x2) (e82 J m bn [])))))
  else
  (bif (Dt.B x2 5) then
  (bif ((Dt.I x2 3) !=0) then
  (jj J 0 6 0 (bq x1 true x2) (e82 J m bn []))
  else
  (jj J 0 6 0 (bq x1 ((Dt.I x2 4) !=0) x2) (e82 J m bn [])))
  else
  (jj J 0 6 0 (bq x1 false x2) (e82 J m bn [])))))))
  else
  (bif ((Dt.I x2 1)==24) then
  (bif ((Dt.I x2 4) !=0) then
  (jj J 0 6 0 (bq x1 true x2) (e82 J m bn []))
  else
  (bif (Dt.B x2 5) then
  (jj J 0 6 0 (bq x1 true x2) (e82 J m bn []))
  else
  (bif (Dt.B x2 5) then
  (bif ((Dt.I x2 3) !=0) then
  (jj J 0 6 0 (bq x1 true x2) (e82 J m bn []))
  else
  (jj J 0 6 0 (bq x1 ((Dt.I x2 4) !=0) x2) (e82 J m bn [])))
  else
  (jj J 0 6 0 (bq x1 false x2) (e82 J m bn [])))))
  else
  (bif (Dt.B x2 5) then
  (bif ((Dt.I x2 3) !=0) then
  (jj J 0 6 0 (bq x1 true x2) (e82 J m bn []))
  else
  (jj J 0 6 0 (bq x1 ((Dt.I x2 4) !=0) x2) (e82 J m bn [])))
  else
  (jj J 0 6 0 (bq x1 false x2) (e82 J m bn []))))))) (by simp only[ah,apE m];rfl)
theorem apG m x0 x1:e82 jn m [1,1,1] [] (H6 x0 x1)=aj0 m x0 x1:=
 tq (g:=fun J=>(bif x0 then
  (jj J 0 5 0 (apz x0 true x1) (e82 J m [1,1,1,1] []))
   else
  (jj J 0 5 0 (apz x0 ((Dt.I x1 1)==2) x1) (e82 J m [1,1,1,1] [])))) (by simp only[ah,apF m];rfl)
theorem apH m x0 x1 x2:e82 jn m [1,1,0,1] [] (H7 x0 x1 x2)=CU m x0 x1 x2:=
 tq (g:=fun J=>(bif x1 then
  some 11
   else
  (jj J 0 4 0 (H6 x0 x2) (e82 J m [1,1,1] [])))) (by simp only[ah,apG m];rfl)
theorem apI m x0 x1:e82 jn m [1,1] [] (H6 x0 x1)=Ou m x0 x1:=
 tq (g:=fun J=>(bif (decide ((Dt.I x1 1)<1)) then
  (bif (Bool.not x0) then
  (jj J 0 3 0 (H7 x0 ((Dt.I x1 1) !=24) x1) (e82 J m [1,1,0,1] []))
  else
  (jj J 0 3 0 (H7 x0 false x1) (e82 J m [1,1,0,1] [])))
   else
  (bif (decide (8<(Dt.I x1 1))) then
  (bif (Bool.not x0) then
  (jj J 0 3 0 (H7 x0 ((Dt.I x1 1) !=24) x1) (e82 J m [1,1,0,1] []))
  else
  (jj J 0 3 0 (H7 x0 false x1) (e82 J m [1,1,0,1] [])))
  else
  (jj J 0 3 0 (H7 x0 false x1) (e82 J m [1,1,0,1] []))))) (by simp only[ah,apH m];rfl)
theorem aFp m a0:e82 jn m [] [] ⟨[.dat 118 a0],[],0⟩=zF (m+1) a0:=
 tq (g:=fun J=>(bif ((Dt.I a0 1)==21) then
  (jj J 0 2 0 (H6 true a0) (e82 J m [1,1] []))
   else
  (bif ((Dt.I a0 1)==22) then
  (jj J 0 2 0 (H6 true a0) (e82 J m [1,1] []))
  else
  (jj J 0 2 0 (H6 ((Dt.I a0 1)==23) a0) (e82 J m [1,1] []))))) (by simp only[ah,apI m];rfl)
def apJ:List Nat:=[1,1,1,1,1]
def axU:List Nat:=[1,1,1,1,1,1]
def S9:List Nat:=[1,1,1,1,0,1]
def Ta:List Nat:=[1,1,1,1,1,0,1]
def PX:List Nat:=Ta++[0]
def PY:List Nat:=PX++[0,1]
def axV:List Nat:=PY++[1]
def apK:List Nat:=PY++[0,0,1,1]
def axW:List Nat:=apK++[1]
def apL:List Nat:=PY++[0,0,1,0,1]
def PZ:List Nat:=apL++[0]
def apM:List Nat:=PZ++[0,1]
def apN:List Nat:=apM++[1]
noncomputable def e52 (J:Q1) (m:Nat):=evAt Tryz.prog env (ct m) J (m+1) 83 75 Tryz.f83 d57
noncomputable def l52 (J:Q1) (m:Nat):=loopAt Tryz.prog env (ct m) J (m+1) 83 75 Tryz.f83 d57
noncomputable def gH (x0:Int) (x1:Bool) (x2:Int) (x3:Dt):St:=⟨tsOf [(1,.ptr 0 [] 0),(4,.dat 3 (.int x0)),(5,.dat 4 (.bool x1)),(6,.dat 3 (.int x2))],[.box 64 (.dat 64 x3)],0⟩
noncomputable def fO (x0:Int) (x1:Dt):St:=⟨tsOf [(1,.ptr 0 [] 0),(4,.dat 3 (.int x0))],[.box 64 (.dat 64 x1)],0⟩
noncomputable def apO (x0:Int) (x1:Bool) (x2:Dt):St:=⟨tsOf [(1,.ptr 0 [] 0),(4,.dat 3 (.int x0)),(5,.dat 4 (.bool x1))],[.box 64 (.dat 64 x2)],0⟩
noncomputable def apP:St:=⟨tsOf [],[],0⟩
noncomputable def WT (x0:Dt):St:=⟨tsOf [(1,.ptr 0 [] 0)],[.box 64 (.dat 64 x0)],0⟩
noncomputable def apQ (x0:Bool) (x1:Dt):St:=⟨tsOf [(1,.ptr 0 [] 0),(28,.dat 4 (.bool x0))],[.box 64 (.dat 64 x1)],0⟩
noncomputable def apR (x0:Int) (x1:Dt):St:=⟨tsOf [(1,.ptr 0 [] 0),(3,.dat 23 (.int x0))],[.box 64 (.dat 64 x1)],0⟩
abbrev u7 (m M5:Nat) (rec5:Q8):Prop:=∀x0 x1,l52 jn m PX [] M5 (fO x0 x1)=rec5 x0 x1
abbrev axX (m M5 M8:Nat) (rec8:Q30):Prop:=∀x0 x1 x2 x3,l52 jn m PZ [M5] M8 (gH x0 x1 x2 x3)=rec8 x0 x1 x2 x3
theorem Z4 m M5 rec5 (h5:u7 m M5 rec5) M8 rec8 (h8:axX m M5 M8 rec8) x0 x1 x2 x3:e52 jn m apN [M5,M8] (gH x0 x1 x2 x3)=CV m rec5 rec8 x0 x1 x2 x3:=
 tq (g:=fun J=>(jj J 1 13 M8 (gH x0 x1 (IntKind.wrap .i64 (x2+1)) x3) (l52 J m PZ [M5] M8))) (by simp only[ah,h8];rfl)
theorem apS m M5 rec5 (h5:u7 m M5 rec5) M8 rec8 (h8:axX m M5 M8 rec8) x0 x1 x2 x3:e52 jn m apM [M5,M8] (gH x0 x1 x2 x3)=aj1 m rec5 rec8 x0 x1 x2 x3:=
 tq (g:=fun J=>(bif x1 then
  ((idx (Dt.L x3 2) x2).bind fun v4=>
  ((idx (Dt.L x3 2) x0).bind fun v5=>
  (jj J 0 14 0 (gH x0 (Bool.not ((ByteArray.toList (Dt.S v4 0))==(ByteArray.toList (Dt.S v5 0)))) x2 x3) (e52 J m apN [M5,M8]))))
   else
  (jj J 0 14 0 (gH x0 false x2 x3) (e52 J m apN [M5,M8])))) (by simp only[ah,Z4 m M5 rec5 h5 M8 rec8 h8];rfl)
theorem Z5 m M5 rec5 (h5:u7 m M5 rec5) x0 x1:e52 jn m axV [M5] (fO x0 x1)=RI m rec5 x0 x1:=
 tq (g:=fun J=>(jj J 1 9 M5 (fO (IntKind.wrap .i64 (x0+1)) x1) (l52 J m PX [] M5))) (by simp only[ah,h5];rfl)
theorem Z6 m M5 rec5 (h5:u7 m M5 rec5) x0 x1:e52 jn m axW [M5] (fO x0 x1)=RJ m rec5 x0 x1:=
 tq (g:=fun J=>((idx (Dt.L x1 2) x0).bind fun v6=>
  ((zF m v6).bind fun r7=>
  (bif (r7 !=0) then
  some r7
  else
  (jj J 0 10 0 (fO x0 x1) (e52 J m axV [M5])))))) (by simp only[ah,Z5 m M5 rec5 h5];rfl)
theorem Z7 m M5 rec5 (h5:u7 m M5 rec5) x0 x1 x2:e52 jn m apK [M5] (apO x0 x1 x2)=I9 m rec5 x0 x1 x2:=
 tq (g:=fun J=>(bif (Bool.not x1) then
  some 9
   else
  (jj J 0 18 0 (fO x0 x2) (e52 J m axW [M5])))) (by simp only[ah,Z6 m M5 rec5 h5];rfl)
theorem P5 m M5 rec5 (h5:u7 m M5 rec5):∀M8 x0 x1 x2 x3,l52 jn m PZ [M5] M8 (gH x0 x1 x2 x3)=Hr m rec5 M8 x0 x1 x2 x3
 |0,_,_,_,_=>rfl
 | M8+1,x0,x1,x2,x3=>
   tl (g:=fun J=>(bif (decide (x2<x0)) then
  (jj J 0 15 0 (gH x0 x1 x2 x3) (e52 J m apM [M5,M8]))
   else
  (jj J 0 16 0 (apO x0 x1 x3) (e52 J m apK [M5])))) (by simp only[ah,apS m M5 rec5 h5 M8 (Hr m rec5 M8) (P5 m M5 rec5 h5 M8),Z7 m M5 rec5 h5];rfl)
theorem apT m M5 rec5 (h5:u7 m M5 rec5) x0 x1 x2 x3:e52 jn m apL [M5] (gH x0 x1 x2 x3)=aj2 m rec5 x0 x1 x2 x3:=
 tq (g:=fun J=>(jj J 1 13 (Nat.succ m) (gH x0 x1 x2 x3) (l52 J m PZ [M5] (Nat.succ m)))) (by simp only[ah,P5 m M5 rec5 h5];rfl)
theorem apU m M5 rec5 (h5:u7 m M5 rec5) x0 x1:e52 jn m PY [M5] (fO x0 x1)=aj3 m rec5 x0 x1:=
 tq (g:=fun J=>((idx (Dt.L x1 2) x0).bind fun v2=>
  ((yV m (Dt.S v2 0)).bind fun r3=>
  (jj J 0 13 0 (gH x0 r3 0 x1) (e52 J m apL [M5]))))) (by simp only[ah,apT m M5 rec5 h5];rfl)
theorem Z8 m:e52 jn m axU [] apP=aj4 m:=
 tq (g:=fun J=>some 0) (by rfl)
theorem P6 m:∀M5 x0 x1,l52 jn m PX [] M5 (fO x0 x1)=CX m M5 x0 x1
 |0,_,_=>rfl
 | M5+1,x0,x1=>
   tl (g:=fun J=>(bif (decide (x0<(List.length (Dt.L x1 2):Int))) then
  (jj J 0 11 0 (fO x0 x1) (e52 J m PY [M5]))
   else
  (jj J 0 21 0 apP (e52 J m axU [])))) (by simp only[ah,apU m M5 (CX m M5) (P6 m M5),Z8 m];rfl)
theorem apV m x0 x1:e52 jn m Ta [] (fO x0 x1)=aj5 m x0 x1:=
 tq (g:=fun J=>(jj J 1 9 (Nat.succ m) (fO x0 x1) (l52 J m PX [] (Nat.succ m)))) (by simp only[ah,P6 m];rfl)
theorem apW m x0:e52 jn m apJ [] (WT x0)=aj6 m x0:=
 tq (g:=fun J=>(jj J 0 9 0 (fO 0 x0) (e52 J m Ta []))) (by simp only[ah,apV m];rfl)
theorem apX m x0 x1:e52 jn m S9 [] (apQ x0 x1)=V8 m x0 x1:=
 tq (g:=fun J=>(bif x0 then
  some 21
   else
  (jj J 0 8 0 (WT x1) (e52 J m apJ [])))) (by simp only[ah,apW m];rfl)
theorem apY m x0:e52 jn m [1,1,1,1] [] (WT x0)=aj7 m x0:=
 tq (g:=fun J=>(bif (decide ((List.length (Dt.L x0 2):Int)<1)) then
  (jj J 0 7 0 (apQ true x0) (e52 J m S9 []))
   else
  (jj J 0 7 0 (apQ (decide (32<(List.length (Dt.L x0 2):Int))) x0) (e52 J m S9 [])))) (by simp only[ah,apX m];rfl)
theorem apZ m x0 x1:e52 jn m [1,1,1] [] (apR x0 x1)=Ov m x0 x1:=
 tq (g:=fun J=>(bif (x0 !=0) then
  some x0
   else
  (jj J 0 6 0 (WT x1) (e52 J m [1,1,1,1] [])))) (by simp only[ah,apY m];rfl)
theorem aFq m a0:e52 jn m [] [] ⟨[.dat 64 a0],[],0⟩=qM (m+1) a0:=
 tq (g:=fun J=>((yG m (Dt.fld a0 0)).bind fun r0=>
  (bif (r0==0) then
  ((zG m (Dt.L a0 1)).bind fun r1=>
  (jj J 0 4 0 (apR r1 a0) (e52 J m [1,1,1] [])))
  else
  (jj J 0 4 0 (apR r0 a0) (e52 J m [1,1,1] []))))) (by simp only[ah,apZ m];rfl)
def ap0:List Nat:=[1,0,1,0,0,1]
def aFr:List Nat:=ap0++[1]
def aFs:List Nat:=ap0++[0,0,1,1]
def Tc:List Nat:=ap0++[0,0,1,0,1]
noncomputable def e8 (J:Q1) (m:Nat):=evAt Tryz.prog env (ct m) J (m+1) 15 51 Tryz.f15 d57
noncomputable def l8 (J:Q1) (m:Nat):=loopAt Tryz.prog env (ct m) J (m+1) 15 51 Tryz.f15 d57
noncomputable def DZ (x0:List Dt) (x1:Bool) (x2:Int):St:=⟨tsOf [(0,.dat 22 (.lst x0)),(1,.dat 4 (.bool x1)),(5,.dat 3 (.int x2))],[],0⟩
noncomputable def aFt (x0:List Dt) (x1:Bool) (x2:Int) (x3:Dt):St:=⟨tsOf [(0,.dat 22 (.lst x0)),(1,.dat 4 (.bool x1)),(5,.dat 3 (.int x2)),(6,.ptr 0 [] 0)],[.box 71 (.dat 71 x3)],0⟩
noncomputable def Td (x0:List Dt) (x1:Bool) (x2:Int) (x3:Bool) (x4:Dt):St:=⟨tsOf [(0,.dat 22 (.lst x0)),(1,.dat 4 (.bool x1)),(5,.dat 3 (.int x2)),(6,.ptr 0 [] 0),(45,.dat 4 (.bool x3))],[.box 71 (.dat 71 x4)],0⟩
noncomputable def aFu:St:=⟨tsOf [],[],0⟩
abbrev atx (m M1:Nat) (rec1:Q31):Prop:=∀x0 x1 x2,l8 jn m [1,0,1,0] [] M1 (DZ x0 x1 x2)=rec1 x0 x1 x2
theorem ap1 m M1 rec1 (h1:atx m M1 rec1) x0 x1 x2:e8 jn m aFr [M1] (DZ x0 x1 x2)=aj8 m (yK m) rec1 x0 x1 x2:=
 tq (g:=fun J=>(jj J 1 2 M1 (DZ x0 x1 (IntKind.wrap .i64 (x2+1))) (l8 J m [1,0,1,0] [] M1))) (by simp only[ah,h1];rfl)
theorem ap2 m M1 rec1 (h1:atx m M1 rec1) x0 x1 x2 x3:e8 jn m aFs [M1] (aFt x0 x1 x2 x3)=aj9 m (yK m) rec1 x0 x1 x2 x3:=
 tq (g:=fun J=>((yK m x3).bind fun r1=>
  (bif (r1 !=0) then
  some r1
  else
  (jj J 0 3 0 (DZ x0 x1 x2) (e8 J m aFr [M1]))))) (by simp only[ah,ap1 m M1 rec1 h1];rfl)
theorem ap3 m M1 rec1 (h1:atx m M1 rec1) x0 x1 x2 x3 x4:e8 jn m Tc [M1] (Td x0 x1 x2 x3 x4)=rJ m (yK m) rec1 x0 x1 x2 x3 x4:=
 tq (g:=fun J=>(bif x3 then
  some 21
   else
  (jj J 0 7 0 (aFt x0 x1 x2 x4) (e8 J m aFs [M1])))) (by simp only[ah,ap2 m M1 rec1 h1];rfl)
theorem ap4 m M1 rec1 (h1:atx m M1 rec1) x0 x1 x2:e8 jn m ap0 [M1] (DZ x0 x1 x2)=akb m (yK m) rec1 x0 x1 x2:=
 tq (g:=fun J=>((idx x0 x2).bind fun v0=>
  (bif (decide ((Dt.I v0 0)<1)) then
  (jj J 0 6 0 (Td x0 x1 x2 true v0) (e8 J m Tc [M1]))
  else
  (bif (decide (18<(Dt.I v0 0))) then
  (jj J 0 6 0 (Td x0 x1 x2 true v0) (e8 J m Tc [M1]))
  else
  (bif ((Dt.I v0 0)==18) then
  (bif (Bool.not x1) then
  (jj J 0 6 0 (Td x0 x1 x2 true v0) (e8 J m Tc [M1]))
  else
  (bif (decide (x2<(IntKind.wrap .i64 ((List.length x0:Int)-1)))) then
  (jj J 0 6 0 (Td x0 x1 x2 true v0) (e8 J m Tc [M1]))
  else
  ((qO m v0).bind fun r2=>
  (jj J 0 6 0 (Td x0 x1 x2 r2 v0) (e8 J m Tc [M1])))))
  else
  ((qO m v0).bind fun r3=>
  (jj J 0 6 0 (Td x0 x1 x2 r3 v0) (e8 J m Tc [M1])))))))) (by simp only[ah,ap3 m M1 rec1 h1];rfl)
theorem ap5 m:e8 jn m [1,1] [] aFu=awQ m (yK m):=
 tq (g:=fun J=>some 0) (by rfl)
theorem P7 m:∀M1 x0 x1 x2,l8 jn m [1,0,1,0] [] M1 (DZ x0 x1 x2)=CY m (yK m) M1 x0 x1 x2
 |0,_,_,_=>rfl
 | M1+1,x0,x1,x2=>
   tl (g:=fun J=>(bif (decide (x2<(List.length x0:Int))) then
  (jj J 0 4 0 (DZ x0 x1 x2) (e8 J m ap0 [M1]))
   else
  (jj J 0 10 0 aFu (e8 J m [1,1] [])))) (by simp only[ah,ap4 m M1 (CY m (yK m) M1) (P7 m M1),ap5 m];rfl)
theorem ap6 m x0 x1 x2:e8 jn m [1,0,1] [] (DZ x0 x1 x2)=awR m (yK m) x0 x1 x2:=
 tq (g:=fun J=>(jj J 1 2 (Nat.succ m) (DZ x0 x1 x2) (l8 J m [1,0,1,0] [] (Nat.succ m)))) (by simp only[ah,P7 m];rfl)
theorem aFv m a0 a1:e8 jn m [] [] ⟨[.dat 22 (.lst a0),.dat 4 (.bool a1)],[],0⟩=qV (m+1) a0 a1:=
 tq (g:=fun J=>(jj J 0 2 0 (DZ a0 a1 0) (e8 J m [1,0,1] []))) (by simp only[ah,ap6 m];rfl)
def ap7:List Nat:=[1,0,1,0,1,1,1,1,1,1,1,1,1,1,1]
noncomputable def e18 (J:Q1) (m:Nat):=evAt Tryz.prog env (ct m) J (m+1) 36 55 Tryz.f36 d57
noncomputable def axY (x0:Dt):St:=⟨tsOf [(1,.ptr 0 [] 0)],[.box 71 (.dat 71 x0)],0⟩
noncomputable def ap8 (x0:Int) (x1:Bool) (x2:Dt):St:=⟨tsOf [(1,.ptr 0 [] 0),(4,.dat 3 (.int x0)),(30,.dat 4 (.bool x1))],[.box 71 (.dat 71 x2)],0⟩
theorem ap9 m x0:e18 jn m [1,1] [] (axY x0)=akc m (zR m) (qT m) x0:=
 tq (g:=fun J=>((z6 m x0).bind fun r10=>
  some r10)) (by rfl)
theorem aqa m x0 x1 x2:e18 jn m ap7 [] (ap8 x0 x1 x2)=Ow m (zR m) (qT m) x0 x1 x2:=
 tq (g:=fun J=>(bif x1 then
  ((zR m x2).bind fun r5=>
  some r5)
   else
  (bif (x0==11) then
  ((qT m (Dt.L x2 13)).bind fun r6=>
  some r6)
  else
  (bif (x0==12) then
  ((zO m x2).bind fun r7=>
  some r7)
  else
  (bif (x0==17) then
  ((yL m x2).bind fun r8=>
  some r8)
  else
  (bif (x0==18) then
  ((qQ m (Dt.fld x2 15)).bind fun r9=>
  some r9)
  else
  (jj J 0 23 0 (axY x2) (e18 J m [1,1] [])))))))) (by simp only[ah,ap9 m];rfl)
theorem aFw m a0:e18 jn m [] [] ⟨[.dat 71 a0],[],0⟩=yK (m+1) a0:=
 tq (g:=fun J=>(bif ((Dt.I a0 0)==1) then
  ((vA m (Dt.fld a0 1)).bind fun r0=>
  some r0)
   else
  (bif ((Dt.I a0 0)==2) then
  ((qS m (Dt.fld a0 2)).bind fun r1=>
  some r1)
  else
  (bif ((Dt.I a0 0)==3) then
  ((zH m (Dt.L a0 3)).bind fun r2=>
  some r2)
  else
  (bif ((Dt.I a0 0)==8) then
  ((zD m (Dt.fld a0 10)).bind fun r3=>
  some r3)
  else
  (bif ((Dt.I a0 0)==9) then
  ((qM m (Dt.fld a0 11)).bind fun r4=>
  some r4)
  else
  (bif ((Dt.I a0 0)==10) then
  (jj J 0 14 0 (ap8 (Dt.I a0 0) ((Dt.I a0 0)==10) a0) (e18 J m ap7 []))
  else
  (jj J 0 14 0 (ap8 (Dt.I a0 0) ((Dt.I a0 0)==15) a0) (e18 J m ap7 []))))))))) (by simp only[ah,aqa m];rfl)
def axZ:List Nat:=[1,1,1,1,1]
def ax0:List Nat:=[1,1,1,1,1,1]
def aqb:List Nat:=[1,1,1,1,0,1]
def ax1:List Nat:=[1,1,1,0,1,0,1]
def WU:List Nat:=[1,1,1,0,1,0,0,1]
noncomputable def e53 (J:Q1) (m:Nat):=evAt Tryz.prog env (ct m) J (m+1) 84 48 Tryz.f84 d57
noncomputable def vg (x0:Dt):St:=⟨tsOf [(3,.ptr 0 [] 0)],[.box 66 (.dat 66 x0)],0⟩
noncomputable def WX (x0:Bool) (x1:Dt):St:=⟨tsOf [(3,.ptr 0 [] 0),(27,.dat 4 (.bool x0))],[.box 66 (.dat 66 x1)],0⟩
noncomputable def aqc (x0:Bool) (x1:Dt):St:=⟨tsOf [(3,.ptr 0 [] 0),(40,.dat 4 (.bool x0))],[.box 66 (.dat 66 x1)],0⟩
noncomputable def ax2 (x0 x1:Dt):St:=⟨tsOf [(1,.ptr 0 [] 0),(3,.ptr 1 [] 0)],[.box 71 (.dat 71 x0),.box 66 (.dat 66 x1)],0⟩
theorem aqd m x0:e53 jn m ax1 [] (vg x0)=V9 m (qV m) x0:=
 tq (g:=fun J=>((qV m (Dt.L x0 4) false).bind fun r1=>
  some r1)) (by rfl)
theorem aqe m x0 x1:e53 jn m WU [] (WX x0 x1)=Ht m (qV m) x0 x1:=
 tq (g:=fun J=>(bif x0 then
  some 21
   else
  (jj J 0 7 0 (vg x1) (e53 J m ax1 [])))) (by simp only[ah,aqd m];rfl)
theorem aqf m x0:e53 jn m ax0 [] (vg x0)=akd m (qV m) x0:=
 tq (g:=fun J=>((qV m (Dt.L x0 4) false).bind fun r4=>
  some r4)) (by rfl)
theorem aqg m x0:e53 jn m axZ [] (vg x0)=ake m (qV m) x0:=
 tq (g:=fun J=>((yV m (Dt.S x0 3)).bind fun r3=>
  (bif (Bool.not r3) then
  some 9
  else
  (jj J 0 12 0 (vg x0) (e53 J m ax0 []))))) (by simp only[ah,aqf m];rfl)
theorem aqh m x0 x1:e53 jn m aqb [] (aqc x0 x1)=Ox m (qV m) x0 x1:=
 tq (g:=fun J=>(bif x0 then
  some 10
   else
  (jj J 0 10 0 (vg x1) (e53 J m axZ [])))) (by simp only[ah,aqg m];rfl)
theorem aqi m x0:e53 jn m [1,1,1,1] [] (vg x0)=akf m (qV m) x0:=
 tq (g:=fun J=>((zC m (Dt.L x0 1)).bind fun r2=>
  (bif (Bool.not r2) then
  (jj J 0 9 0 (aqc true x0) (e53 J m aqb []))
  else
  ((zC m (Dt.L x0 2)).bind fun r5=>
  (jj J 0 9 0 (aqc (Bool.not r5) x0) (e53 J m aqb [])))))) (by simp only[ah,aqh m];rfl)
theorem aqj m x0 x1:e53 jn m [1,1,1] [] (ax2 x0 x1)=akg m (qV m) x0 x1:=
 tq (g:=fun J=>(bif ((Dt.I x0 0)==15) then
  (bif (decide (0<(List.length (Dt.L x1 1):Int))) then
  (jj J 0 6 0 (WX true x1) (e53 J m WU []))
  else
  (bif (decide (0<(List.length (Dt.L x1 2):Int))) then
  (jj J 0 6 0 (WX true x1) (e53 J m WU []))
  else
  (jj J 0 6 0 (WX (Bool.not ((ByteArray.toList (Dt.S x1 3))==[])) x1) (e53 J m WU []))))
   else
  (jj J 0 8 0 (vg x1) (e53 J m [1,1,1,1] [])))) (by simp only[ah,aqe m,aqi m];rfl)
theorem aFx m a0:e53 jn m [] [] ⟨[.dat 71 a0],[],0⟩=zR (m+1) a0:=
 tq (g:=fun J=>((zE m (Dt.S (Dt.fld a0 12) 0)).bind fun r0=>
  (bif (Bool.not r0) then
  some 9
  else
  (jj J 0 4 0 (ax2 a0 (Dt.fld a0 12)) (e53 J m [1,1,1] []))))) (by simp only[ah,aqj m];rfl)
end Go.Proofs.YtjnkagkoolbodaaGreatDoor
