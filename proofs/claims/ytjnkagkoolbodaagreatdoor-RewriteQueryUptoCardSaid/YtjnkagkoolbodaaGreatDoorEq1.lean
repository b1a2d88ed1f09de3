/- Generated: each function's run in the abstract machine is its shallow function. -/
import Derived.Test.YtjnkagkoolbodaaGreatDoorCt
import Derived.Test.YtjnkagkoolbodaaGreatDoorAmEnv
import Derived.KernelRfl
set_option linter.unusedVariables false
set_option linter.unusedSimpArgs false
noncomputable section
namespace Go.Proofs.YtjnkagkoolbodaaGreatDoor
open Go.Am
set_option maxRecDepth 100000
def aN3:List Nat:=[1,1,0,1,0]
def aVt:List Nat:=[1,1,0,1,0,0,1]
def aWX:List Nat:=aVt++[1]
def e6 (J:Q0) m:=evAt Tryz.prog env (ct m) J (m+1) 10 27 Tryz.f10 d17
def l6 (J:Q0) m:=loopAt Tryz.prog env (ct m) J (m+1) 10 27 Tryz.f10 d17
def apI x0 x1 x2:=stO [tsL 0 22 x0,tsL 1 22 x1,tsI 5 x2] []
def aWY:=stO [] []
def aWZ x0 x1:=stO [tsL 0 22 x0,tsL 1 22 x1] []
abbrev aW0 (m M2:Nat) (rec2:Q11):Prop:=∀x0 x1 x2,l6 jn m aN3 [] M2 (apI x0 x1 x2)=rec2 x0 x1 x2
theorem ah6 m M2 rec2 (h2:aW0 m M2 rec2) x0 x1 x2:e6 jn m aWX [M2] (apI x0 x1 x2)=xQ m (bH m) rec2 x0 x1 x2:=
 tq (g:=fun J=>(jj J 1 4 M2 (apI x0 x1 (IntKind.wrap .i64 (x2+1))) (l6 J m aN3 [] M2))) (by simp only[ah,h2];rfl)
theorem ah7 m M2 rec2 (h2:aW0 m M2 rec2) x0 x1 x2:e6 jn m aVt [M2] (apI x0 x1 x2)=xR m (bH m) rec2 x0 x1 x2:=
 tq (g:=fun J=>((idx x0 x2).bind fun v0=>
  ((idx x1 x2).bind fun v1=>
  ((bH m v0 v1).bind fun r2=>
  (bif (Bool.not r2) then
  some false
  else
  (jj J 0 5 0 (apI x0 x1 x2) (e6 J m aWX [M2]))))))) (by simp only[ah,ah6 m M2 rec2 h2];rfl)
theorem ah8 m:e6 jn m [1,1,1] [] aWY=xS m (bH m):=
 tq (g:=fun J=>some true) (by rfl)
theorem O1 m:∀M2 x0 x1 x2,l6 jn m aN3 [] M2 (apI x0 x1 x2)=uw m (bH m) M2 x0 x1 x2
 |0,_,_,_=>rfl
 | M2+1,x0,x1,x2=>
   tl (g:=fun J=>(bif (decide (x2<(List.length x0:Int))) then
  (jj J 0 6 0 (apI x0 x1 x2) (e6 J m aVt [M2]))
   else
  (jj J 0 8 0 aWY (e6 J m [1,1,1] [])))) (by simp only[ah,ah7 m M2 (uw m (bH m) M2) (O1 m M2),ah8 m];rfl)
theorem ah9 m x0 x1 x2:e6 jn m [1,1,0,1] [] (apI x0 x1 x2)=xU m (bH m) x0 x1 x2:=
 tq (g:=fun J=>(jj J 1 4 (Nat.succ m) (apI x0 x1 x2) (l6 J m aN3 [] (Nat.succ m)))) (by simp only[ah,O1 m];rfl)
theorem aia m x0 x1:e6 jn m [1,1] [] (aWZ x0 x1)=xV m (bH m) x0 x1:=
 tq (g:=fun J=>(jj J 0 4 0 (apI x0 x1 0) (e6 J m [1,1,0,1] []))) (by simp only[ah,ah9 m];rfl)
theorem apJ m a0 a1:e6 jn m [] [] ⟨[.dat 22 (.lst a0),.dat 22 (.lst a1)],[],0⟩=bg (m+1) a0 a1:=
 tq (g:=fun J=>(bif ((List.length a0:Int) !=(List.length a1:Int)) then
  some false
   else
  (jj J 0 3 0 (aWZ a0 a1) (e6 J m [1,1] [])))) (by simp only[ah,aia m];rfl)
def aSQ:List Nat:=[1,1,1,1,1]
def aSR:List Nat:=[1,1,1,1,0,1]
def e23 (J:Q0) m:=evAt Tryz.prog env (ct m) J (m+1) 31 189 Tryz.f31 d17
def aq4 x0 x1:=stO [tsP 2 0,tsP 3 1] [obX 71 x0,obX 71 x1]
def aSS x0 x1 x2:=stO [tsP 2 0,tsP 3 1,tsB 144 x0] [obX 71 x1,obX 71 x2]
def aST x0 x1 x2:=stO [tsP 2 0,tsP 3 1,tsB 96 x0] [obX 71 x1,obX 71 x2]
def aSU x0 x1 x2:=stO [tsP 2 0,tsP 3 1,tsB 45 x0] [obX 71 x1,obX 71 x2]
theorem R5 m x0 x1:e23 jn m aSQ [] (aq4 x0 x1)=rQ m (bg m) (bO m) x0 x1:=
 tq (g:=fun J=>rQ m (bg m) (bO m) x0 x1) (by rfl)
theorem R6 m x0 x1 x2:e23 jn m aSR [] (aSS x0 x1 x2)=zn m (bg m) (bO m) x0 x1 x2:=
 tq (g:=fun J=>(bif x0 then
  some false
   else
  (jj J 0 8 0 (aq4 x1 x2) (e23 J m aSQ [])))) (by simp only[ah,R5 m];rfl)
theorem R7 m x0 x1:e23 jn m [1,1,1] [] (aq4 x0 x1)=zo m (bg m) (bO m) x0 x1:=
 tq (g:=fun J=>wY (fun y0 y1 y2=>jj J 0 7 0 (aSS y0 y1 y2) (e23 J m aSR [])) m (bg m) (bO m) x0 x1) (by simp only[ah,R6 m];rfl)
theorem R8 m x0 x1 x2:e23 jn m [1,1,0,1] [] (aST x0 x1 x2)=zq m (bg m) (bO m) x0 x1 x2:=
 tq (g:=fun J=>(bif x0 then
  some false
   else
  (jj J 0 5 0 (aq4 x1 x2) (e23 J m [1,1,1] [])))) (by simp only[ah,R7 m];rfl)
theorem R9 m x0 x1:e23 jn m [1,1] [] (aq4 x0 x1)=zu m (bg m) (bO m) x0 x1:=
 tq (g:=fun J=>wZ (fun y0 y1 y2=>jj J 0 4 0 (aST y0 y1 y2) (e23 J m [1,1,0,1] [])) m x0 x1) (by simp only[ah,R8 m];rfl)
theorem Sb m x0 x1 x2:e23 jn m [1,0,1] [] (aSU x0 x1 x2)=zw m (bg m) (bO m) x0 x1 x2:=
 tq (g:=fun J=>(bif x0 then
  some false
   else
  (jj J 0 3 0 (aq4 x1 x2) (e23 J m [1,1] [])))) (by simp only[ah,R9 m];rfl)
theorem abr m a0 a1:e23 jn m [] [] ⟨[.dat 71 a0,.dat 71 a1],[],0⟩=bH (m+1) a0 a1:=
 tq (g:=fun J=>CG (fun y0 y1 y2=>jj J 0 2 0 (aSU y0 y1 y2) (e23 J m [1,0,1] [])) m a0 a1) (by simp only[ah,Sb m];rfl)
def aAZ:List Nat:=[1,1,0,1,0]
def aA0:List Nat:=[1,1,0,1,0,0,1]
def aSV:List Nat:=aA0++[1]
def aSW:List Nat:=aA0++[0,0,1]
def e54 (J:Q0) m:=evAt Tryz.prog env (ct m) J (m+1) 71 42 Tryz.f71 d17
def l54 (J:Q0) m:=loopAt Tryz.prog env (ct m) J (m+1) 71 42 Tryz.f71 d17
def YW x0 x1 x2:=stO [tsL 0 67 x0,tsL 1 67 x1,tsI 5 x2] []
def aSX x0 x1 x2 x3:=stO [tsL 0 67 x0,tsL 1 67 x1,tsI 5 x2,tsB 41 x3] []
def aSY:=stO [] []
def aSZ x0 x1:=stO [tsL 0 67 x0,tsL 1 67 x1] []
abbrev aJz (m M2:Nat) (rec2:Q11):Prop:=∀x0 x1 x2,l54 jn m aAZ [] M2 (YW x0 x1 x2)=rec2 x0 x1 x2
theorem Qv m M2 rec2 (h2:aJz m M2 rec2) x0 x1 x2:e54 jn m aSV [M2] (YW x0 x1 x2)=lU m (bg m) rec2 x0 x1 x2:=
 tq (g:=fun J=>(jj J 1 4 M2 (YW x0 x1 (IntKind.wrap .i64 (x2+1))) (l54 J m aAZ [] M2))) (by simp only[ah,h2];rfl)
theorem Qw m M2 rec2 (h2:aJz m M2 rec2) x0 x1 x2 x3:e54 jn m aSW [M2] (aSX x0 x1 x2 x3)=lV m (bg m) rec2 x0 x1 x2 x3:=
 tq (g:=fun J=>(bif x3 then
  some false
   else
  (jj J 0 5 0 (YW x0 x1 x2) (e54 J m aSV [M2])))) (by simp only[ah,Qv m M2 rec2 h2];rfl)
theorem Qx m M2 rec2 (h2:aJz m M2 rec2) x0 x1 x2:e54 jn m aA0 [M2] (YW x0 x1 x2)=lW m (bg m) rec2 x0 x1 x2:=
 tq (g:=fun J=>jl (fun y0 y1 y2 y3=>jj J 0 7 0 (aSX y0 y1 y2 y3) (e54 J m aSW [M2])) (bg m) x0 x1 x2) (by simp only[ah,Qw m M2 rec2 h2];rfl)
theorem Qy m:e54 jn m [1,1,1] [] aSY=lX m (bg m):=
 tq (g:=fun J=>some true) (by rfl)
theorem Ci m:∀M2 x0 x1 x2,l54 jn m aAZ [] M2 (YW x0 x1 x2)=iA m (bg m) M2 x0 x1 x2
 |0,_,_,_=>rfl
 | M2+1,x0,x1,x2=>
   tl (g:=fun J=>(bif (decide (x2<(List.length x0:Int))) then
  (jj J 0 6 0 (YW x0 x1 x2) (e54 J m aA0 [M2]))
   else
  (jj J 0 8 0 aSY (e54 J m [1,1,1] [])))) (by simp only[ah,Qx m M2 (iA m (bg m) M2) (Ci m M2),Qy m];rfl)
theorem Qz m x0 x1 x2:e54 jn m [1,1,0,1] [] (YW x0 x1 x2)=lY m (bg m) x0 x1 x2:=
 tq (g:=fun J=>(jj J 1 4 (Nat.succ m) (YW x0 x1 x2) (l54 J m aAZ [] (Nat.succ m)))) (by simp only[ah,Ci m];rfl)
theorem QA m x0 x1:e54 jn m [1,1] [] (aSZ x0 x1)=lZ m (bg m) x0 x1:=
 tq (g:=fun J=>(jj J 0 4 0 (YW x0 x1 0) (e54 J m [1,1,0,1] []))) (by simp only[ah,Qz m];rfl)
theorem Xu m a0 a1:e54 jn m [] [] ⟨[.dat 67 (.lst a0),.dat 67 (.lst a1)],[],0⟩=bO (m+1) a0 a1:=
 tq (g:=fun J=>(bif ((List.length a0:Int) !=(List.length a1:Int)) then
  some false
   else
  (jj J 0 3 0 (aSZ a0 a1) (e54 J m [1,1] [])))) (by simp only[ah,QA m];rfl)
def aS0:List Nat:=[1,1,1,1,1]
def aS1:List Nat:=[1,1,1,0,1]
def avY:List Nat:=[1,1,1,0,1,0]
def aJA:List Nat:=[1,1,1,1,0,1]
def avZ:List Nat:=aJA++[0]
def aJB:List Nat:=avY++[0,1]
def aS2:List Nat:=aJB++[1]
def aJC:List Nat:=avZ++[0,1]
def aS3:List Nat:=aJC++[1]
def e95 (J:Q8) m:=evAt Tryz.prog env (ct m) J (m+1) 113 43 Tryz.f113 d35
def l95 (J:Q8) m:=loopAt Tryz.prog env (ct m) J (m+1) 113 43 Tryz.f113 d35
def YX x0 x1 x2:=stO [tsP 1 0,(3,.row 1),tsI 4 x0] [obX 45 x1,.row 41 x2]
def YZ x0 x1 x2:=stO [tsP 1 0,(3,.row 1),tsI 5 x0] [obX 45 x1,.row 41 x2]
def aS4 x0:=stO [(3,.row 0)] [.row 41 x0]
def aS5 x0 x1:=stO [tsP 1 0,(3,.row 1)] [obX 45 x0,.row 41 x1]
abbrev aS6 (m M1:Nat) (rec1:Q19):Prop:=∀x0 x1 x2,l95 jn m avY [] M1 (YX x0 x1 x2)=rec1 x0 x1 x2
theorem afs m M1 rec1 (h1:aS6 m M1 rec1) x0 x1 x2:e95 jn m aS2 [M1] (YX x0 x1 x2)=IG m rec1 x0 x1 x2:=
 tq (g:=fun J=>(jj J 1 4 M1 (YX (IntKind.wrap .i64 (x0+1)) x1 x2) (l95 J m avY [] M1))) (by simp only[ah,h1];rfl)
theorem aft m M1 rec1 (h1:aS6 m M1 rec1) x0 x1 x2:e95 jn m aJB [M1] (YX x0 x1 x2)=II m rec1 x0 x1 x2:=
 tq (g:=fun J=>((idx (Dt.L x1 3) x0).bind fun v1=>
  ((app x2 [(Dt.lst (Dt.L v1 0))]).bind fun v2=>
  (jj J 0 5 0 (YX x0 x1 v2) (e95 J m aS2 [M1]))))) (by simp only[ah,afs m M1 rec1 h1];rfl)
abbrev aS7 (m M6:Nat) (rec6:Q19):Prop:=∀x0 x1 x2,l95 jn m avZ [] M6 (YZ x0 x1 x2)=rec6 x0 x1 x2
theorem afu m M6 rec6 (h6:aS7 m M6 rec6) x0 x1 x2:e95 jn m aS3 [M6] (YZ x0 x1 x2)=IJ m rec6 x0 x1 x2:=
 tq (g:=fun J=>(jj J 1 8 M6 (YZ (IntKind.wrap .i64 (x0+1)) x1 x2) (l95 J m avZ [] M6))) (by simp only[ah,h6];rfl)
theorem afv m M6 rec6 (h6:aS7 m M6 rec6) x0 x1 x2:e95 jn m aJC [M6] (YZ x0 x1 x2)=IK m rec6 x0 x1 x2:=
 tq (g:=fun J=>((idx (Dt.L x1 4) x0).bind fun v3=>
  ((app x2 [(Dt.lst (Dt.L v3 0))]).bind fun v4=>
  (jj J 0 9 0 (YZ x0 x1 v4) (e95 J m aS3 [M6]))))) (by simp only[ah,afu m M6 rec6 h6];rfl)
theorem afw m x0:e95 jn m aS0 [] (aS4 x0)=UM m x0:=
 tq (g:=fun J=>some x0) (by rfl)
theorem Lb m:∀M6 x0 x1 x2,l95 jn m avZ [] M6 (YZ x0 x1 x2)=qm m M6 x0 x1 x2
 |0,_,_,_=>rfl
 | M6+1,x0,x1,x2=>
   tl (g:=fun J=>(bif (decide (x0<(List.length (Dt.L x1 4):Int))) then
  (jj J 0 10 0 (YZ x0 x1 x2) (e95 J m aJC [M6]))
   else
  (jj J 0 11 0 (aS4 x2) (e95 J m aS0 [])))) (by simp only[ah,afv m M6 (qm m M6) (Lb m M6),afw m];rfl)
theorem afx m x0 x1 x2:e95 jn m aJA [] (YZ x0 x1 x2)=UN m x0 x1 x2:=
 tq (g:=fun J=>(jj J 1 8 (Nat.succ m) (YZ x0 x1 x2) (l95 J m avZ [] (Nat.succ m)))) (by simp only[ah,Lb m];rfl)
theorem afy m x0 x1:e95 jn m [1,1,1,1] [] (aS5 x0 x1)=UO m x0 x1:=
 tq (g:=fun J=>(jj J 0 8 0 (YZ 0 x0 x1) (e95 J m aJA []))) (by simp only[ah,afx m];rfl)
theorem Lc m:∀M1 x0 x1 x2,l95 jn m avY [] M1 (YX x0 x1 x2)=qo m M1 x0 x1 x2
 |0,_,_,_=>rfl
 | M1+1,x0,x1,x2=>
   tl (g:=fun J=>(bif (decide (x0<(List.length (Dt.L x1 3):Int))) then
  (jj J 0 6 0 (YX x0 x1 x2) (e95 J m aJB [M1]))
   else
  (jj J 0 7 0 (aS5 x1 x2) (e95 J m [1,1,1,1] [])))) (by simp only[ah,aft m M1 (qo m M1) (Lc m M1),afy m];rfl)
theorem afz m x0 x1 x2:e95 jn m aS1 [] (YX x0 x1 x2)=UQ m x0 x1 x2:=
 tq (g:=fun J=>(jj J 1 4 (Nat.succ m) (YX x0 x1 x2) (l95 J m avY [] (Nat.succ m)))) (by simp only[ah,Lc m];rfl)
theorem an9 m a0:e95 jn m [] [] ⟨[.dat 45 a0],[],0⟩=qY (m+1) a0:=
 tq (g:=fun J=>((app [] (Dt.L a0 1)).bind fun v0=>
  (jj J 0 4 0 (YX 0 a0 v0) (e95 J m aS1 [])))) (by simp only[ah,afz m];rfl)
def e96 (J:Q0) m:=evAt Tryz.prog env (ct m) J (m+1) 114 13 Tryz.f114 d17
theorem aib m a0 a1:e96 jn m [] [] ⟨[.dat 26 (.lst a0),.dat 26 (.lst a1)],[],0⟩=gM (m+1) a0 a1:=
 tq (g:=fun J=>gM (m+1) a0 a1) (by rfl)
def asz:List Nat:=[1,1,0,1,0]
def asA:List Nat:=[1,1,0,1,0,0,1]
def aJD:List Nat:=asA++[1]
def aJE:List Nat:=asA++[0,0,1]
def abt (J:Q0) m:=evAt Tryz.prog env (ct m) J (m+1) 119 39 Tryz.f119 d17
def aJF (J:Q0) m:=loopAt Tryz.prog env (ct m) J (m+1) 119 39 Tryz.f119 d17
def Np x0 x1:=stO [tsS 0 x0,tsI 3 x1] []
def aJG x0 x1 x2:=stO [tsS 0 x0,tsI 3 x1,tsB 38 x2] []
def aJH:=stO [] []
def aJI x0:=stO [tsS 0 x0] []
def aJJ x0 x1:=stO [tsS 0 x0,tsB 16 x1] []
abbrev axJ (m M3:Nat) (rec3:Q17):Prop:=∀x0 x1,aJF jn m asz [] M3 (Np x0 x1)=rec3 x0 x1
theorem aic m M3 rec3 (h3:axJ m M3 rec3) x0 x1:abt jn m aJD [M3] (Np x0 x1)=oQ m rec3 x0 x1:=
 tq (g:=fun J=>(jj J 1 4 M3 (Np x0 (IntKind.wrap .i64 (x1+1))) (aJF J m asz [] M3))) (by simp only[ah,h3];rfl)
theorem aie m M3 rec3 (h3:axJ m M3 rec3) x0 x1 x2:abt jn m aJE [M3] (aJG x0 x1 x2)=oU m rec3 x0 x1 x2:=
 tq (g:=fun J=>(bif x2 then
  some false
   else
  (jj J 0 5 0 (Np x0 x1) (abt J m aJD [M3])))) (by simp only[ah,aic m M3 rec3 h3];rfl)
theorem aif m M3 rec3 (h3:axJ m M3 rec3) x0 x1:abt jn m asA [M3] (Np x0 x1)=oV m rec3 x0 x1:=
 tq (g:=fun J=>nk (fun y0 y1 y2=>jj J 0 7 0 (aJG y0 y1 y2) (abt J m aJE [M3])) x0 x1) (by simp only[ah,aie m M3 rec3 h3];rfl)
theorem aii m:abt jn m [1,1,1] [] aJH=oW m:=
 tq (g:=fun J=>some true) (by rfl)
theorem O3 m:∀M3 x0 x1,aJF jn m asz [] M3 (Np x0 x1)=oZ m M3 x0 x1
 |0,_,_=>rfl
 | M3+1,x0,x1=>
   tl (g:=fun J=>(bif (decide (x1<(ByteArray.size x0:Int))) then
  (jj J 0 6 0 (Np x0 x1) (abt J m asA [M3]))
   else
  (jj J 0 8 0 aJH (abt J m [1,1,1] [])))) (by simp only[ah,aif m M3 (oZ m M3) (O3 m M3),aii m];rfl)
theorem aij m x0 x1:abt jn m [1,1,0,1] [] (Np x0 x1)=o7 m x0 x1:=
 tq (g:=fun J=>(jj J 1 4 (Nat.succ m) (Np x0 x1) (aJF J m asz [] (Nat.succ m)))) (by simp only[ah,O3 m];rfl)
theorem aik m x0:abt jn m [1,1] [] (aJI x0)=o8 m x0:=
 tq (g:=fun J=>(jj J 0 4 0 (Np x0 0) (abt J m [1,1,0,1] []))) (by simp only[ah,aij m];rfl)
theorem ail m x0 x1:abt jn m [1,0,1] [] (aJJ x0 x1)=o9 m x0 x1:=
 tq (g:=fun J=>(bif x1 then
  some false
   else
  (jj J 0 3 0 (aJI x0) (abt J m [1,1] [])))) (by simp only[ah,aik m];rfl)
theorem apK m a0:abt jn m [] [] ⟨[.dat 9 (.str a0)],[],0⟩=eF (m+1) a0:=
 tq (g:=fun J=>UR (fun y0 y1=>jj J 0 2 0 (aJJ y0 y1) (abt J m [1,0,1] [])) a0) (by simp only[ah,ail m];rfl)
def aA1:List Nat:=[1,1,0,1,0]
def aJK:List Nat:=[1,1,0,1,0,0,1]
def aS8:List Nat:=aJK++[1]
def e83 (J:Q0) m:=evAt Tryz.prog env (ct m) J (m+1) 105 24 Tryz.f105 d17
def l83 (J:Q0) m:=loopAt Tryz.prog env (ct m) J (m+1) 105 24 Tryz.f105 d17
def Y0 x0 x1:=stO [tsL 0 26 x0,tsI 3 x1] []
def aS9:=stO [] []
def aTa x0:=stO [tsL 0 26 x0] []
def aTb x0 x1:=stO [tsL 0 26 x0,tsB 11 x1] []
abbrev aTc (m M3:Nat) (rec3:Q27):Prop:=∀x0 x1,l83 jn m aA1 [] M3 (Y0 x0 x1)=rec3 x0 x1
theorem afA m M3 rec3 (h3:aTc m M3 rec3) x0 x1:e83 jn m aS8 [M3] (Y0 x0 x1)=vC m rec3 x0 x1:=
 tq (g:=fun J=>(jj J 1 4 M3 (Y0 x0 (IntKind.wrap .i64 (x1+1))) (l83 J m aA1 [] M3))) (by simp only[ah,h3];rfl)
theorem afB m M3 rec3 (h3:aTc m M3 rec3) x0 x1:e83 jn m aJK [M3] (Y0 x0 x1)=vD m rec3 x0 x1:=
 tq (g:=fun J=>((idx x0 x1).bind fun v0=>
  ((eF m (Dt.toStr v0)).bind fun r1=>
  (bif (Bool.not r1) then
  some false
  else
  (jj J 0 5 0 (Y0 x0 x1) (e83 J m aS8 [M3])))))) (by simp only[ah,afA m M3 rec3 h3];rfl)
theorem afC m:e83 jn m [1,1,1] [] aS9=vE m:=
 tq (g:=fun J=>some true) (by rfl)
theorem Ld m:∀M3 x0 x1,l83 jn m aA1 [] M3 (Y0 x0 x1)=nu m M3 x0 x1
 |0,_,_=>rfl
 | M3+1,x0,x1=>
   tl (g:=fun J=>(bif (decide (x1<(List.length x0:Int))) then
  (jj J 0 6 0 (Y0 x0 x1) (e83 J m aJK [M3]))
   else
  (jj J 0 8 0 aS9 (e83 J m [1,1,1] [])))) (by simp only[ah,afB m M3 (nu m M3) (Ld m M3),afC m];rfl)
theorem afD m x0 x1:e83 jn m [1,1,0,1] [] (Y0 x0 x1)=vF m x0 x1:=
 tq (g:=fun J=>(jj J 1 4 (Nat.succ m) (Y0 x0 x1) (l83 J m aA1 [] (Nat.succ m)))) (by simp only[ah,Ld m];rfl)
theorem afE m x0:e83 jn m [1,1] [] (aTa x0)=vG m x0:=
 tq (g:=fun J=>(jj J 0 4 0 (Y0 x0 0) (e83 J m [1,1,0,1] []))) (by simp only[ah,afD m];rfl)
theorem afF m x0 x1:e83 jn m [1,0,1] [] (aTb x0 x1)=vH m x0 x1:=
 tq (g:=fun J=>(bif x1 then
  some false
   else
  (jj J 0 3 0 (aTa x0) (e83 J m [1,1] [])))) (by simp only[ah,afE m];rfl)
theorem aoa m a0:e83 jn m [] [] ⟨[.dat 26 (.lst a0)],[],0⟩=bG (m+1) a0:=
 tq (g:=fun J=>P7 (fun y0 y1=>jj J 0 2 0 (aTb y0 y1) (e83 J m [1,0,1] [])) a0) (by simp only[ah,afF m];rfl)
def aTd:List Nat:=[1,1,1,1,1]
def aJL:List Nat:=[1,1,1,0,1]
def av0:List Nat:=[1,1,1,0,1,0]
def aTe:List Nat:=[1,1,1,1,0,1]
def aA2:List Nat:=av0++[0,1]
def aTf:List Nat:=aA2++[1]
def aJM:List Nat:=aA2++[0,0,1]
def aJN:List Nat:=aJM++[1]
def av1:List Nat:=aJN++[0]
def aJO:List Nat:=av1++[0,1]
def aTg:List Nat:=aJO++[1]
def e70 (J:Q1) m:=evAt Tryz.prog env (ct m) J (m+1) 88 67 Tryz.f88 d70
def l70 (J:Q1) m:=loopAt Tryz.prog env (ct m) J (m+1) 88 67 Tryz.f88 d70
def Nq x0 x1 x2:=stO [tsP 1 0,tsI 3 x0,tsI 4 x1] [obX 69 x2]
def Gm x0 x1:=stO [tsP 1 0,tsI 3 x0] [obX 69 x1]
def aJP:=stO [] []
def aJQ x0:=stO [tsB 66 x0] []
def ain x0:=stO [tsP 1 0] [obX 69 x0]
def aTh x0 x1:=stO [tsP 1 0,tsB 18 x0] [obX 69 x1]
abbrev aob (m M4:Nat) (rec4:Q9):Prop:=∀x0 x1,l70 jn m av0 [] M4 (Gm x0 x1)=rec4 x0 x1
abbrev aTi (m M4 M8:Nat) (rec8:Q38):Prop:=∀x0 x1 x2,l70 jn m av1 [M4] M8 (Nq x0 x1 x2)=rec8 x0 x1 x2
theorem abu m M4 rec4 (h4:aob m M4 rec4) M8 rec8 (h8:aTi m M4 M8 rec8) x0 x1 x2:e70 jn m aTg [M4,M8] (Nq x0 x1 x2)=yC m rec4 rec8 x0 x1 x2:=
 tq (g:=fun J=>(jj J 1 11 M8 (Nq x0 (IntKind.wrap .i64 (x1+1)) x2) (l70 J m av1 [M4] M8))) (by simp only[ah,h8];rfl)
theorem afG m M4 rec4 (h4:aob m M4 rec4) M8 rec8 (h8:aTi m M4 M8 rec8) x0 x1 x2:e70 jn m aJO [M4,M8] (Nq x0 x1 x2)=AQ m rec4 rec8 x0 x1 x2:=
 tq (g:=fun J=>yD (fun y0 y1 y2=>jj J 0 12 0 (Nq y0 y1 y2) (e70 J m aTg [M4,M8])) m x0 x1 x2) (by simp only[ah,abu m M4 rec4 h4 M8 rec8 h8];rfl)
theorem abv m M4 rec4 (h4:aob m M4 rec4) x0 x1:e70 jn m aTf [M4] (Gm x0 x1)=yE m rec4 x0 x1:=
 tq (g:=fun J=>(jj J 1 6 M4 (Gm (IntKind.wrap .i64 (x0+1)) x1) (l70 J m av0 [] M4))) (by simp only[ah,h4];rfl)
theorem Le m M4 rec4 (h4:aob m M4 rec4):∀M8 x0 x1 x2,l70 jn m av1 [M4] M8 (Nq x0 x1 x2)=qp m rec4 M8 x0 x1 x2
 |0,_,_,_=>rfl
 | M8+1,x0,x1,x2=>
   tl (g:=fun J=>(bif (decide (x1<x0)) then
  (jj J 0 13 0 (Nq x0 x1 x2) (e70 J m aJO [M4,M8]))
   else
  (jj J 0 7 0 (Gm x0 x2) (e70 J m aTf [M4])))) (by simp only[ah,afG m M4 rec4 h4 M8 (qp m rec4 M8) (Le m M4 rec4 h4 M8),abv m M4 rec4 h4];rfl)
theorem afH m M4 rec4 (h4:aob m M4 rec4) x0 x1 x2:e70 jn m aJN [M4] (Nq x0 x1 x2)=IL m rec4 x0 x1 x2:=
 tq (g:=fun J=>(jj J 1 11 (Nat.succ m) (Nq x0 x1 x2) (l70 J m av1 [M4] (Nat.succ m)))) (by simp only[ah,Le m M4 rec4 h4];rfl)
theorem afI m M4 rec4 (h4:aob m M4 rec4) x0 x1:e70 jn m aJM [M4] (Gm x0 x1)=IQ m rec4 x0 x1:=
 tq (g:=fun J=>(jj J 0 11 0 (Nq x0 0 x1) (e70 J m aJN [M4]))) (by simp only[ah,afH m M4 rec4 h4];rfl)
theorem afJ m M4 rec4 (h4:aob m M4 rec4) x0 x1:e70 jn m aA2 [M4] (Gm x0 x1)=AR m rec4 x0 x1:=
 tq (g:=fun J=>yF (fun y0 y1=>jj J 0 10 0 (Gm y0 y1) (e70 J m aJM [M4])) m x0 x1) (by simp only[ah,afI m M4 rec4 h4];rfl)
theorem abw m:e70 jn m aTd [] aJP=ET m:=
 tq (g:=fun J=>some 0) (by rfl)
theorem abx m x0:e70 jn m aTe [] (aJQ x0)=EU m x0:=
 tq (g:=fun J=>(bif x0 then
  some 1
   else
  (jj J 0 17 0 aJP (e70 J m aTd [])))) (by simp only[ah,abw m];rfl)
theorem aby m x0:e70 jn m [1,1,1,1] [] (ain x0)=EW m x0:=
 tq (g:=fun J=>CJ (fun y0=>jj J 0 16 0 (aJQ y0) (e70 J m aTe [])) x0) (by simp only[ah,abx m];rfl)
theorem Lf m:∀M4 x0 x1,l70 jn m av0 [] M4 (Gm x0 x1)=qw m M4 x0 x1
 |0,_,_=>rfl
 | M4+1,x0,x1=>
   tl (g:=fun J=>(bif (decide (x0<(List.length (Dt.L x1 1):Int))) then
  (jj J 0 8 0 (Gm x0 x1) (e70 J m aA2 [M4]))
   else
  (jj J 0 15 0 (ain x1) (e70 J m [1,1,1,1] [])))) (by simp only[ah,afJ m M4 (qw m M4) (Lf m M4),aby m];rfl)
theorem afK m x0 x1:e70 jn m aJL [] (Gm x0 x1)=IU m x0 x1:=
 tq (g:=fun J=>(jj J 1 6 (Nat.succ m) (Gm x0 x1) (l70 J m av0 [] (Nat.succ m)))) (by simp only[ah,Lf m];rfl)
theorem afL m x0:e70 jn m [1,1,1] [] (ain x0)=IV m x0:=
 tq (g:=fun J=>(jj J 0 6 0 (Gm 0 x0) (e70 J m aJL []))) (by simp only[ah,afK m];rfl)
theorem afM m x0 x1:e70 jn m [1,1,0,1] [] (aTh x0 x1)=vI m x0 x1:=
 tq (g:=fun J=>(bif x0 then
  some 21
   else
  (jj J 0 5 0 (ain x1) (e70 J m [1,1,1] [])))) (by simp only[ah,afL m];rfl)
theorem afN m x0:e70 jn m [1,1] [] (ain x0)=AU m x0:=
 tq (g:=fun J=>yG (fun y0 y1=>jj J 0 4 0 (aTh y0 y1) (e70 J m [1,1,0,1] [])) x0) (by simp only[ah,afM m];rfl)
theorem aoc m a0:e70 jn m [] [] ⟨[.dat 69 a0],[],0⟩=vJ (m+1) a0:=
 tq (g:=fun J=>((eF m (Dt.S a0 0)).bind fun r0=>
  (bif (Bool.not r0) then
  some 9
  else
  (jj J 0 3 0 (ain a0) (e70 J m [1,1] []))))) (by simp only[ah,afN m];rfl)
def e97 (J:Q0) m:=evAt Tryz.prog env (ct m) J (m+1) 115 9 Tryz.f115 d17
theorem akw m a0:e97 jn m [] [] ⟨[.dat 9 (.str a0)],[],0⟩=bR (m+1) a0:=
 tq (g:=fun J=>bR (m+1) a0) (by rfl)
def aXt (J:Q0) m:=evAt Tryz.prog env (ct m) J (m+1) 129 13 Tryz.f129 d17
theorem Sc m a0:aXt jn m [] [] ⟨[.dat 3 (.int a0)],[],0⟩=cZ (m+1) a0:=
 tq (g:=fun J=>cZ (m+1) a0) (by rfl)
def aXu (J:Q0) m:=evAt Tryz.prog env (ct m) J (m+1) 131 9 Tryz.f131 d17
theorem Xv m a0:aXu jn m [] [] ⟨[.dat 3 (.int a0)],[],0⟩=gG (m+1) a0:=
 tq (g:=fun J=>gG (m+1) a0) (by rfl)
def aXv (J:Q0) m:=evAt Tryz.prog env (ct m) J (m+1) 135 13 Tryz.f135 d17
def aXw (J:Q0) m:=loopAt Tryz.prog env (ct m) J (m+1) 135 13 Tryz.f135 d17
theorem VF m a0:aXv jn m [] [] ⟨[.dat 3 (.int a0)],[],0⟩=dF (m+1) a0:=
 tq (g:=fun J=>dF (m+1) a0) (by rfl)
def aXx (J:Q0) m:=evAt Tryz.prog env (ct m) J (m+1) 133 13 Tryz.f133 d17
theorem VG m a0:aXx jn m [] [] ⟨[.dat 3 (.int a0)],[],0⟩=fJ (m+1) a0:=
 tq (g:=fun J=>fJ (m+1) a0) (by rfl)
def aVu (J:Q0) m:=evAt Tryz.prog env (ct m) J (m+1) 130 47 Tryz.f130 d17
def aXy (J:Q0) m:=loopAt Tryz.prog env (ct m) J (m+1) 130 47 Tryz.f130 d17
def aJR:=stO [] []
theorem O4 m:aVu jn m [1,1] [] aJR=Es m:=
 tq (g:=fun J=>some true) (by rfl)
theorem VH m a0:aVu jn m [] [] ⟨[.dat 39 a0],[],0⟩=gW (m+1) a0:=
 tq (g:=fun J=>zx (jj J 0 10 0 aJR (aVu J m [1,1] [])) a0) (by simp only[ah,O4 m];rfl)
def axK:List Nat:=[1,0,1,0,1]
def aJS:List Nat:=[1,0,1,0,1,1,1]
def av2 (J:Q0) m:=evAt Tryz.prog env (ct m) J (m+1) 128 19 Tryz.f128 d17
def aJT x0:=stO [tsI 1 x0] []
def aJU x0 x1:=stO [tsI 1 x0,tsB 11 x1] []
def axL x0 x1 x2:=stO [tsI 1 x0,tsI 5 x1,tsB 6 x2] []
theorem O5 m x0:av2 jn m [1,1] [] (aJT x0)=vK m x0:=
 tq (g:=fun J=>some (x0==0)) (by rfl)
theorem O6 m x0 x1:av2 jn m aJS [] (aJU x0 x1)=vL m x0 x1:=
 tq (g:=fun J=>(bif x1 then
  some (decide (1≤x0))
   else
  (jj J 0 9 0 (aJT x0) (av2 J m [1,1] [])))) (by simp only[ah,O5 m];rfl)
theorem O7 m x0 x1 x2:av2 jn m axK [] (axL x0 x1 x2)=oJ m x0 x1 x2:=
 tq (g:=fun J=>uI (fun y0 y1=>jj J 0 8 0 (aJU y0 y1) (av2 J m aJS [])) x0 x1 x2) (by simp only[ah,O6 m];rfl)
theorem VI m a0 a1:av2 jn m [] [] ⟨[.dat 3 (.int a0),.dat 3 (.int a1)],[],0⟩=jR (m+1) a0 a1:=
 tq (g:=fun J=>(bif (a0==15) then
  (jj J 0 4 0 (axL a1 a0 (a0==15)) (av2 J m axK []))
   else
  (jj J 0 4 0 (axL a1 a0 (a0==23)) (av2 J m axK [])))) (by simp only[ah,O7 m];rfl)
def e118 (J:Q0) m:=evAt Tryz.prog env (ct m) J (m+1) 143 9 Tryz.f143 d17
theorem av3 m a0:e118 jn m [] [] ⟨[.dat 3 (.int a0)],[],0⟩=qx (m+1) a0:=
 tq (g:=fun J=>qx (m+1) a0) (by rfl)
def e117 (J:Q0) m:=evAt Tryz.prog env (ct m) J (m+1) 142 11 Tryz.f142 d17
theorem av4 m a0:e117 jn m [] [] ⟨[.dat 129 a0],[],0⟩=xW (m+1) a0:=
 tq (g:=fun J=>xW (m+1) a0) (by rfl)
def aTj:List Nat:=[1,1,1,1,1]
def aTk:List Nat:=[1,1,1,0,1]
def av5:List Nat:=[1,1,1,0,1,0]
def aTl:List Nat:=[1,1,1,1,0,1]
def aJV:List Nat:=av5++[0,1]
def aTm:List Nat:=aJV++[1]
def e87 (J:Q1) m:=evAt Tryz.prog env (ct m) J (m+1) 109 62 Tryz.f109 d70
def l87 (J:Q1) m:=loopAt Tryz.prog env (ct m) J (m+1) 109 62 Tryz.f109 d70
def Y1 x0 x1 x2:=stO [tsP 1 0,tsI 3 x0,tsI 4 x1] [obX 33 x2]
def aTn:=stO [] []
def aTo x0:=stO [tsB 61 x0] []
def aA3 x0 x1:=stO [tsP 1 0,tsI 3 x0] [obX 33 x1]
abbrev aTp (m M2:Nat) (rec2:Q38):Prop:=∀x0 x1 x2,l87 jn m av5 [] M2 (Y1 x0 x1 x2)=rec2 x0 x1 x2
theorem afO m M2 rec2 (h2:aTp m M2 rec2) x0 x1 x2:e87 jn m aTm [M2] (Y1 x0 x1 x2)=vM m rec2 x0 x1 x2:=
 tq (g:=fun J=>(jj J 1 5 M2 (Y1 x0 (IntKind.wrap .i64 (x1+1)) x2) (l87 J m av5 [] M2))) (by simp only[ah,h2];rfl)
theorem afP m M2 rec2 (h2:aTp m M2 rec2) x0 x1 x2:e87 jn m aJV [M2] (Y1 x0 x1 x2)=vN m rec2 x0 x1 x2:=
 tq (g:=fun J=>((idx (Dt.L x2 1) x1).bind fun v0=>
  ((xW m v0).bind fun r1=>
  (bif (Bool.not r1) then
  some 18
  else
  (jj J 0 6 0 (Y1 x0 x1 x2) (e87 J m aTm [M2])))))) (by simp only[ah,afO m M2 rec2 h2];rfl)
theorem afQ m:e87 jn m aTj [] aTn=AX m:=
 tq (g:=fun J=>some 18) (by rfl)
theorem afR m x0:e87 jn m aTl [] (aTo x0)=vO m x0:=
 tq (g:=fun J=>(bif x0 then
  some 0
   else
  (jj J 0 11 0 aTn (e87 J m aTj [])))) (by simp only[ah,afQ m];rfl)
theorem afS m x0 x1:e87 jn m [1,1,1,1] [] (aA3 x0 x1)=qy m x0 x1:=
 tq (g:=fun J=>yH (fun y0=>jj J 0 10 0 (aTo y0) (e87 J m aTl [])) m x0 x1) (by simp only[ah,afR m];rfl)
theorem Lg m:∀M2 x0 x1 x2,l87 jn m av5 [] M2 (Y1 x0 x1 x2)=jm m M2 x0 x1 x2
 |0,_,_,_=>rfl
 | M2+1,x0,x1,x2=>
   tl (g:=fun J=>(bif (decide (x1<x0)) then
  (jj J 0 7 0 (Y1 x0 x1 x2) (e87 J m aJV [M2]))
   else
  (jj J 0 9 0 (aA3 x0 x2) (e87 J m [1,1,1,1] [])))) (by simp only[ah,afP m M2 (jm m M2) (Lg m M2),afS m];rfl)
theorem afT m x0 x1 x2:e87 jn m aTk [] (Y1 x0 x1 x2)=IW m x0 x1 x2:=
 tq (g:=fun J=>(jj J 1 5 (Nat.succ m) (Y1 x0 x1 x2) (l87 J m av5 [] (Nat.succ m)))) (by simp only[ah,Lg m];rfl)
theorem afU m x0 x1:e87 jn m [1,1,1] [] (aA3 x0 x1)=AY m x0 x1:=
 tq (g:=fun J=>(jj J 0 5 0 (Y1 x0 0 x1) (e87 J m aTk []))) (by simp only[ah,afT m];rfl)
theorem aod m a0:e87 jn m [] [] ⟨[.dat 33 a0],[],0⟩=iG (m+1) a0:=
 tq (g:=fun J=>(bif (decide (64<(List.length (Dt.L a0 1):Int))) then
  some 18
   else
  (jj J 0 4 0 (aA3 (List.length (Dt.L a0 1):Int) a0) (e87 J m [1,1,1] [])))) (by simp only[ah,afU m];rfl)
def e69 (J:Q1) m:=evAt Tryz.prog env (ct m) J (m+1) 87 21 Tryz.f87 d70
def aTq:=stO [] []
def aA4 x0:=stO [tsP 1 0] [obX 71 x0]
def aTr x0 x1:=stO [tsP 1 0,tsB 12 x0] [obX 71 x1]
theorem aio m:e69 jn m [1,1,1,1] [] aTq=YB m:=
 tq (g:=fun J=>some 0) (by rfl)
theorem aip m x0:e69 jn m [1,1,1] [] (aA4 x0)=Ml m x0:=
 tq (g:=fun J=>((bR m (Dt.S x0 7)).bind fun r2=>
  (bif (Bool.not r2) then
  some 9
  else
  (jj J 0 7 0 aTq (e69 J m [1,1,1,1] []))))) (by simp only[ah,aio m];rfl)
theorem aiq m x0:e69 jn m [1,1] [] (aA4 x0)=Mq m x0:=
 tq (g:=fun J=>((bG m (Dt.L x0 6)).bind fun r1=>
  (bif (Bool.not r1) then
  some 10
  else
  (jj J 0 5 0 (aA4 x0) (e69 J m [1,1,1] []))))) (by simp only[ah,aip m];rfl)
theorem air m x0 x1:e69 jn m [1,0,1] [] (aTr x0 x1)=DN m x0 x1:=
 tq (g:=fun J=>(bif x0 then
  some 18
   else
  (jj J 0 3 0 (aA4 x1) (e69 J m [1,1] [])))) (by simp only[ah,aiq m];rfl)
theorem apL m a0:e69 jn m [] [] ⟨[.dat 71 a0],[],0⟩=zy (m+1) a0:=
 tq (g:=fun J=>UU (fun y0 y1=>jj J 0 2 0 (aTr y0 y1) (e69 J m [1,0,1] [])) m a0) (by simp only[ah,air m];rfl)
def e120 (J:Q0) m:=evAt Tryz.prog env (ct m) J (m+1) 145 17 Tryz.f145 d17
theorem ais m a0:e120 jn m [] [] ⟨[.dat 33 a0],[],0⟩=jd (m+1) a0:=
 tq (g:=fun J=>jd (m+1) a0) (by rfl)
def aXz (J:Q0) m:=evAt Tryz.prog env (ct m) J (m+1) 144 28 Tryz.f144 d17
def aW1 (J:Q0) m:=loopAt Tryz.prog env (ct m) J (m+1) 144 28 Tryz.f144 d17
theorem ait m a0:aXz jn m [] [] ⟨[.dat 30 a0],[],0⟩=gq (m+1) a0:=
 tq (g:=fun J=>gq (m+1) a0) (by rfl)
def e119 (J:Q0) m:=evAt Tryz.prog env (ct m) J (m+1) 146 39 Tryz.f146 d17
theorem akx m a0:e119 jn m [] [] ⟨[.dat 36 a0],[],0⟩=je (m+1) a0:=
 tq (g:=fun J=>je (m+1) a0) (by rfl)
def e88 (J:Q0) m:=evAt Tryz.prog env (ct m) J (m+1) 110 88 Tryz.f110 d17
def aA5 x0:=stO [tsP 1 0] [obX 39 x0]
def aTs x0 x1:=stO [tsP 1 0,tsB 69 x0] [obX 39 x1]
def aTt x0 x1:=stO [tsP 1 0,tsB 36 x0] [obX 39 x1]
theorem abz m x0:e88 jn m [1,1,1] [] (aA5 x0)=jX m x0:=
 tq (g:=fun J=>jX m x0) (by rfl)
theorem abA m x0 x1:e88 jn m [1,1,0,1] [] (aTs x0 x1)=tu m x0 x1:=
 tq (g:=fun J=>(bif x0 then
  some false
   else
  (jj J 0 5 0 (aA5 x1) (e88 J m [1,1,1] [])))) (by simp only[ah,abz m];rfl)
theorem abB m x0:e88 jn m [1,1] [] (aA5 x0)=tC m x0:=
 tq (g:=fun J=>wG (fun y0 y1=>jj J 0 4 0 (aTs y0 y1) (e88 J m [1,1,0,1] [])) x0) (by simp only[ah,abA m];rfl)
theorem abC m x0 x1:e88 jn m [1,0,1] [] (aTt x0 x1)=tF m x0 x1:=
 tq (g:=fun J=>(bif x0 then
  some false
   else
  (jj J 0 3 0 (aA5 x1) (e88 J m [1,1] [])))) (by simp only[ah,abB m];rfl)
theorem aky m a0:e88 jn m [] [] ⟨[.dat 39 a0],[],0⟩=l5 (m+1) a0:=
 tq (g:=fun J=>DR (fun y0 y1=>jj J 0 2 0 (aTt y0 y1) (e88 J m [1,0,1] [])) m a0) (by simp only[ah,abC m];rfl)
def asB:List Nat:=[1,1,0,1,0]
def axM:List Nat:=[1,1,0,1,0,0,1]
def aJW:List Nat:=axM++[1]
def aoe (J:Q0) m:=evAt Tryz.prog env (ct m) J (m+1) 148 26 Tryz.f148 d17
def aN4 (J:Q0) m:=loopAt Tryz.prog env (ct m) J (m+1) 148 26 Tryz.f148 d17
def Nr x0 x1 x2:=stO [tsL 0 26 x0,tsL 1 26 x1,tsI 5 x2] []
def aJX:=stO [] []
def aJY x0 x1:=stO [tsL 0 26 x0,tsL 1 26 x1] []
abbrev aJZ (m M2:Nat) (rec2:Q11):Prop:=∀x0 x1 x2,aN4 jn m asB [] M2 (Nr x0 x1 x2)=rec2 x0 x1 x2
theorem aiu m M2 rec2 (h2:aJZ m M2 rec2) x0 x1 x2:aoe jn m aJW [M2] (Nr x0 x1 x2)=Mr m rec2 x0 x1 x2:=
 tq (g:=fun J=>(jj J 1 4 M2 (Nr x0 x1 (IntKind.wrap .i64 (x2+1))) (aN4 J m asB [] M2))) (by simp only[ah,h2];rfl)
theorem aiv m M2 rec2 (h2:aJZ m M2 rec2) x0 x1 x2:aoe jn m axM [M2] (Nr x0 x1 x2)=Mt m rec2 x0 x1 x2:=
 tq (g:=fun J=>IX (fun y0 y1 y2=>jj J 0 5 0 (Nr y0 y1 y2) (aoe J m aJW [M2])) x0 x1 x2) (by simp only[ah,aiu m M2 rec2 h2];rfl)
theorem aiw m:aoe jn m [1,1,1] [] aJX=Mw m:=
 tq (g:=fun J=>some true) (by rfl)
theorem O8 m:∀M2 x0 x1 x2,aN4 jn m asB [] M2 (Nr x0 x1 x2)=uy m M2 x0 x1 x2
 |0,_,_,_=>rfl
 | M2+1,x0,x1,x2=>
   tl (g:=fun J=>(bif (decide (x2<(List.length x0:Int))) then
  (jj J 0 6 0 (Nr x0 x1 x2) (aoe J m axM [M2]))
   else
  (jj J 0 8 0 aJX (aoe J m [1,1,1] [])))) (by simp only[ah,aiv m M2 (uy m M2) (O8 m M2),aiw m];rfl)
theorem aix m x0 x1 x2:aoe jn m [1,1,0,1] [] (Nr x0 x1 x2)=Mx m x0 x1 x2:=
 tq (g:=fun J=>(jj J 1 4 (Nat.succ m) (Nr x0 x1 x2) (aN4 J m asB [] (Nat.succ m)))) (by simp only[ah,O8 m];rfl)
theorem aiy m x0 x1:aoe jn m [1,1] [] (aJY x0 x1)=MB m x0 x1:=
 tq (g:=fun J=>(jj J 0 4 0 (Nr x0 x1 0) (aoe J m [1,1,0,1] []))) (by simp only[ah,aix m];rfl)
theorem apM m a0 a1:aoe jn m [] [] ⟨[.dat 26 (.lst a0),.dat 26 (.lst a1)],[],0⟩=zA (m+1) a0 a1:=
 tq (g:=fun J=>(bif ((List.length a0:Int) !=(List.length a1:Int)) then
  some false
   else
  (jj J 0 3 0 (aJY a0 a1) (aoe J m [1,1] [])))) (by simp only[ah,aiy m];rfl)
def aA6:List Nat:=[1,1,0,1,0]
def aA7:List Nat:=[1,1,0,1,0,0,1]
def aTu:List Nat:=aA7++[1]
def aJ0:List Nat:=aA7++[0,0,1]
def aJ1:List Nat:=aJ0++[1]
def av6:List Nat:=aJ1++[0]
def aJ2:List Nat:=av6++[0,1]
def aTv:List Nat:=aJ2++[1]
def e99 (J:Q1) m:=evAt Tryz.prog env (ct m) J (m+1) 117 37 Tryz.f117 d70
def l99 (J:Q1) m:=loopAt Tryz.prog env (ct m) J (m+1) 117 37 Tryz.f117 d70
def Y2 x0 x1 x2:=stO [tsL 0 40 x0,tsI 3 x1,tsI 4 x2] []
def Rb x0 x1:=stO [tsL 0 40 x0,tsI 3 x1] []
def aJ3:=stO [] []
def aTw x0:=stO [tsL 0 40 x0] []
abbrev aof (m M2:Nat) (rec2:Q4):Prop:=∀x0 x1,l99 jn m aA6 [] M2 (Rb x0 x1)=rec2 x0 x1
abbrev aTx (m M2 M6:Nat) (rec6:Q22):Prop:=∀x0 x1 x2,l99 jn m av6 [M2] M6 (Y2 x0 x1 x2)=rec6 x0 x1 x2
theorem afV m M2 rec2 (h2:aof m M2 rec2) M6 rec6 (h6:aTx m M2 M6 rec6) x0 x1 x2:e99 jn m aTv [M2,M6] (Y2 x0 x1 x2)=IY m rec2 rec6 x0 x1 x2:=
 tq (g:=fun J=>(jj J 1 9 M6 (Y2 x0 x1 (IntKind.wrap .i64 (x2+1))) (l99 J m av6 [M2] M6))) (by simp only[ah,h6];rfl)
theorem afW m M2 rec2 (h2:aof m M2 rec2) M6 rec6 (h6:aTx m M2 M6 rec6) x0 x1 x2:e99 jn m aJ2 [M2,M6] (Y2 x0 x1 x2)=IZ m rec2 rec6 x0 x1 x2:=
 tq (g:=fun J=>EX (fun y0 y1 y2=>jj J 0 10 0 (Y2 y0 y1 y2) (e99 J m aTv [M2,M6])) m x0 x1 x2) (by simp only[ah,afV m M2 rec2 h2 M6 rec6 h6];rfl)
theorem afX m M2 rec2 (h2:aof m M2 rec2) x0 x1:e99 jn m aTu [M2] (Rb x0 x1)=I4 m rec2 x0 x1:=
 tq (g:=fun J=>(jj J 1 4 M2 (Rb x0 (IntKind.wrap .i64 (x1+1))) (l99 J m aA6 [] M2))) (by simp only[ah,h2];rfl)
theorem Lh m M2 rec2 (h2:aof m M2 rec2):∀M6 x0 x1 x2,l99 jn m av6 [M2] M6 (Y2 x0 x1 x2)=qz m rec2 M6 x0 x1 x2
 |0,_,_,_=>rfl
 | M6+1,x0,x1,x2=>
   tl (g:=fun J=>(bif (decide (x2<x1)) then
  (jj J 0 11 0 (Y2 x0 x1 x2) (e99 J m aJ2 [M2,M6]))
   else
  (jj J 0 5 0 (Rb x0 x1) (e99 J m aTu [M2])))) (by simp only[ah,afW m M2 rec2 h2 M6 (qz m rec2 M6) (Lh m M2 rec2 h2 M6),afX m M2 rec2 h2];rfl)
theorem afY m M2 rec2 (h2:aof m M2 rec2) x0 x1 x2:e99 jn m aJ1 [M2] (Y2 x0 x1 x2)=I5 m rec2 x0 x1 x2:=
 tq (g:=fun J=>(jj J 1 9 (Nat.succ m) (Y2 x0 x1 x2) (l99 J m av6 [M2] (Nat.succ m)))) (by simp only[ah,Lh m M2 rec2 h2];rfl)
theorem afZ m M2 rec2 (h2:aof m M2 rec2) x0 x1:e99 jn m aJ0 [M2] (Rb x0 x1)=I6 m rec2 x0 x1:=
 tq (g:=fun J=>(jj J 0 9 0 (Y2 x0 x1 0) (e99 J m aJ1 [M2]))) (by simp only[ah,afY m M2 rec2 h2];rfl)
theorem af0 m M2 rec2 (h2:aof m M2 rec2) x0 x1:e99 jn m aA7 [M2] (Rb x0 x1)=I7 m rec2 x0 x1:=
 tq (g:=fun J=>((idx x0 x1).bind fun v0=>
  ((bG m (Dt.L v0 0)).bind fun r1=>
  (bif (Bool.not r1) then
  some 10
  else
  (jj J 0 8 0 (Rb x0 x1) (e99 J m aJ0 [M2])))))) (by simp only[ah,afZ m M2 rec2 h2];rfl)
theorem abD m:e99 jn m [1,1,1] [] aJ3=EY m:=
 tq (g:=fun J=>some 0) (by rfl)
theorem Li m:∀M2 x0 x1,l99 jn m aA6 [] M2 (Rb x0 x1)=ny m M2 x0 x1
 |0,_,_=>rfl
 | M2+1,x0,x1=>
   tl (g:=fun J=>(bif (decide (x1<(List.length x0:Int))) then
  (jj J 0 6 0 (Rb x0 x1) (e99 J m aA7 [M2]))
   else
  (jj J 0 13 0 aJ3 (e99 J m [1,1,1] [])))) (by simp only[ah,af0 m M2 (ny m M2) (Li m M2),abD m];rfl)
theorem af2 m x0 x1:e99 jn m [1,1,0,1] [] (Rb x0 x1)=I8 m x0 x1:=
 tq (g:=fun J=>(jj J 1 4 (Nat.succ m) (Rb x0 x1) (l99 J m aA6 [] (Nat.succ m)))) (by simp only[ah,Li m];rfl)
theorem af3 m x0:e99 jn m [1,1] [] (aTw x0)=I9 m x0:=
 tq (g:=fun J=>(jj J 0 4 0 (Rb x0 0) (e99 J m [1,1,0,1] []))) (by simp only[ah,af2 m];rfl)
theorem aog m a0:e99 jn m [] [] ⟨[.dat 40 (.lst a0)],[],0⟩=mE (m+1) a0:=
 tq (g:=fun J=>(bif (decide (8<(List.length a0:Int))) then
  some 2
   else
  (jj J 0 3 0 (aTw a0) (e99 J m [1,1] [])))) (by simp only[ah,af3 m];rfl)
def aJ4 (J:Q1) m:=evAt Tryz.prog env (ct m) J (m+1) 149 11 Tryz.f149 d7
def aW2 (J:Q1) m:=loopAt Tryz.prog env (ct m) J (m+1) 149 11 Tryz.f149 d7
def aJ5:=stO [] []
def aJ6 x0 x1:=stO [tsI 0 x0,tsI 1 x1] []
theorem aiz m:aJ4 jn m [1,1,1] [] aJ5=MC m:=
 tq (g:=fun J=>some 0) (by rfl)
theorem aiA m x0 x1:aJ4 jn m [1,1] [] (aJ6 x0 x1)=ME m x0 x1:=
 tq (g:=fun J=>(bif (decide (x1<x0)) then
  some 1
   else
  (jj J 0 5 0 aJ5 (aJ4 J m [1,1,1] [])))) (by simp only[ah,aiz m];rfl)
theorem apN m a0 a1:aJ4 jn m [] [] ⟨[.dat 3 (.int a0),.dat 3 (.int a1)],[],0⟩=gX (m+1) a0 a1:=
 tq (g:=fun J=>(bif (decide (a0<a1)) then
  some (-1)
   else
  (jj J 0 3 0 (aJ6 a0 a1) (aJ4 J m [1,1] [])))) (by simp only[ah,aiA m];rfl)
def axN:List Nat:=[1,0,1,0,0,1]
def aJ7:List Nat:=axN++[1]
def e125 (J:Q1) m:=evAt Tryz.prog env (ct m) J (m+1) 150 39 Tryz.f150 d7
def aN5 (J:Q1) m:=loopAt Tryz.prog env (ct m) J (m+1) 150 39 Tryz.f150 d7
def Ns x0 x1 x2:=stO [tsS 0 x0,tsS 1 x1,tsI 5 x2] []
def axO x0 x1:=stO [tsS 0 x0,tsS 1 x1] []
abbrev aJ8 (m M1:Nat) (rec1:Q52):Prop:=∀x0 x1 x2,aN5 jn m [1,0,1,0] [] M1 (Ns x0 x1 x2)=rec1 x0 x1 x2
theorem af4 m M1 rec1 (h1:aJ8 m M1 rec1) x0 x1 x2:e125 jn m aJ7 [M1] (Ns x0 x1 x2)=Ja m rec1 x0 x1 x2:=
 tq (g:=fun J=>(jj J 1 2 M1 (Ns x0 x1 (IntKind.wrap .i64 (x2+1))) (aN5 J m [1,0,1,0] [] M1))) (by simp only[ah,h1];rfl)
theorem af5 m M1 rec1 (h1:aJ8 m M1 rec1) x0 x1 x2:e125 jn m axN [M1] (Ns x0 x1 x2)=Jb m rec1 x0 x1 x2:=
 tq (g:=fun J=>EZ (fun y0 y1 y2=>jj J 0 3 0 (Ns y0 y1 y2) (e125 J m aJ7 [M1])) m x0 x1 x2) (by simp only[ah,af4 m M1 rec1 h1];rfl)
theorem af6 m x0 x1:e125 jn m [1,1] [] (axO x0 x1)=qA m x0 x1:=
 tq (g:=fun J=>qA m x0 x1) (by rfl)
theorem Lj m:∀M1 x0 x1 x2,aN5 jn m [1,0,1,0] [] M1 (Ns x0 x1 x2)=qB m M1 x0 x1 x2
 |0,_,_,_=>rfl
 | M1+1,x0,x1,x2=>
   tl (g:=fun J=>(bif (decide (x2<(ByteArray.size x0:Int))) then
  (bif (decide (x2<(ByteArray.size x1:Int))) then
  (jj J 0 4 0 (Ns x0 x1 x2) (e125 J m axN [M1]))
  else
  (jj J 0 6 0 (axO x0 x1) (e125 J m [1,1] [])))
   else
  (jj J 0 6 0 (axO x0 x1) (e125 J m [1,1] [])))) (by simp only[ah,af5 m M1 (qB m M1) (Lj m M1),af6 m];rfl)
theorem af7 m x0 x1 x2:e125 jn m [1,0,1] [] (Ns x0 x1 x2)=UW m x0 x1 x2:=
 tq (g:=fun J=>(jj J 1 2 (Nat.succ m) (Ns x0 x1 x2) (aN5 J m [1,0,1,0] [] (Nat.succ m)))) (by simp only[ah,Lj m];rfl)
theorem aoh m a0 a1:e125 jn m [] [] ⟨[.dat 9 (.str a0),.dat 9 (.str a1)],[],0⟩=oK (m+1) a0 a1:=
 tq (g:=fun J=>(jj J 0 2 0 (Ns a0 a1 0) (e125 J m [1,0,1] []))) (by simp only[ah,af7 m];rfl)
def asC:List Nat:=[1,1,0,1,0,1]
def WA:List Nat:=asC++[1,1]
def aJ9:List Nat:=WA++[1,1,0,1]
def axP:List Nat:=WA++[1,1,0,0,1]
def aoi:List Nat:=axP++[0]
def aKa:List Nat:=WA++[1,1,1,1,0,1]
def asD:List Nat:=WA++[1,1,1,1,0,0,1]
def axQ:List Nat:=aoi++[0,1]
def aoj:List Nat:=asD++[0]
def aKb:List Nat:=axQ++[1]
def asE:List Nat:=aoj++[0,1]
def aKc:List Nat:=asE++[1]
def aKd:List Nat:=asE++[0,0,1,1]
def DF (J:Q1) m:=evAt Tryz.prog env (ct m) J (m+1) 120 130 Tryz.f120 d7
def av7 (J:Q1) m:=loopAt Tryz.prog env (ct m) J (m+1) 120 130 Tryz.f120 d7
def Nt x0 x1 x2:=stO [tsP 2 0,tsP 3 1,tsI 5 x0] [obX 30 x1,obX 30 x2]
def aiB x0 x1:=stO [tsP 2 0,tsP 3 1] [obX 30 x0,obX 30 x1]
def D7 x0 x1 x2:=stO [tsP 2 0,tsP 3 1,tsI 7 x0] [obX 30 x1,obX 30 x2]
def aA8 x0 x1 x2 x3:=stO [tsP 2 0,tsP 3 1,tsI 7 x0,tsI 8 x1] [obX 30 x2,obX 30 x3]
def aA9:=stO [] []
def aKe x0 x1 x2 x3:=stO [tsP 2 0,tsP 3 1,tsI 20 x0,tsB 30 x1] [obX 30 x2,obX 30 x3]
def aKf x0 x1 x2 x3:=stO [tsP 2 0,tsP 3 1,tsI 20 x0,tsB 21 x1] [obX 30 x2,obX 30 x3]
abbrev aKg (m M4:Nat) (rec4:Q35):Prop:=∀x0 x1 x2,av7 jn m aoi [] M4 (Nt x0 x1 x2)=rec4 x0 x1 x2
theorem Xw m M4 rec4 (h4:aKg m M4 rec4) x0 x1 x2:DF jn m aKb [M4] (Nt x0 x1 x2)=CK m (aJ m) rec4 x0 x1 x2:=
 tq (g:=fun J=>(jj J 1 14 M4 (Nt (IntKind.wrap .i64 (x0+1)) x1 x2) (av7 J m aoi [] M4))) (by simp only[ah,h4];rfl)
theorem Xx m M4 rec4 (h4:aKg m M4 rec4) x0 x1 x2:DF jn m axQ [M4] (Nt x0 x1 x2)=CO m (aJ m) rec4 x0 x1 x2:=
 tq (g:=fun J=>((idx (Dt.L x1 3) x0).bind fun v3=>
  ((idx (Dt.L x2 3) x0).bind fun v4=>
  ((aJ m v3 v4).bind fun r5=>
  (bif (r5 !=0) then
  some r5
  else
  (jj J 0 15 0 (Nt x0 x1 x2) (DF J m aKb [M4]))))))) (by simp only[ah,Xw m M4 rec4 h4];rfl)
theorem Xy m x0 x1:DF jn m aJ9 [] (aiB x0 x1)=qC m (aJ m) x0 x1:=
 tq (g:=fun J=>qC m (aJ m) x0 x1) (by rfl)
theorem Gx m:∀M4 x0 x1 x2,av7 jn m aoi [] M4 (Nt x0 x1 x2)=mJ m (aJ m) M4 x0 x1 x2
 |0,_,_,_=>rfl
 |M4+1,x0,x1,x2=>
  tl (g:=fun J=>AZ (fun y0 y1 y2=>jj J 0 16 0 (Nt y0 y1 y2) (DF J m axQ [M4])) (fun y0 y1=>jj J 0 19 0 (aiB y0 y1) (DF J m aJ9 [])) x0 x1 x2) (by simp only[ah,Xx m M4 (mJ m (aJ m) M4) (Gx m M4),Xy m];rfl)
theorem Xz m x0 x1 x2:DF jn m axP [] (Nt x0 x1 x2)=wH m (aJ m) x0 x1 x2:=
 tq (g:=fun J=>(jj J 1 14 (Nat.succ m) (Nt x0 x1 x2) (av7 J m aoi [] (Nat.succ m)))) (by simp only[ah,Gx m];rfl)
abbrev axR (m M9:Nat) (rec9:Q35):Prop:=∀x0 x1 x2,av7 jn m aoj [] M9 (D7 x0 x1 x2)=rec9 x0 x1 x2
theorem VJ m M9 rec9 (h9:axR m M9 rec9) x0 x1 x2:DF jn m aKc [M9] (D7 x0 x1 x2)=A8 m (aJ m) rec9 x0 x1 x2:=
 tq (g:=fun J=>(jj J 1 22 M9 (D7 (IntKind.wrap .i64 (x0+1)) x1 x2) (av7 J m aoj [] M9))) (by simp only[ah,h9];rfl)
theorem VK m M9 rec9 (h9:axR m M9 rec9) x0 x1 x2 x3:DF jn m aKd [M9] (aA8 x0 x1 x2 x3)=A9 m (aJ m) rec9 x0 x1 x2 x3:=
 tq (g:=fun J=>(bif (x1 !=0) then
  some x1
   else
  (jj J 0 23 0 (D7 x0 x2 x3) (DF J m aKc [M9])))) (by simp only[ah,VJ m M9 rec9 h9];rfl)
theorem VL m M9 rec9 (h9:axR m M9 rec9) x0 x1 x2:DF jn m asE [M9] (D7 x0 x1 x2)=Ba m (aJ m) rec9 x0 x1 x2:=
 tq (g:=fun J=>zB (fun y0 y1 y2 y3=>jj J 0 27 0 (aA8 y0 y1 y2 y3) (DF J m aKd [M9])) m (aJ m) x0 x1 x2) (by simp only[ah,VK m M9 rec9 h9];rfl)
theorem VN m x0 x1:DF jn m aKa [] (aiB x0 x1)=oL m (aJ m) x0 x1:=
 tq (g:=fun J=>oL m (aJ m) x0 x1) (by rfl)
theorem Gy m:∀M9 x0 x1 x2,av7 jn m aoj [] M9 (D7 x0 x1 x2)=mK m (aJ m) M9 x0 x1 x2
 |0,_,_,_=>rfl
 |M9+1,x0,x1,x2=>
  tl (g:=fun J=>Bb (fun y0 y1 y2=>jj J 0 24 0 (D7 y0 y1 y2) (DF J m asE [M9])) (fun y0 y1=>jj J 0 29 0 (aiB y0 y1) (DF J m aKa [])) x0 x1 x2) (by simp only[ah,VL m M9 (mK m (aJ m) M9) (Gy m M9),VN m];rfl)
theorem XA m x0 x1 x2:DF jn m asD [] (D7 x0 x1 x2)=wI m (aJ m) x0 x1 x2:=
 tq (g:=fun J=>(jj J 1 22 (Nat.succ m) (D7 x0 x1 x2) (av7 J m aoj [] (Nat.succ m)))) (by simp only[ah,Gy m];rfl)
theorem VO m:DF jn m [1,1,1] [] aA9=Bc m (aJ m):=
 tq (g:=fun J=>some 0) (by rfl)
theorem XB m x0 x1 x2 x3:DF jn m WA [] (aKe x0 x1 x2 x3)=CP m (aJ m) x0 x1 x2 x3:=
 tq (g:=fun J=>(bif x1 then
  ((oK m (Dt.S x2 2) (Dt.S x3 2)).bind fun r2=>
  some r2)
   else
  (bif (x0==6) then
  (jj J 0 14 0 (Nt 0 x2 x3) (DF J m axP []))
  else
  (bif (x0==5) then
  (jj J 0 22 0 (D7 0 x2 x3) (DF J m asD []))
  else
  (jj J 0 30 0 aA9 (DF J m [1,1,1] [])))))) (by simp only[ah,Xz m,XA m,VO m];rfl)
theorem XC m x0 x1 x2 x3:DF jn m asC [] (aKf x0 x1 x2 x3)=CQ m (aJ m) x0 x1 x2 x3:=
 tq (g:=fun J=>Bd (fun y0 y1 y2 y3=>jj J 0 11 0 (aKe y0 y1 y2 y3) (DF J m WA [])) m x0 x1 x2 x3) (by simp only[ah,XB m];rfl)
theorem XD m x0 x1:DF jn m [1,1] [] (aiB x0 x1)=qE m (aJ m) x0 x1:=
 tq (g:=fun J=>Bf (fun y0 y1 y2 y3=>jj J 0 7 0 (aKf y0 y1 y2 y3) (DF J m asC [])) x0 x1) (by simp only[ah,XC m];rfl)
theorem aiC m a0 a1:DF jn m [] [] ⟨[.dat 30 a0,.dat 30 a1],[],0⟩=aJ (m+1) a0 a1:=
 tq (g:=fun J=>(bif ((Dt.I a0 0) !=(Dt.I a1 0)) then
  ((gX m (Dt.I a0 0) (Dt.I a1 0)).bind fun r0=>
  some r0)
   else
  (jj J 0 3 0 (aiB a0 a1) (DF J m [1,1] [])))) (by simp only[ah,XD m];rfl)
def asF:List Nat:=[1,1,0,1,0]
def asG:List Nat:=[1,1,0,1,0,0,1,1]
def aKh:List Nat:=asG++[1]
def aKi:List Nat:=asG++[0,0,1,1]
def e128 (J:Q0) m:=evAt Tryz.prog env (ct m) J (m+1) 174 39 Tryz.f174 d17
def aN6 (J:Q0) m:=loopAt Tryz.prog env (ct m) J (m+1) 174 39 Tryz.f174 d17
def Nu x0 x1 x2:=stO [tsS 0 x0,tsI 18 x1,tsI 19 x2] []
def aKj x0 x1 x2 x3:=stO [tsS 0 x0,tsI 18 x1,tsI 19 x2,tsB 37 x3] []
def aKk:=stO [] []
def aKl x0:=stO [tsS 0 x0] []
def aKm x0 x1:=stO [tsS 0 x0,tsB 16 x1] []
abbrev axS (m M3:Nat) (rec3:Q30):Prop:=∀x0 x1 x2,aN6 jn m asF [] M3 (Nu x0 x1 x2)=rec3 x0 x1 x2
theorem abE m M3 rec3 (h3:axS m M3 rec3) x0 x1 x2:e128 jn m aKh [M3] (Nu x0 x1 x2)=E8 m rec3 x0 x1 x2:=
 tq (g:=fun J=>(jj J 1 4 M3 (Nu x0 x1 (IntKind.wrap .i64 (x2+1))) (aN6 J m asF [] M3))) (by simp only[ah,h3];rfl)
theorem abF m M3 rec3 (h3:axS m M3 rec3) x0 x1 x2 x3:e128 jn m aKi [M3] (aKj x0 x1 x2 x3)=E9 m rec3 x0 x1 x2 x3:=
 tq (g:=fun J=>(bif x3 then
  some true
   else
  (jj J 0 8 0 (Nu x0 x1 x2) (e128 J m aKh [M3])))) (by simp only[ah,abE m M3 rec3 h3];rfl)
theorem abG m M3 rec3 (h3:axS m M3 rec3) x0 x1 x2:e128 jn m asG [M3] (Nu x0 x1 x2)=Fa m rec3 x0 x1 x2:=
 tq (g:=fun J=>CS (fun y0 y1 y2 y3=>jj J 0 7 0 (aKj y0 y1 y2 y3) (e128 J m aKi [M3])) x0 x1 x2) (by simp only[ah,abF m M3 rec3 h3];rfl)
theorem abH m:e128 jn m [1,1,1] [] aKk=Fb m:=
 tq (g:=fun J=>some false) (by rfl)
theorem J9 m:∀M3 x0 x1 x2,aN6 jn m asF [] M3 (Nu x0 x1 x2)=jY m M3 x0 x1 x2
 |0,_,_,_=>rfl
 | M3+1,x0,x1,x2=>
   tl (g:=fun J=>(bif (decide (x2<x1)) then
  (jj J 0 5 0 (Nu x0 x1 x2) (e128 J m asG [M3]))
   else
  (jj J 0 9 0 aKk (e128 J m [1,1,1] [])))) (by simp only[ah,abG m M3 (jY m M3) (J9 m M3),abH m];rfl)
theorem abI m x0 x1 x2:e128 jn m [1,1,0,1] [] (Nu x0 x1 x2)=Fe m x0 x1 x2:=
 tq (g:=fun J=>(jj J 1 4 (Nat.succ m) (Nu x0 x1 x2) (aN6 J m asF [] (Nat.succ m)))) (by simp only[ah,J9 m];rfl)
theorem abJ m x0:e128 jn m [1,1] [] (aKl x0)=Fg m x0:=
 tq (g:=fun J=>(jj J 0 4 0 (Nu x0 (ByteArray.size x0:Int) 0) (e128 J m [1,1,0,1] []))) (by simp only[ah,abI m];rfl)
theorem abK m x0 x1:e128 jn m [1,0,1] [] (aKm x0 x1)=Fh m x0 x1:=
 tq (g:=fun J=>(bif x1 then
  some true
   else
  (jj J 0 3 0 (aKl x0) (e128 J m [1,1] [])))) (by simp only[ah,abJ m];rfl)
theorem akz m a0:e128 jn m [] [] ⟨[.dat 9 (.str a0)],[],0⟩=wJ (m+1) a0:=
 tq (g:=fun J=>MF (fun y0 y1=>jj J 0 2 0 (aKm y0 y1) (e128 J m [1,0,1] [])) a0) (by simp only[ah,abK m];rfl)
def axT:List Nat:=[1,0,1,0,0,1,1]
def aKn:List Nat:=axT++[1]
def e127 (J:Q1) m:=evAt Tryz.prog env (ct m) J (m+1) 209 19 Tryz.f209 d7
def aN7 (J:Q1) m:=loopAt Tryz.prog env (ct m) J (m+1) 209 19 Tryz.f209 d7
def Nv x0 x1 x2:=stO [tsL 0 26 x0,(1,.fn 174 []),tsI 7 x1,tsI 8 x2] []
def aKo:=stO [] []
abbrev aKp (m M1:Nat) (rec1:Q22):Prop:=∀x0 x1 x2,aN7 jn m [1,0,1,0] [] M1 (Nv x0 x1 x2)=rec1 x0 x1 x2
theorem axU m M1 rec1 (h1:aKp m M1 rec1) x0 x1 x2:e127 jn m aKn [M1] (Nv x0 x1 x2)=ae8 m rec1 x0 x1 x2:=
 tq (g:=fun J=>(jj J 1 2 M1 (Nv x0 x1 (IntKind.wrap .i64 (x2+1))) (aN7 J m [1,0,1,0] [] M1))) (by simp only[ah,h1];rfl)
theorem axV m M1 rec1 (h1:aKp m M1 rec1) x0 x1 x2:e127 jn m axT [M1] (Nv x0 x1 x2)=ae9 m rec1 x0 x1 x2:=
 tq (g:=fun J=>UY (fun y0 y1 y2=>jj J 0 6 0 (Nv y0 y1 y2) (e127 J m aKn [M1])) m x0 x1 x2) (by simp only[ah,axU m M1 rec1 h1];rfl)
theorem axW m:e127 jn m [1,1] [] aKo=afa m:=
 tq (g:=fun J=>some (-1)) (by rfl)
theorem aok m:∀M1 x0 x1 x2,aN7 jn m [1,0,1,0] [] M1 (Nv x0 x1 x2)=P8 m M1 x0 x1 x2
 |0,_,_,_=>rfl
 | M1+1,x0,x1,x2=>
   tl (g:=fun J=>(bif (decide (x2<x1)) then
  (jj J 0 3 0 (Nv x0 x1 x2) (e127 J m axT [M1]))
   else
  (jj J 0 7 0 aKo (e127 J m [1,1] [])))) (by simp only[ah,axV m M1 (P8 m M1) (aok m M1),axW m];rfl)
theorem axX m x0 x1 x2:e127 jn m [1,0,1] [] (Nv x0 x1 x2)=afb m x0 x1 x2:=
 tq (g:=fun J=>(jj J 1 2 (Nat.succ m) (Nv x0 x1 x2) (aN7 J m [1,0,1,0] [] (Nat.succ m)))) (by simp only[ah,aok m];rfl)
theorem aN8 m a0:e127 jn m [] [] ⟨[.dat 26 (.lst a0),.fn 174 []],[],0⟩=i127 (m+1) a0:=
 tq (g:=fun J=>(jj J 0 2 0 (Nv a0 (List.length a0:Int) 0) (e127 J m [1,0,1] []))) (by simp only[ah,axX m];rfl)
def e126 (J:Q0) m:=evAt Tryz.prog env (ct m) J (m+1) 173 9 Tryz.f173 d17
theorem aN9 m a0:e126 jn m [] [] ⟨[.dat 26 (.lst a0),.fn 174 []],[],0⟩=aDf (m+1) a0:=
 tq (g:=fun J=>aDf (m+1) a0) (by rfl)
def aXA (J:Q0) m:=evAt Tryz.prog env (ct m) J (m+1) 132 16 Tryz.f132 d17
theorem apO m a0:aXA jn m [] [] ⟨[.dat 26 (.lst a0)],[],0⟩=pq (m+1) a0:=
 tq (g:=fun J=>pq (m+1) a0) (by rfl)
def aXB (J:Q0) m:=evAt Tryz.prog env (ct m) J (m+1) 178 9 Tryz.f178 d17
theorem XE m a0:aXB jn m [] [] ⟨[.dat 3 (.int a0)],[],0⟩=fC (m+1) a0:=
 tq (g:=fun J=>fC (m+1) a0) (by rfl)
def aXC (J:Q0) m:=evAt Tryz.prog env (ct m) J (m+1) 179 11 Tryz.f179 d17
theorem aol m a0:aXC jn m [] [] ⟨[.dat 129 a0],[],0⟩=qZ (m+1) a0:=
 tq (g:=fun J=>qZ (m+1) a0) (by rfl)
def aKq:List Nat:=[1,1,1,1,1]
def aKr:List Nat:=[1,1,1,1,1,1]
def axY:List Nat:=[1,1,1,1,1,0,1]
def aom:List Nat:=axY++[0]
def axZ:List Nat:=aom++[0,1,1]
def aKs:List Nat:=axZ++[1]
def e108 (J:Q1) m:=evAt Tryz.prog env (ct m) J (m+1) 136 56 Tryz.f136 d70
def aOa (J:Q1) m:=loopAt Tryz.prog env (ct m) J (m+1) 136 56 Tryz.f136 d70
def Nw x0 x1 x2:=stO [tsL 46 31 x0,tsI 47 x1,tsI 48 x2] []
def aKt:=stO [] []
def aKu x0:=stO [tsP 1 0] [obX 33 x0]
def aKv x0 x1:=stO [tsP 1 0,tsB 4 x0] [obX 33 x1]
abbrev aKw (m M3:Nat) (rec3:Q22):Prop:=∀x0 x1 x2,aOa jn m aom [] M3 (Nw x0 x1 x2)=rec3 x0 x1 x2
theorem akA m M3 rec3 (h3:aKw m M3 rec3) x0 x1 x2:e108 jn m aKs [M3] (Nw x0 x1 x2)=GA m rec3 x0 x1 x2:=
 tq (g:=fun J=>(jj J 1 13 M3 (Nw x0 x1 (IntKind.wrap .i64 (x2+1))) (aOa J m aom [] M3))) (by simp only[ah,h3];rfl)
theorem akB m M3 rec3 (h3:aKw m M3 rec3) x0 x1 x2:e108 jn m axZ [M3] (Nw x0 x1 x2)=GD m rec3 x0 x1 x2:=
 tq (g:=fun J=>((idx x0 x2).bind fun v0=>
  ((qZ m v0).bind fun r1=>
  (bif (Bool.not r1) then
  some 18
  else
  (jj J 0 17 0 (Nw x0 x1 x2) (e108 J m aKs [M3])))))) (by simp only[ah,akA m M3 rec3 h3];rfl)
theorem akC m:e108 jn m aKr [] aKt=GH m:=
 tq (g:=fun J=>some 0) (by rfl)
theorem Rf m:∀M3 x0 x1 x2,aOa jn m aom [] M3 (Nw x0 x1 x2)=wK m M3 x0 x1 x2
 |0,_,_,_=>rfl
 | M3+1,x0,x1,x2=>
   tl (g:=fun J=>(bif (decide (x2<x1)) then
  (jj J 0 14 0 (Nw x0 x1 x2) (e108 J m axZ [M3]))
   else
  (jj J 0 18 0 aKt (e108 J m aKr [])))) (by simp only[ah,akB m M3 (wK m M3) (Rf m M3),akC m];rfl)
theorem akD m x0 x1 x2:e108 jn m axY [] (Nw x0 x1 x2)=GI m x0 x1 x2:=
 tq (g:=fun J=>(jj J 1 13 (Nat.succ m) (Nw x0 x1 x2) (aOa J m aom [] (Nat.succ m)))) (by simp only[ah,Rf m];rfl)
theorem akE m x0:e108 jn m aKq [] (aKu x0)=GJ m x0:=
 tq (g:=fun J=>(jj J 0 13 0 (Nw (Dt.L x0 1) (List.length (Dt.L x0 1):Int) 0) (e108 J m axY []))) (by simp only[ah,akD m];rfl)
theorem akF m x0 x1:e108 jn m [1,1,1,1] [] (aKv x0 x1)=Bg m x0 x1:=
 tq (g:=fun J=>(bif (Bool.not x0) then
  some 18
   else
  (jj J 0 12 0 (aKu x1) (e108 J m aKq [])))) (by simp only[ah,akE m];rfl)
theorem asH m a0:e108 jn m [] [] ⟨[.dat 33 a0],[],0⟩=CU (m+1) a0:=
 tq (g:=fun J=>aa8 (fun y0 y1=>jj J 0 10 0 (aKv y0 y1) (e108 J m [1,1,1,1] [])) m a0) (by simp only[ah,akF m];rfl)
def aXD (J:Q0) m:=evAt Tryz.prog env (ct m) J (m+1) 180 28 Tryz.f180 d17
theorem XF m a0:aXD jn m [] [] ⟨[.dat 30 a0],[],0⟩=gH (m+1) a0:=
 tq (g:=fun J=>gH (m+1) a0) (by rfl)
def aXE (J:Q0) m:=evAt Tryz.prog env (ct m) J (m+1) 181 17 Tryz.f181 d17
theorem abL m a0:aXE jn m [] [] ⟨[.dat 3 (.int a0)],[],0⟩=jZ (m+1) a0:=
 tq (g:=fun J=>jZ (m+1) a0) (by rfl)
def aXF (J:Q0) m:=evAt Tryz.prog env (ct m) J (m+1) 182 39 Tryz.f182 d17
theorem O9 m a0:aXF jn m [] [] ⟨[.dat 36 a0],[],0⟩=eG (m+1) a0:=
 tq (g:=fun J=>eG (m+1) a0) (by rfl)
def ax0:List Nat:=[1,0,0,1,1,1]
def ax1:List Nat:=ax0++[1,1]
def ax2:List Nat:=ax1++[1,1]
def ax3:List Nat:=ax2++[1,1]
def ax4:List Nat:=ax3++[1,1]
def aKx:List Nat:=ax4++[1,1]
def e109 (J:Q0) m:=evAt Tryz.prog env (ct m) J (m+1) 137 88 Tryz.f137 d17
def VP:=stO [] []
def aKy x0:=stO [tsB 78 x0] []
def aKz x0 x1:=stO [tsP 1 0,tsB 55 x0] [obX 39 x1]
def aKA x0 x1:=stO [tsP 1 0,tsB 46 x0] [obX 39 x1]
def aKB x0 x1:=stO [tsP 1 0,tsB 36 x0] [obX 39 x1]
def aKC x0 x1:=stO [tsP 1 0,tsB 25 x0] [obX 39 x1]
def aKD x0 x1:=stO [tsP 1 0,tsB 14 x0] [obX 39 x1]
def aKE x0 x1:=stO [tsP 1 0,tsB 3 x0] [obX 39 x1]
theorem dV m:e109 jn m [1,1] [] VP=eH m:=
 tq (g:=fun J=>some false) (by rfl)
theorem Sd m x0:e109 jn m aKx [] (aKy x0)=Jc m x0:=
 tq (g:=fun J=>(bif x0 then
  (jj J 0 9 0 VP (e109 J m [1,1] []))
   else
  some true)) (by simp only[ah,dV m];rfl)
theorem Sg m x0 x1:e109 jn m ax4 [] (aKz x0 x1)=rR m x0 x1:=
 tq (g:=fun J=>w9 (jj J 0 9 0 VP (e109 J m [1,1] [])) (fun y0=>jj J 0 1 0 (aKy y0) (e109 J m aKx [])) m x0 x1) (by simp only[ah,dV m,Sd m];rfl)
theorem Si m x0 x1:e109 jn m ax3 [] (aKA x0 x1)=rT m x0 x1:=
 tq (g:=fun J=>xg (jj J 0 9 0 VP (e109 J m [1,1] [])) (fun y0 y1=>jj J 0 8 0 (aKz y0 y1) (e109 J m ax4 [])) x0 x1) (by simp only[ah,dV m,Sg m];rfl)
theorem Sj m x0 x1:e109 jn m ax2 [] (aKB x0 x1)=rU m x0 x1:=
 tq (g:=fun J=>xk (jj J 0 9 0 VP (e109 J m [1,1] [])) (fun y0 y1=>jj J 0 7 0 (aKA y0 y1) (e109 J m ax3 [])) x0 x1) (by simp only[ah,dV m,Si m];rfl)
theorem Sk m x0 x1:e109 jn m ax1 [] (aKC x0 x1)=rV m x0 x1:=
 tq (g:=fun J=>xq (jj J 0 9 0 VP (e109 J m [1,1] [])) (fun y0 y1=>jj J 0 6 0 (aKB y0 y1) (e109 J m ax2 [])) m x0 x1) (by simp only[ah,dV m,Sj m];rfl)
theorem Sl m x0 x1:e109 jn m ax0 [] (aKD x0 x1)=rW m x0 x1:=
 tq (g:=fun J=>xu (jj J 0 9 0 VP (e109 J m [1,1] [])) (fun y0 y1=>jj J 0 5 0 (aKC y0 y1) (e109 J m ax1 [])) m x0 x1) (by simp only[ah,dV m,Sk m];rfl)
theorem Sm m x0 x1:e109 jn m [1,0,0,1] [] (aKE x0 x1)=rX m x0 x1:=
 tq (g:=fun J=>xw (jj J 0 9 0 VP (e109 J m [1,1] [])) (fun y0 y1=>jj J 0 4 0 (aKD y0 y1) (e109 J m ax0 [])) m x0 x1) (by simp only[ah,dV m,Sl m];rfl)
theorem abM m a0:e109 jn m [] [] ⟨[.dat 39 a0],[],0⟩=j5 (m+1) a0:=
 tq (g:=fun J=>CV (fun y0 y1=>jj J 0 3 0 (aKE y0 y1) (e109 J m [1,0,0,1] [])) m a0) (by simp only[ah,Sm m];rfl)
def aVv (J:Q1) m:=evAt Tryz.prog env (ct m) J (m+1) 210 14 Tryz.f210 d7
def aKF x0 x1 x2:=stO [tsP 2 0,tsP 3 1,tsP 5 2] [obX 30 x0,.box 3 (.dat 3 (.int x1)),.box 3 (.dat 3 (.int x2))]
theorem af8 m x0 x1 x2:aVv jn m [1,1,1] [] (aKF x0 x1 x2)=Bh m (axE m) x0 x1 x2:=
 tq (g:=fun J=>Bh m (axE m) x0 x1 x2) (by rfl)
theorem aon m a0 a1:aVv jn m [] [] ⟨[.dat 30 a0,.dat 3 (.int a1)],[],0⟩=vP (m+1) a0 a1:=
 tq (g:=fun J=>(bif (1==a1) then
  some 1
   else
  (jj J 0 4 0 (aKF a0 a1 1) (aVv J m [1,1,1] [])))) (by simp only[ah,af8 m];rfl)
def ax5:List Nat:=[1,1,0,1,0,1]
def aoo:List Nat:=ax5++[0]
def ax6:List Nat:=[1,1,0,1,1,1,0,1]
def aop:List Nat:=ax6++[0]
def ax7:List Nat:=aoo++[0,1,1]
def aKG:List Nat:=ax7++[1]
def ax8:List Nat:=aop++[0,1,1]
def aKH:List Nat:=ax8++[1]
def aiD (J:Q31) m:=evAt Tryz.prog env (ct m) J (m+1) 238 39 Tryz.f238 aCP
def av8 (J:Q31) m:=loopAt Tryz.prog env (ct m) J (m+1) 238 39 Tryz.f238 aCP
def Ny x0 x1 x2 x3 x4:=(⟨tsOf [(1,(.fn 239 [.ptr 0 [] 0,.ptr 1 [] 0])),tsL 13 27 x0,tsI 14 x1,tsI 15 x2],[.box 3 (.dat 3 (.int x3)),.box 3 (.dat 3 (.int x4))],2⟩:St)
def Nz x0 x1 x2 x3 x4:=(⟨tsOf [(1,(.fn 239 [.ptr 0 [] 0,.ptr 1 [] 0])),tsL 27 28 x0,tsI 28 x1,tsI 29 x2],[.box 3 (.dat 3 (.int x3)),.box 3 (.dat 3 (.int x4))],2⟩:St)
abbrev aKI (m M1:Nat) (rec1:Q23):Prop:=∀x0 x1 x2 x3 x4,av8 jn m aoo [] M1 (Ny x0 x1 x2 x3 x4)=rec1 x0 x1 x2 x3 x4
theorem ax9 m M1 rec1 (h1:aKI m M1 rec1) x0 x1 x2 x3 x4:aiD jn m aKG [M1] (Ny x0 x1 x2 x3 x4)=Wl m (i159 m) rec1 x0 x1 x2 x3 x4:=
 tq (g:=fun J=>(jj J 1 4 M1 (Ny x0 x1 (IntKind.wrap .i64 (x2+1)) x3 x4) (av8 J m aoo [] M1))) (by simp only[ah,h1];rfl)
theorem aya m M1 rec1 (h1:aKI m M1 rec1) x0 x1 x2 x3 x4:aiD jn m ax7 [M1] (Ny x0 x1 x2 x3 x4)=Wm m (i159 m) rec1 x0 x1 x2 x3 x4:=
 tq (g:=fun J=>((idx x0 x2).bind fun v0=>
  ((i159 m v0 x3 x4).bind fun r1=>
  (bif (Bool.not r1.1) then
  some (r1.2.1,r1.2.2)
  else
  (jj J 0 7 0 (Ny x0 x1 x2 r1.2.1 r1.2.2) (aiD J m aKG [M1])))))) (by simp only[ah,ax9 m M1 rec1 h1];rfl)
theorem aoq m:∀M1 x0 x1 x2 x3 x4,av8 jn m aoo [] M1 (Ny x0 x1 x2 x3 x4)=P9 m (i159 m) M1 x0 x1 x2 x3 x4
 |0,_,_,_,_,_=>rfl
 | M1+1,x0,x1,x2,x3,x4=>
   tl (g:=fun J=>(bif (decide (x2<x1)) then
  (jj J 0 5 0 (Ny x0 x1 x2 x3 x4) (aiD J m ax7 [M1]))
   else
  some (x3,x4))) (by simp only[ah,aya m M1 (P9 m (i159 m) M1) (aoq m M1)];rfl)
theorem ayb m x0 x1 x2 x3 x4:aiD jn m ax5 [] (Ny x0 x1 x2 x3 x4)=Wn m (i159 m) x0 x1 x2 x3 x4:=
 tq (g:=fun J=>(jj J 1 4 (Nat.succ m) (Ny x0 x1 x2 x3 x4) (av8 J m aoo [] (Nat.succ m)))) (by simp only[ah,aoq m];rfl)
abbrev aKJ (m M5:Nat) (rec5:Q23):Prop:=∀x0 x1 x2 x3 x4,av8 jn m aop [] M5 (Nz x0 x1 x2 x3 x4)=rec5 x0 x1 x2 x3 x4
theorem ayc m M5 rec5 (h5:aKJ m M5 rec5) x0 x1 x2 x3 x4:aiD jn m aKH [M5] (Nz x0 x1 x2 x3 x4)=Wo m (i159 m) rec5 x0 x1 x2 x3 x4:=
 tq (g:=fun J=>(jj J 1 10 M5 (Nz x0 x1 (IntKind.wrap .i64 (x2+1)) x3 x4) (av8 J m aop [] M5))) (by simp only[ah,h5];rfl)
theorem ayd m M5 rec5 (h5:aKJ m M5 rec5) x0 x1 x2 x3 x4:aiD jn m ax8 [M5] (Nz x0 x1 x2 x3 x4)=Wp m (i159 m) rec5 x0 x1 x2 x3 x4:=
 tq (g:=fun J=>OQ (fun y0 y1 y2 y3 y4=>jj J 0 13 0 (Nz y0 y1 y2 y3 y4) (aiD J m aKH [M5])) (i159 m) x0 x1 x2 x3 x4) (by simp only[ah,ayc m M5 rec5 h5];rfl)
theorem aor m:∀M5 x0 x1 x2 x3 x4,av8 jn m aop [] M5 (Nz x0 x1 x2 x3 x4)=Qa m (i159 m) M5 x0 x1 x2 x3 x4
 |0,_,_,_,_,_=>rfl
 | M5+1,x0,x1,x2,x3,x4=>
   tl (g:=fun J=>(bif (decide (x2<x1)) then
  (jj J 0 11 0 (Nz x0 x1 x2 x3 x4) (aiD J m ax8 [M5]))
   else
  some (x3,x4))) (by simp only[ah,ayd m M5 (Qa m (i159 m) M5) (aor m M5)];rfl)
theorem aye m x0 x1 x2 x3 x4:aiD jn m ax6 [] (Nz x0 x1 x2 x3 x4)=Wq m (i159 m) x0 x1 x2 x3 x4:=
 tq (g:=fun J=>(jj J 1 10 (Nat.succ m) (Nz x0 x1 x2 x3 x4) (av8 J m aop [] (Nat.succ m)))) (by simp only[ah,aor m];rfl)
theorem aOb m a0 a1 a2:aiD jn m [] [] ⟨[.dat 30 a0,(.fn 239 [.ptr 0 [] 0,.ptr 1 [] 0])],[.box 3 (.dat 3 (.int a1)),.box 3 (.dat 3 (.int a2))],2⟩=axE (m+1) a0 a1 a2:=
 tq (g:=fun J=>(bif ((Dt.I a0 0)==6) then
  (jj J 0 4 0 (Ny (Dt.L a0 3) (List.length (Dt.L a0 3):Int) 0 a1 a2) (aiD J m ax5 []))
   else
  (bif ((Dt.I a0 0)==5) then
  (jj J 0 10 0 (Nz (Dt.L a0 4) (List.length (Dt.L a0 4):Int) 0 a1 a2) (aiD J m ax6 []))
  else
  some (a1,a2)))) (by simp only[ah,ayb m,aye m];rfl)
def aXG (J:Q46) m:=evAt Tryz.prog env (ct m) J (m+1) 239 15 Tryz.f239 aM6
theorem aOc m a0 a1 a2:aXG jn m [] [] ⟨[.dat 30 a0,.ptr 0 [] 0,.ptr 1 [] 0],[.box 3 (.dat 3 (.int a1)),.box 3 (.dat 3 (.int a2))],2⟩=i159 (m+1) a0 a1 a2:=
 tq (g:=fun J=>i159 (m+1) a0 a1 a2) (by rfl)
def e129 (J:Q1) m:=evAt Tryz.prog env (ct m) J (m+1) 175 5 Tryz.f175 d7
theorem aos m a0:e129 jn m [] [] ⟨[.dat 30 a0],[],0⟩=ru (m+1) a0:=
 tq (g:=fun J=>ru (m+1) a0) (by rfl)
def aVw (J:Q1) m:=evAt Tryz.prog env (ct m) J (m+1) 211 13 Tryz.f211 d7
def aKK x0 x1:=stO [tsP 2 0,tsP 3 1] [obX 30 x0,.box 3 (.dat 3 (.int x1))]
theorem af9 m x0 x1:aVw jn m [1,1] [] (aKK x0 x1)=Bj m (i160 m) x0 x1:=
 tq (g:=fun J=>Bj m (i160 m) x0 x1) (by rfl)
theorem aot m a0 a1:aVw jn m [] [] ⟨[.dat 30 a0,.dat 3 (.int a1)],[],0⟩=vQ (m+1) a0 a1:=
 tq (g:=fun J=>(bif (a1==1) then
  some 1
   else
  (jj J 0 3 0 (aKK a0 a1) (aVw J m [1,1] [])))) (by simp only[ah,af9 m];rfl)
def ayf:List Nat:=[1,1,0,1,0,1]
def aou:List Nat:=ayf++[0]
def ayg:List Nat:=[1,1,0,1,1,1,0,1]
def aov:List Nat:=ayg++[0]
def ayh:List Nat:=aou++[0,1,1]
def aKL:List Nat:=ayh++[1]
def ayi:List Nat:=aov++[0,1,1]
def aKM:List Nat:=ayi++[1]
def aiE (J:Q31) m:=evAt Tryz.prog env (ct m) J (m+1) 238 39 Tryz.f238 aCP
def av9 (J:Q31) m:=loopAt Tryz.prog env (ct m) J (m+1) 238 39 Tryz.f238 aCP
def NA x0 x1 x2 x3 x4:=(⟨tsOf [(1,(.fn 240 [.ptr 0 [] 0,.ptr 1 [] 0])),tsL 13 27 x0,tsI 14 x1,tsI 15 x2],[.box 3 (.dat 3 (.int x3)),.box 3 (.dat 3 (.int x4))],2⟩:St)
def NC x0 x1 x2 x3 x4:=(⟨tsOf [(1,(.fn 240 [.ptr 0 [] 0,.ptr 1 [] 0])),tsL 27 28 x0,tsI 28 x1,tsI 29 x2],[.box 3 (.dat 3 (.int x3)),.box 3 (.dat 3 (.int x4))],2⟩:St)
abbrev aKN (m M1:Nat) (rec1:Q23):Prop:=∀x0 x1 x2 x3 x4,av9 jn m aou [] M1 (NA x0 x1 x2 x3 x4)=rec1 x0 x1 x2 x3 x4
theorem ayj m M1 rec1 (h1:aKN m M1 rec1) x0 x1 x2 x3 x4:aiE jn m aKL [M1] (NA x0 x1 x2 x3 x4)=Ws m (GK m) rec1 x0 x1 x2 x3 x4:=
 tq (g:=fun J=>(jj J 1 4 M1 (NA x0 x1 (IntKind.wrap .i64 (x2+1)) x3 x4) (av9 J m aou [] M1))) (by simp only[ah,h1];rfl)
theorem ayk m M1 rec1 (h1:aKN m M1 rec1) x0 x1 x2 x3 x4:aiE jn m ayh [M1] (NA x0 x1 x2 x3 x4)=Wt m (GK m) rec1 x0 x1 x2 x3 x4:=
 tq (g:=fun J=>((idx x0 x2).bind fun v0=>
  ((GK m v0 x3 x4).bind fun r1=>
  (bif (Bool.not r1.1) then
  some (r1.2.1,r1.2.2)
  else
  (jj J 0 7 0 (NA x0 x1 x2 r1.2.1 r1.2.2) (aiE J m aKL [M1])))))) (by simp only[ah,ayj m M1 rec1 h1];rfl)
theorem aow m:∀M1 x0 x1 x2 x3 x4,av9 jn m aou [] M1 (NA x0 x1 x2 x3 x4)=Qb m (GK m) M1 x0 x1 x2 x3 x4
 |0,_,_,_,_,_=>rfl
 | M1+1,x0,x1,x2,x3,x4=>
   tl (g:=fun J=>(bif (decide (x2<x1)) then
  (jj J 0 5 0 (NA x0 x1 x2 x3 x4) (aiE J m ayh [M1]))
   else
  some (x3,x4))) (by simp only[ah,ayk m M1 (Qb m (GK m) M1) (aow m M1)];rfl)
theorem ayl m x0 x1 x2 x3 x4:aiE jn m ayf [] (NA x0 x1 x2 x3 x4)=Wu m (GK m) x0 x1 x2 x3 x4:=
 tq (g:=fun J=>(jj J 1 4 (Nat.succ m) (NA x0 x1 x2 x3 x4) (av9 J m aou [] (Nat.succ m)))) (by simp only[ah,aow m];rfl)
abbrev aKO (m M5:Nat) (rec5:Q23):Prop:=∀x0 x1 x2 x3 x4,av9 jn m aov [] M5 (NC x0 x1 x2 x3 x4)=rec5 x0 x1 x2 x3 x4
theorem aym m M5 rec5 (h5:aKO m M5 rec5) x0 x1 x2 x3 x4:aiE jn m aKM [M5] (NC x0 x1 x2 x3 x4)=Wv m (GK m) rec5 x0 x1 x2 x3 x4:=
 tq (g:=fun J=>(jj J 1 10 M5 (NC x0 x1 (IntKind.wrap .i64 (x2+1)) x3 x4) (av9 J m aov [] M5))) (by simp only[ah,h5];rfl)
theorem ayn m M5 rec5 (h5:aKO m M5 rec5) x0 x1 x2 x3 x4:aiE jn m ayi [M5] (NC x0 x1 x2 x3 x4)=Ww m (GK m) rec5 x0 x1 x2 x3 x4:=
 tq (g:=fun J=>OT (fun y0 y1 y2 y3 y4=>jj J 0 13 0 (NC y0 y1 y2 y3 y4) (aiE J m aKM [M5])) (GK m) x0 x1 x2 x3 x4) (by simp only[ah,aym m M5 rec5 h5];rfl)
theorem aox m:∀M5 x0 x1 x2 x3 x4,av9 jn m aov [] M5 (NC x0 x1 x2 x3 x4)=Qc m (GK m) M5 x0 x1 x2 x3 x4
 |0,_,_,_,_,_=>rfl
 | M5+1,x0,x1,x2,x3,x4=>
   tl (g:=fun J=>(bif (decide (x2<x1)) then
  (jj J 0 11 0 (NC x0 x1 x2 x3 x4) (aiE J m ayi [M5]))
   else
  some (x3,x4))) (by simp only[ah,ayn m M5 (Qc m (GK m) M5) (aox m M5)];rfl)
theorem ayo m x0 x1 x2 x3 x4:aiE jn m ayg [] (NC x0 x1 x2 x3 x4)=Wx m (GK m) x0 x1 x2 x3 x4:=
 tq (g:=fun J=>(jj J 1 10 (Nat.succ m) (NC x0 x1 x2 x3 x4) (av9 J m aov [] (Nat.succ m)))) (by simp only[ah,aox m];rfl)
theorem aOd m a0 a1 a2:aiE jn m [] [] ⟨[.dat 30 a0,(.fn 240 [.ptr 0 [] 0,.ptr 1 [] 0])],[.box 3 (.dat 3 (.int a1)),.box 3 (.dat 3 (.int a2))],2⟩=i160 (m+1) a0 a1 a2:=
 tq (g:=fun J=>(bif ((Dt.I a0 0)==6) then
  (jj J 0 4 0 (NA (Dt.L a0 3) (List.length (Dt.L a0 3):Int) 0 a1 a2) (aiE J m ayf []))
   else
  (bif ((Dt.I a0 0)==5) then
  (jj J 0 10 0 (NC (Dt.L a0 4) (List.length (Dt.L a0 4):Int) 0 a1 a2) (aiE J m ayg []))
  else
  some (a1,a2)))) (by simp only[ah,ayl m,ayo m];rfl)
def aXH (J:Q46) m:=evAt Tryz.prog env (ct m) J (m+1) 240 15 Tryz.f240 aM6
theorem aOe m a0 a1 a2:aXH jn m [] [] ⟨[.dat 30 a0,.ptr 0 [] 0,.ptr 1 [] 0],[.box 3 (.dat 3 (.int a1)),.box 3 (.dat 3 (.int a2))],2⟩=GK (m+1) a0 a1 a2:=
 tq (g:=fun J=>GK (m+1) a0 a1 a2) (by rfl)
def aXI (J:Q1) m:=evAt Tryz.prog env (ct m) J (m+1) 176 5 Tryz.f176 d7
theorem aoy m a0:aXI jn m [] [] ⟨[.dat 30 a0],[],0⟩=rz (m+1) a0:=
 tq (g:=fun J=>rz (m+1) a0) (by rfl)
def aXJ (J:Q0) m:=evAt Tryz.prog env (ct m) J (m+1) 245 6 Tryz.f245 d17
theorem aoz m a0:aXJ jn m [] [] ⟨[.dat 9 (.str a0)],[],0⟩=rA (m+1) a0:=
 tq (g:=fun J=>rA (m+1) a0) (by rfl)
def aXK (J:Q0) m:=evAt Tryz.prog env (ct m) J (m+1) 247 28 Tryz.f247 d17
theorem aoA m a0:aXK jn m [] [] ⟨[.dat 30 a0],[],0⟩=vR (m+1) a0:=
 tq (g:=fun J=>vR (m+1) a0) (by rfl)
def asI:List Nat:=[1,1,0,1,0]
def aoB:List Nat:=[1,1,0,1,0,0,1,1]
def aKP:List Nat:=aoB++[1]
def aKQ:List Nat:=aoB++[0,0,1,1]
def aKR:List Nat:=aoB++[0,0,1,0,1]
def aiF (J:Q0) m:=evAt Tryz.prog env (ct m) J (m+1) 246 24 Tryz.f246 d17
def aOf (J:Q0) m:=loopAt Tryz.prog env (ct m) J (m+1) 246 24 Tryz.f246 d17
def ND x0 x1 x2 x3:=stO [(3,.row 0),tsL 7 26 x0,tsI 8 x1,tsI 9 x2] [(.map 239 x3)]
def aKS x0 x1 x2 x3 x4:=stO [(3,.row 0),tsS 5 x0,tsL 7 26 x1,tsI 8 x2,tsI 9 x3] [(.map 239 x4)]
def aKT x0 x1 x2 x3 x4 x5:=stO [(3,.row 0),tsS 5 x0,tsL 7 26 x1,tsI 8 x2,tsI 9 x3,tsB 20 x4] [(.map 239 x5)]
def aKU:=stO [] []
abbrev asJ (m M1:Nat) (rec1:Q28):Prop:=∀x0 x1 x2 x3,aOf jn m asI [] M1 (ND x0 x1 x2 x3)=rec1 x0 x1 x2 x3
theorem NG m M1 rec1 (h1:asJ m M1 rec1) x0 x1 x2 x3:aiF jn m aKP [M1] (ND x0 x1 x2 x3)=uJ m rec1 x0 x1 x2 x3:=
 tq (g:=fun J=>(jj J 1 3 M1 (ND x0 x1 (IntKind.wrap .i64 (x2+1)) x3) (aOf J m asI [] M1))) (by simp only[ah,h1];rfl)
theorem NH m M1 rec1 (h1:asJ m M1 rec1) x0 x1 x2 x3 x4:aiF jn m aKQ [M1] (aKS x0 x1 x2 x3 x4)=uK m rec1 x0 x1 x2 x3 x4:=
 tq (g:=fun J=>(jj J 0 8 0 (ND x1 x2 x3 (mput x4 x0 (Dt.bool true))) (aiF J m aKP [M1]))) (by simp only[ah,NG m M1 rec1 h1];rfl)
theorem NI m M1 rec1 (h1:asJ m M1 rec1) x0 x1 x2 x3 x4 x5:aiF jn m aKR [M1] (aKT x0 x1 x2 x3 x4 x5)=uL m rec1 x0 x1 x2 x3 x4 x5:=
 tq (g:=fun J=>(bif x4 then
  some false
   else
  (jj J 0 7 0 (aKS x0 x1 x2 x3 x5) (aiF J m aKQ [M1])))) (by simp only[ah,NH m M1 rec1 h1];rfl)
theorem NJ m M1 rec1 (h1:asJ m M1 rec1) x0 x1 x2 x3:aiF jn m aoB [M1] (ND x0 x1 x2 x3)=uM m rec1 x0 x1 x2 x3:=
 tq (g:=fun J=>rY (fun y0 y1 y2 y3 y4 y5=>jj J 0 6 0 (aKT y0 y1 y2 y3 y4 y5) (aiF J m aKR [M1])) m x0 x1 x2 x3) (by simp only[ah,NI m M1 rec1 h1];rfl)
theorem NK m:aiF jn m [1,1,1] [] aKU=uO m:=
 tq (g:=fun J=>some true) (by rfl)
theorem yw m:∀M1 x0 x1 x2 x3,aOf jn m asI [] M1 (ND x0 x1 x2 x3)=fU m M1 x0 x1 x2 x3
 |0,_,_,_,_=>rfl
 | M1+1,x0,x1,x2,x3=>
   tl (g:=fun J=>(bif (decide (x2<x1)) then
  (jj J 0 4 0 (ND x0 x1 x2 x3) (aiF J m aoB [M1]))
   else
  (jj J 0 9 0 aKU (aiF J m [1,1,1] [])))) (by simp only[ah,NJ m M1 (fU m M1) (yw m M1),NK m];rfl)
theorem NM m x0 x1 x2 x3:aiF jn m [1,1,0,1] [] (ND x0 x1 x2 x3)=Cu m x0 x1 x2 x3:=
 tq (g:=fun J=>(jj J 1 3 (Nat.succ m) (ND x0 x1 x2 x3) (aOf J m asI [] (Nat.succ m)))) (by simp only[ah,yw m];rfl)
theorem Sn m a0:aiF jn m [] [] ⟨[.dat 26 (.lst a0)],[],0⟩=iV (m+1) a0:=
 tq (g:=fun J=>(jj J 0 3 0 (ND a0 (List.length a0:Int) 0 []) (aiF J m [1,1,0,1] []))) (by simp only[ah,NM m];rfl)
def aKV:List Nat:=[1,0,1,0,1]
def ayp:List Nat:=[1,0,1,0,1,1,1]
def ayq:List Nat:=ayp++[1,1]
def ayr:List Nat:=ayq++[1,1]
def aKW:List Nat:=ayr++[1,1]
def aiG (J:Q1) m:=evAt Tryz.prog env (ct m) J (m+1) 244 35 Tryz.f244 d7
def aW3 (J:Q1) m:=loopAt Tryz.prog env (ct m) J (m+1) 244 35 Tryz.f244 d7
def aKX:=stO [] []
def aKY x0 x1:=stO [tsI 3 x0,tsB 23 x1] []
def aKZ x0 x1:=stO [tsI 3 x0,tsB 20 x1] []
def aK0 x0 x1:=stO [tsI 3 x0,tsB 17 x1] []
def aK1 x0 x1:=stO [tsI 3 x0,tsB 8 x1] []
def aK2 x0 x1:=stO [tsI 3 x0,tsB 4 x1] []
theorem aiH m:aiG jn m [1,1] [] aKX=YC m:=
 tq (g:=fun J=>some 2) (by rfl)
theorem aiI m x0 x1:aiG jn m aKW [] (aKY x0 x1)=YD m x0 x1:=
 tq (g:=fun J=>UZ (jj J 0 33 0 aKX (aiG J m [1,1] [])) x0 x1) (by simp only[ah,aiH m];rfl)
theorem aiJ m x0 x1:aiG jn m ayr [] (aKZ x0 x1)=YE m x0 x1:=
 tq (g:=fun J=>U0 (fun y0 y1=>jj J 0 28 0 (aKY y0 y1) (aiG J m aKW [])) x0 x1) (by simp only[ah,aiI m];rfl)
theorem aiK m x0 x1:aiG jn m ayq [] (aK0 x0 x1)=YF m x0 x1:=
 tq (g:=fun J=>U1 (fun y0 y1=>jj J 0 20 0 (aKZ y0 y1) (aiG J m ayr [])) x0 x1) (by simp only[ah,aiJ m];rfl)
theorem aiL m x0 x1:aiG jn m ayp [] (aK1 x0 x1)=YG m x0 x1:=
 tq (g:=fun J=>U2 (fun y0 y1=>jj J 0 17 0 (aK0 y0 y1) (aiG J m ayq [])) x0 x1) (by simp only[ah,aiK m];rfl)
theorem aiM m x0 x1:aiG jn m aKV [] (aK2 x0 x1)=YH m x0 x1:=
 tq (g:=fun J=>U3 (fun y0 y1=>jj J 0 14 0 (aK1 y0 y1) (aiG J m ayp [])) x0 x1) (by simp only[ah,aiL m];rfl)
theorem apP m a0:aiG jn m [] [] ⟨[.dat 3 (.int a0)],[],0⟩=CX (m+1) a0:=
 tq (g:=fun J=>ajv (fun y0 y1=>jj J 0 5 0 (aK2 y0 y1) (aiG J m aKV [])) a0) (by simp only[ah,aiM m];rfl)
def aK3:List Nat:=[1,0,1,0,1,1,1,1,1]
def e152 (J:Q0) m:=evAt Tryz.prog env (ct m) J (m+1) 243 27 Tryz.f243 d17
def aK4:=stO [] []
def aK5 x0 x1 x2:=stO [tsI 1 x0,tsI 5 x1,tsB 14 x2] []
theorem abN m:e152 jn m [1,1] [] aK4=QL m:=
 tq (g:=fun J=>some true) (by rfl)
theorem abO m x0 x1 x2:e152 jn m aK3 [] (aK5 x0 x1 x2)=QM m x0 x1 x2:=
 tq (g:=fun J=>OU (jj J 0 13 0 aK4 (e152 J m [1,1] [])) x0 x1 x2) (by simp only[ah,abN m];rfl)
theorem akG m a0 a1:e152 jn m [] [] ⟨[.dat 3 (.int a0),.dat 3 (.int a1)],[],0⟩=Bl (m+1) a0 a1:=
 tq (g:=fun J=>YI (fun y0 y1 y2=>jj J 0 8 0 (aK5 y0 y1 y2) (e152 J m aK3 [])) a0 a1) (by simp only[ah,abO m];rfl)
def ays:List Nat:=[1,1,0,1,0,1]
def aoC:List Nat:=ays++[0]
def ayt:List Nat:=[1,1,1,0,1,0,1]
def aoD:List Nat:=ayt++[0]
def ayu:List Nat:=aoC++[0,1]
def aK6:List Nat:=ayu++[1]
def ayv:List Nat:=aoD++[0,1]
def aK7:List Nat:=ayv++[1]
def e153 (J:Q8) m:=evAt Tryz.prog env (ct m) J (m+1) 215 44 Tryz.f215 d31
def awc (J:Q8) m:=loopAt Tryz.prog env (ct m) J (m+1) 215 44 Tryz.f215 d31
def NN x0 x1 x2:=stO [tsP 1 0,(3,.row 1),tsI 4 x0] [obX 30 x1,.row 27 x2]
def NP x0 x1 x2:=stO [tsP 1 0,(3,.row 1),tsI 5 x0] [obX 30 x1,.row 27 x2]
def ayw x0:=stO [(3,.row 0)] [.row 27 x0]
def ayx x0 x1:=stO [tsP 1 0,(3,.row 1)] [obX 30 x0,.row 27 x1]
abbrev aK8 (m M1:Nat) (rec1:Q19):Prop:=∀x0 x1 x2,awc jn m aoC [] M1 (NN x0 x1 x2)=rec1 x0 x1 x2
theorem aga m M1 rec1 (h1:aK8 m M1 rec1) x0 x1 x2:e153 jn m aK6 [M1] (NN x0 x1 x2)=Jd m rec1 x0 x1 x2:=
 tq (g:=fun J=>(jj J 1 4 M1 (NN (IntKind.wrap .i64 (x0+1)) x1 x2) (awc J m aoC [] M1))) (by simp only[ah,h1];rfl)
theorem agb m M1 rec1 (h1:aK8 m M1 rec1) x0 x1 x2:e153 jn m ayu [M1] (NN x0 x1 x2)=Je m rec1 x0 x1 x2:=
 tq (g:=fun J=>((idx (Dt.L x1 3) x0).bind fun v0=>
  ((app x2 [v0]).bind fun v1=>
  (jj J 0 5 0 (NN x0 x1 v1) (e153 J m aK6 [M1]))))) (by simp only[ah,aga m M1 rec1 h1];rfl)
abbrev aK9 (m M6:Nat) (rec6:Q19):Prop:=∀x0 x1 x2,awc jn m aoD [] M6 (NP x0 x1 x2)=rec6 x0 x1 x2
theorem agc m M6 rec6 (h6:aK9 m M6 rec6) x0 x1 x2:e153 jn m aK7 [M6] (NP x0 x1 x2)=Jf m rec6 x0 x1 x2:=
 tq (g:=fun J=>(jj J 1 9 M6 (NP (IntKind.wrap .i64 (x0+1)) x1 x2) (awc J m aoD [] M6))) (by simp only[ah,h6];rfl)
theorem agd m M6 rec6 (h6:aK9 m M6 rec6) x0 x1 x2:e153 jn m ayv [M6] (NP x0 x1 x2)=Jg m rec6 x0 x1 x2:=
 tq (g:=fun J=>((idx (Dt.L x1 4) x0).bind fun v2=>
  ((app x2 [(Dt.fld v2 1)]).bind fun v3=>
  (jj J 0 10 0 (NP x0 x1 v3) (e153 J m aK7 [M6]))))) (by simp only[ah,agc m M6 rec6 h6];rfl)
theorem Ll m x0:e153 jn m [1,1,1,1] [] (ayw x0)=vS m x0:=
 tq (g:=fun J=>some x0) (by rfl)
theorem Lm m:∀M6 x0 x1 x2,awc jn m aoD [] M6 (NP x0 x1 x2)=nA m M6 x0 x1 x2
 |0,_,_,_=>rfl
 | M6+1,x0,x1,x2=>
   tl (g:=fun J=>(bif (decide (x0<(List.length (Dt.L x1 4):Int))) then
  (jj J 0 11 0 (NP x0 x1 x2) (e153 J m ayv [M6]))
   else
  (jj J 0 12 0 (ayw x2) (e153 J m [1,1,1,1] [])))) (by simp only[ah,agd m M6 (nA m M6) (Lm m M6),Ll m];rfl)
theorem agf m x0 x1 x2:e153 jn m ayt [] (NP x0 x1 x2)=Jh m x0 x1 x2:=
 tq (g:=fun J=>(jj J 1 9 (Nat.succ m) (NP x0 x1 x2) (awc J m aoD [] (Nat.succ m)))) (by simp only[ah,Lm m];rfl)
theorem Lp m x0 x1:e153 jn m [1,1,1] [] (ayx x0 x1)=qF m x0 x1:=
 tq (g:=fun J=>(bif ((Dt.I x0 0)==5) then
  (jj J 0 9 0 (NP 0 x0 x1) (e153 J m ayt []))
   else
  (jj J 0 12 0 (ayw x1) (e153 J m [1,1,1,1] [])))) (by simp only[ah,agf m,Ll m];rfl)
theorem Lr m:∀M1 x0 x1 x2,awc jn m aoC [] M1 (NN x0 x1 x2)=nC m M1 x0 x1 x2
 |0,_,_,_=>rfl
 | M1+1,x0,x1,x2=>
   tl (g:=fun J=>(bif (decide (x0<(List.length (Dt.L x1 3):Int))) then
  (jj J 0 6 0 (NN x0 x1 x2) (e153 J m ayu [M1]))
   else
  (jj J 0 7 0 (ayx x1 x2) (e153 J m [1,1,1] [])))) (by simp only[ah,agb m M1 (nC m M1) (Lr m M1),Lp m];rfl)
theorem agh m x0 x1 x2:e153 jn m ays [] (NN x0 x1 x2)=Ji m x0 x1 x2:=
 tq (g:=fun J=>(jj J 1 4 (Nat.succ m) (NN x0 x1 x2) (awc J m aoC [] (Nat.succ m)))) (by simp only[ah,Lr m];rfl)
theorem aoE m a0:e153 jn m [] [] ⟨[.dat 30 a0],[],0⟩=rF (m+1) a0:=
 tq (g:=fun J=>(bif ((Dt.I a0 0)==6) then
  (jj J 0 4 0 (NN 0 a0 []) (e153 J m ays []))
   else
  (jj J 0 7 0 (ayx a0 []) (e153 J m [1,1,1] [])))) (by simp only[ah,agh m,Lp m];rfl)
def aLa:List Nat:=[1,1,1,1,1]
def ayy:List Nat:=[1,1,1,1,0,1]
def aoF:List Nat:=ayy++[0]
def ayz:List Nat:=aoF++[0,1]
def aLb:List Nat:=ayz++[1]
def aiN (J:Q1) m:=evAt Tryz.prog env (ct m) J (m+1) 184 34 Tryz.f184 d7
def aOg (J:Q1) m:=loopAt Tryz.prog env (ct m) J (m+1) 184 34 Tryz.f184 d7
def NQ x0 x1 x2 x3:=stO [tsI 1 x0,tsL 5 27 x1,tsI 6 x2,tsI 7 x3] []
def aLc x0:=stO [tsI 6 x0] []
def aLd x0 x1:=stO [tsI 1 x0,tsL 5 27 x1] []
def aLe x0 x1 x2:=stO [tsI 1 x0,tsL 5 27 x1,tsB 16 x2] []
abbrev aLf (m M3:Nat) (rec3:Q53):Prop:=∀x0 x1 x2 x3,aOg jn m aoF [] M3 (NQ x0 x1 x2 x3)=rec3 x0 x1 x2 x3
theorem abP m M3 rec3 (h3:aLf m M3 rec3) x0 x1 x2 x3:aiN jn m aLb [M3] (NQ x0 x1 x2 x3)=kg m (bV m) rec3 x0 x1 x2 x3:=
 tq (g:=fun J=>(jj J 1 6 M3 (NQ x0 x1 x2 (IntKind.wrap .i64 (x3+1))) (aOg J m aoF [] M3))) (by simp only[ah,h3];rfl)
theorem abQ m M3 rec3 (h3:aLf m M3 rec3) x0 x1 x2 x3:aiN jn m ayz [M3] (NQ x0 x1 x2 x3)=ko m (bV m) rec3 x0 x1 x2 x3:=
 tq (g:=fun J=>((idx x1 x3).bind fun v1=>
  ((bV m v1 (IntKind.wrap .i64 (x0-1))).bind fun r2=>
  (jj J 0 7 0 (NQ x0 x1 (bif (decide (x2<r2)) then r2 else x2) x3) (aiN J m aLb [M3]))))) (by simp only[ah,abP m M3 rec3 h3];rfl)
theorem abR m x0:aiN jn m aLa [] (aLc x0)=kr m (bV m) x0:=
 tq (g:=fun J=>some (IntKind.wrap .i64 (x0+1))) (by rfl)
theorem Ka m:∀M3 x0 x1 x2 x3,aOg jn m aoF [] M3 (NQ x0 x1 x2 x3)=ku m (bV m) M3 x0 x1 x2 x3
 |0,_,_,_,_=>rfl
 | M3+1,x0,x1,x2,x3=>
   tl (g:=fun J=>(bif (decide (x3<(List.length x1:Int))) then
  (jj J 0 8 0 (NQ x0 x1 x2 x3) (aiN J m ayz [M3]))
   else
  (jj J 0 9 0 (aLc x2) (aiN J m aLa [])))) (by simp only[ah,abQ m M3 (ku m (bV m) M3) (Ka m M3),abR m];rfl)
theorem abS m x0 x1 x2 x3:aiN jn m ayy [] (NQ x0 x1 x2 x3)=kC m (bV m) x0 x1 x2 x3:=
 tq (g:=fun J=>(jj J 1 6 (Nat.succ m) (NQ x0 x1 x2 x3) (aOg J m aoF [] (Nat.succ m)))) (by simp only[ah,Ka m];rfl)
theorem abT m x0 x1:aiN jn m [1,1,1] [] (aLd x0 x1)=kD m (bV m) x0 x1:=
 tq (g:=fun J=>(jj J 0 6 0 (NQ x0 x1 0 0) (aiN J m ayy []))) (by simp only[ah,abS m];rfl)
theorem abU m x0 x1 x2:aiN jn m [1,1,0,1] [] (aLe x0 x1 x2)=kE m (bV m) x0 x1 x2:=
 tq (g:=fun J=>(bif x2 then
  some 1
   else
  (jj J 0 4 0 (aLd x0 x1) (aiN J m [1,1,1] [])))) (by simp only[ah,abT m];rfl)
theorem akH m a0 a1:aiN jn m [] [] ⟨[.dat 30 a0,.dat 3 (.int a1)],[],0⟩=bV (m+1) a0 a1:=
 tq (g:=fun J=>MG (fun y0 y1 y2=>jj J 0 3 0 (aLe y0 y1 y2) (aiN J m [1,1,0,1] [])) m a0 a1) (by simp only[ah,abU m];rfl)
def aXL (J:Q1) m:=evAt Tryz.prog env (ct m) J (m+1) 139 5 Tryz.f139 d7
theorem aoG m a0:aXL jn m [] [] ⟨[.dat 30 a0],[],0⟩=rG (m+1) a0:=
 tq (g:=fun J=>rG (m+1) a0) (by rfl)
def aLg:List Nat:=[1,1,1,0,1]
def aoH:List Nat:=[1,1,1,0,1,0]
def ayA:List Nat:=aoH++[0,1]
def aLh:List Nat:=ayA++[1]
def apQ (J:Q1) m:=evAt Tryz.prog env (ct m) J (m+1) 185 32 Tryz.f185 d7
def aOh (J:Q1) m:=loopAt Tryz.prog env (ct m) J (m+1) 185 32 Tryz.f185 d7
def NR x0 x1 x2 x3:=stO [tsI 1 x0,tsI 5 x1,tsL 6 27 x2,tsI 7 x3] []
def ayB x0:=stO [tsI 5 x0] []
abbrev aLi (m M1:Nat) (rec1:Q54):Prop:=∀x0 x1 x2 x3,aOh jn m aoH [] M1 (NR x0 x1 x2 x3)=rec1 x0 x1 x2 x3
theorem agi m M1 rec1 (h1:aLi m M1 rec1) x0 x1 x2 x3:apQ jn m aLh [M1] (NR x0 x1 x2 x3)=Jj m (eO m) rec1 x0 x1 x2 x3:=
 tq (g:=fun J=>(jj J 1 4 M1 (NR x0 x1 x2 (IntKind.wrap .i64 (x3+1))) (aOh J m aoH [] M1))) (by simp only[ah,h1];rfl)
theorem agj m M1 rec1 (h1:aLi m M1 rec1) x0 x1 x2 x3:apQ jn m ayA [M1] (NR x0 x1 x2 x3)=Jk m (eO m) rec1 x0 x1 x2 x3:=
 tq (g:=fun J=>((idx x2 x3).bind fun v1=>
  ((eO m v1 (IntKind.wrap .i64 (x0-x1))).bind fun r2=>
  (jj J 0 5 0 (NR x0 (IntKind.wrap .i64 (x1+r2)) x2 x3) (apQ J m aLh [M1]))))) (by simp only[ah,agi m M1 rec1 h1];rfl)
theorem agk m x0:apQ jn m [1,1,1,1] [] (ayB x0)=qG m (eO m) x0:=
 tq (g:=fun J=>some x0) (by rfl)
theorem Ls m:∀M1 x0 x1 x2 x3,aOh jn m aoH [] M1 (NR x0 x1 x2 x3)=qH m (eO m) M1 x0 x1 x2 x3
 |0,_,_,_,_=>rfl
 | M1+1,x0,x1,x2,x3=>
   tl (g:=fun J=>(bif (decide (x3<(List.length x2:Int))) then
  (bif (decide (x1<x0)) then
  (jj J 0 6 0 (NR x0 x1 x2 x3) (apQ J m ayA [M1]))
  else
  (jj J 0 7 0 (ayB x1) (apQ J m [1,1,1,1] [])))
   else
  (jj J 0 7 0 (ayB x1) (apQ J m [1,1,1,1] [])))) (by simp only[ah,agj m M1 (qH m (eO m) M1) (Ls m M1),agk m];rfl)
theorem agl m x0 x1 x2 x3:apQ jn m aLg [] (NR x0 x1 x2 x3)=Bn m (eO m) x0 x1 x2 x3:=
 tq (g:=fun J=>(jj J 1 4 (Nat.succ m) (NR x0 x1 x2 x3) (aOh J m aoH [] (Nat.succ m)))) (by simp only[ah,Ls m];rfl)
theorem aoI m a0 a1:apQ jn m [] [] ⟨[.dat 30 a0,.dat 3 (.int a1)],[],0⟩=eO (m+1) a0 a1:=
 tq (g:=fun J=>((rF m a0).bind fun r0=>
  (jj J 0 4 0 (NR a1 1 r0 0) (apQ J m aLg [])))) (by simp only[ah,agl m];rfl)
def e115 (J:Q1) m:=evAt Tryz.prog env (ct m) J (m+1) 140 5 Tryz.f140 d7
theorem aoJ m a0:e115 jn m [] [] ⟨[.dat 30 a0],[],0⟩=rH (m+1) a0:=
 tq (g:=fun J=>rH (m+1) a0) (by rfl)
def asK:List Nat:=[1,1,0,1,0]
def asL:List Nat:=[1,1,0,1,0,0,1]
def aLj:List Nat:=asL++[1]
def aLk:List Nat:=asL++[0,0,1]
def e154 (J:Q0) m:=evAt Tryz.prog env (ct m) J (m+1) 216 33 Tryz.f216 d17
def aOi (J:Q0) m:=loopAt Tryz.prog env (ct m) J (m+1) 216 33 Tryz.f216 d17
def NS x0 x1 x2 x3:=stO [tsS 0 x0,tsI 1 x1,tsI 2 x2,tsI 7 x3] []
def aLl x0 x1 x2 x3 x4:=stO [tsS 0 x0,tsI 1 x1,tsI 2 x2,tsI 7 x3,tsB 32 x4] []
def aLm:=stO [] []
def aLn x0 x1 x2:=stO [tsS 0 x0,tsI 1 x1,tsI 2 x2] []
abbrev ayC (m M2:Nat) (rec2:Q43):Prop:=∀x0 x1 x2 x3,aOi jn m asK [] M2 (NS x0 x1 x2 x3)=rec2 x0 x1 x2 x3
theorem aiO m M2 rec2 (h2:ayC m M2 rec2) x0 x1 x2 x3:e154 jn m aLj [M2] (NS x0 x1 x2 x3)=xX m rec2 x0 x1 x2 x3:=
 tq (g:=fun J=>(jj J 1 4 M2 (NS x0 x1 x2 (IntKind.wrap .i64 (x3+1))) (aOi J m asK [] M2))) (by simp only[ah,h2];rfl)
theorem aiP m M2 rec2 (h2:ayC m M2 rec2) x0 x1 x2 x3 x4:e154 jn m aLk [M2] (aLl x0 x1 x2 x3 x4)=xY m rec2 x0 x1 x2 x3 x4:=
 tq (g:=fun J=>(bif x4 then
  some false
   else
  (jj J 0 5 0 (NS x0 x1 x2 x3) (e154 J m aLj [M2])))) (by simp only[ah,aiO m M2 rec2 h2];rfl)
theorem aiQ m M2 rec2 (h2:ayC m M2 rec2) x0 x1 x2 x3:e154 jn m asL [M2] (NS x0 x1 x2 x3)=xZ m rec2 x0 x1 x2 x3:=
 tq (g:=fun J=>vT (fun y0 y1 y2 y3 y4=>jj J 0 7 0 (aLl y0 y1 y2 y3 y4) (e154 J m aLk [M2])) x0 x1 x2 x3) (by simp only[ah,aiP m M2 rec2 h2];rfl)
theorem aiR m:e154 jn m [1,1,1] [] aLm=yc m:=
 tq (g:=fun J=>some true) (by rfl)
theorem Pb m:∀M2 x0 x1 x2 x3,aOi jn m asK [] M2 (NS x0 x1 x2 x3)=uz m M2 x0 x1 x2 x3
 |0,_,_,_,_=>rfl
 | M2+1,x0,x1,x2,x3=>
   tl (g:=fun J=>(bif (decide (x3<x2)) then
  (jj J 0 6 0 (NS x0 x1 x2 x3) (e154 J m asL [M2]))
   else
  (jj J 0 8 0 aLm (e154 J m [1,1,1] [])))) (by simp only[ah,aiQ m M2 (uz m M2) (Pb m M2),aiR m];rfl)
theorem aiS m x0 x1 x2 x3:e154 jn m [1,1,0,1] [] (NS x0 x1 x2 x3)=yg m x0 x1 x2 x3:=
 tq (g:=fun J=>(jj J 1 4 (Nat.succ m) (NS x0 x1 x2 x3) (aOi J m asK [] (Nat.succ m)))) (by simp only[ah,Pb m];rfl)
theorem aiT m x0 x1 x2:e154 jn m [1,1] [] (aLn x0 x1 x2)=yh m x0 x1 x2:=
 tq (g:=fun J=>(jj J 0 4 0 (NS x0 x1 x2 0) (e154 J m [1,1,0,1] []))) (by simp only[ah,aiS m];rfl)
theorem apR m a0 a1 a2:e154 jn m [] [] ⟨[.dat 9 (.str a0),.dat 3 (.int a1),.dat 3 (.int a2)],[],0⟩=zC (m+1) a0 a1 a2:=
 tq (g:=fun J=>(bif (decide ((ByteArray.size a0:Int)<(IntKind.wrap .i64 (a1+a2)))) then
  some false
   else
  (jj J 0 3 0 (aLn a0 a1 a2) (e154 J m [1,1] [])))) (by simp only[ah,aiT m];rfl)
def asM:List Nat:=[1,0,1,0,0,1]
def aiU:List Nat:=asM++[0,1,1,1]
def asN:List Nat:=aiU++[1]
def aLo:List Nat:=asN++[1]
def aLp:List Nat:=asN++[0,1]
def ayD:List Nat:=asM++[0,1,1,0,0,1,1,1]
def ayE:List Nat:=ayD++[1,1]
def aLq:List Nat:=ayE++[1,1]
def GX (J:Q0) m:=evAt Tryz.prog env (ct m) J (m+1) 186 89 Tryz.f186 d17
def aOj (J:Q0) m:=loopAt Tryz.prog env (ct m) J (m+1) 186 89 Tryz.f186 d17
def aLr x0 x1 x2:=stO [tsS 0 x0,tsI 3 x1,tsI 5 x2] []
def aLs x0 x1 x2 x3:=stO [tsS 0 x0,tsI 3 x1,tsI 5 x2,tsB 84 x3] []
def abV x0 x1 x2 x3:=stO [tsS 0 x0,tsI 3 x1,(4,.dat 5 (.int x2)),tsI 5 x3] []
def aLt x0 x1 x2 x3:=stO [tsS 0 x0,tsI 3 x1,(4,.dat 5 (.int x2)),tsB 30 x3] []
def aLu x0 x1 x2 x3:=stO [tsS 0 x0,tsI 3 x1,(4,.dat 5 (.int x2)),tsB 23 x3] []
def aLv x0 x1 x2 x3:=stO [tsS 0 x0,tsI 3 x1,(4,.dat 5 (.int x2)),tsB 16 x3] []
def VQ x0 x1:=stO [tsS 0 x0,tsI 3 x1] []
def aBa:=stO [] []
abbrev VR (m M1:Nat) (rec1:Q17):Prop:=∀x0 x1,aOj jn m [1,0,1,0] [] M1 (VQ x0 x1)=rec1 x0 x1
theorem aiV m M1 rec1 (h1:VR m M1 rec1) x0 x1 x2:GX jn m aLo [M1] (aLr x0 x1 x2)=MH m rec1 x0 x1 x2:=
 tq (g:=fun J=>(jj J 1 2 M1 (VQ x0 (IntKind.wrap .i64 ((IntKind.wrap .i64 (x1+x2))+1))) (aOj J m [1,0,1,0] [] M1))) (by simp only[ah,h1];rfl)
theorem aiW m M1 rec1 (h1:VR m M1 rec1) x0 x1 x2 x3:GX jn m aLp [M1] (aLs x0 x1 x2 x3)=MI m rec1 x0 x1 x2 x3:=
 tq (g:=fun J=>(bif x3 then
  some false
   else
  (jj J 0 17 0 (aLr x0 x1 x2) (GX J m aLo [M1])))) (by simp only[ah,aiV m M1 rec1 h1];rfl)
theorem aiX m M1 rec1 (h1:VR m M1 rec1) x0 x1 x2 x3:GX jn m asN [M1] (abV x0 x1 x2 x3)=DT m rec1 x0 x1 x2 x3:=
 tq (g:=fun J=>Jl (fun y0 y1 y2 y3=>jj J 0 16 0 (aLs y0 y1 y2 y3) (GX J m aLp [M1])) x0 x1 x2 x3) (by simp only[ah,aiW m M1 rec1 h1];rfl)
theorem wU m M1 rec1 (h1:VR m M1 rec1) x0 x1 x2 x3:GX jn m aiU [M1] (abV x0 x1 x2 x3)=pz m rec1 x0 x1 x2 x3:=
 tq (g:=fun J=>((zC m x0 (IntKind.wrap .i64 (x1+1)) x3).bind fun r1=>
  (bif (Bool.not r1) then
  some false
  else
  (jj J 0 15 0 (abV x0 x1 x2 x3) (GX J m asN [M1]))))) (by simp only[ah,aiX m M1 rec1 h1];rfl)
theorem aiY m M1 rec1 (h1:VR m M1 rec1) x0 x1 x2 x3:GX jn m aLq [M1] (aLt x0 x1 x2 x3)=MJ m rec1 x0 x1 x2 x3:=
 tq (g:=fun J=>(bif x3 then
  (jj J 0 13 0 (abV x0 x1 x2 3) (GX J m aiU [M1]))
   else
  some false)) (by simp only[ah,wU m M1 rec1 h1];rfl)
theorem aiZ m M1 rec1 (h1:VR m M1 rec1) x0 x1 x2 x3:GX jn m ayE [M1] (aLu x0 x1 x2 x3)=MK m rec1 x0 x1 x2 x3:=
 tq (g:=fun J=>Jm (fun y0 y1 y2 y3=>jj J 0 13 0 (abV y0 y1 y2 y3) (GX J m aiU [M1])) (fun y0 y1 y2 y3=>jj J 0 12 0 (aLt y0 y1 y2 y3) (GX J m aLq [M1])) x0 x1 x2 x3) (by simp only[ah,wU m M1 rec1 h1,aiY m M1 rec1 h1];rfl)
theorem ai0 m M1 rec1 (h1:VR m M1 rec1) x0 x1 x2 x3:GX jn m ayD [M1] (aLv x0 x1 x2 x3)=ML m rec1 x0 x1 x2 x3:=
 tq (g:=fun J=>Jo (fun y0 y1 y2 y3=>jj J 0 13 0 (abV y0 y1 y2 y3) (GX J m aiU [M1])) (fun y0 y1 y2 y3=>jj J 0 10 0 (aLu y0 y1 y2 y3) (GX J m ayE [M1])) x0 x1 x2 x3) (by simp only[ah,wU m M1 rec1 h1,aiZ m M1 rec1 h1];rfl)
theorem ai1 m M1 rec1 (h1:VR m M1 rec1) x0 x1:GX jn m asM [M1] (VQ x0 x1)=DU m rec1 x0 x1:=
 tq (g:=fun J=>Jp (fun y0 y1 y2 y3=>jj J 0 13 0 (abV y0 y1 y2 y3) (GX J m aiU [M1])) (fun y0 y1 y2 y3=>jj J 0 8 0 (aLv y0 y1 y2 y3) (GX J m ayD [M1])) x0 x1) (by simp only[ah,wU m M1 rec1 h1,ai0 m M1 rec1 h1];rfl)
theorem agm m:GX jn m [1,1] [] aBa=Jq m:=
 tq (g:=fun J=>some true) (by rfl)
theorem Pf m:∀M1 x0 x1,aOj jn m [1,0,1,0] [] M1 (VQ x0 x1)=pF m M1 x0 x1
 |0,_,_=>rfl
 | M1+1,x0,x1=>
   tl (g:=fun J=>(bif (decide (x1<(ByteArray.size x0:Int))) then
  (jj J 0 3 0 (VQ x0 x1) (GX J m asM [M1]))
   else
  (jj J 0 18 0 aBa (GX J m [1,1] [])))) (by simp only[ah,ai1 m M1 (pF m M1) (Pf m M1),agm m];rfl)
theorem ai2 m x0 x1:GX jn m [1,0,1] [] (VQ x0 x1)=YJ m x0 x1:=
 tq (g:=fun J=>(jj J 1 2 (Nat.succ m) (VQ x0 x1) (aOj J m [1,0,1,0] [] (Nat.succ m)))) (by simp only[ah,Pf m];rfl)
theorem apS m a0:GX jn m [] [] ⟨[.dat 9 (.str a0)],[],0⟩=CY (m+1) a0:=
 tq (g:=fun J=>(jj J 0 2 0 (VQ a0 0) (GX J m [1,0,1] []))) (by simp only[ah,ai2 m];rfl)
def asO:List Nat:=[1,1,0,1,0]
def asP:List Nat:=[1,1,0,1,0,0,1]
def aLw:List Nat:=asP++[1]
def aLx:List Nat:=asP++[0,0,1]
def abW (J:Q0) m:=evAt Tryz.prog env (ct m) J (m+1) 217 28 Tryz.f217 d17
def aOk (J:Q0) m:=loopAt Tryz.prog env (ct m) J (m+1) 217 28 Tryz.f217 d17
def NT x0 x1:=stO [tsS 0 x0,tsI 3 x1] []
def aLy x0 x1 x2:=stO [tsS 0 x0,tsI 3 x1,tsB 27 x2] []
def aLz:=stO [] []
def aLA x0:=stO [tsS 0 x0] []
def aLB x0 x1:=stO [tsS 0 x0,tsB 11 x1] []
abbrev ayF (m M3:Nat) (rec3:Q17):Prop:=∀x0 x1,aOk jn m asO [] M3 (NT x0 x1)=rec3 x0 x1
theorem ai3 m M3 rec3 (h3:ayF m M3 rec3) x0 x1:abW jn m aLw [M3] (NT x0 x1)=pG m rec3 x0 x1:=
 tq (g:=fun J=>(jj J 1 4 M3 (NT x0 (IntKind.wrap .i64 (x1+1))) (aOk J m asO [] M3))) (by simp only[ah,h3];rfl)
theorem ai4 m M3 rec3 (h3:ayF m M3 rec3) x0 x1 x2:abW jn m aLx [M3] (aLy x0 x1 x2)=pI m rec3 x0 x1 x2:=
 tq (g:=fun J=>(bif x2 then
  some false
   else
  (jj J 0 5 0 (NT x0 x1) (abW J m aLw [M3])))) (by simp only[ah,ai3 m M3 rec3 h3];rfl)
theorem ai5 m M3 rec3 (h3:ayF m M3 rec3) x0 x1:abW jn m asP [M3] (NT x0 x1)=pJ m rec3 x0 x1:=
 tq (g:=fun J=>nD (fun y0 y1 y2=>jj J 0 7 0 (aLy y0 y1 y2) (abW J m aLx [M3])) x0 x1) (by simp only[ah,ai4 m M3 rec3 h3];rfl)
theorem ai6 m:abW jn m [1,1,1] [] aLz=pK m:=
 tq (g:=fun J=>some true) (by rfl)
theorem Pg m:∀M3 x0 x1,aOk jn m asO [] M3 (NT x0 x1)=pO m M3 x0 x1
 |0,_,_=>rfl
 | M3+1,x0,x1=>
   tl (g:=fun J=>(bif (decide (x1<(ByteArray.size x0:Int))) then
  (jj J 0 6 0 (NT x0 x1) (abW J m asP [M3]))
   else
  (jj J 0 8 0 aLz (abW J m [1,1,1] [])))) (by simp only[ah,ai5 m M3 (pO m M3) (Pg m M3),ai6 m];rfl)
theorem ai7 m x0 x1:abW jn m [1,1,0,1] [] (NT x0 x1)=pQ m x0 x1:=
 tq (g:=fun J=>(jj J 1 4 (Nat.succ m) (NT x0 x1) (aOk J m asO [] (Nat.succ m)))) (by simp only[ah,Pg m];rfl)
theorem ai8 m x0:abW jn m [1,1] [] (aLA x0)=pR m x0:=
 tq (g:=fun J=>(jj J 0 4 0 (NT x0 0) (abW J m [1,1,0,1] []))) (by simp only[ah,ai7 m];rfl)
theorem ai9 m x0 x1:abW jn m [1,0,1] [] (aLB x0 x1)=pU m x0 x1:=
 tq (g:=fun J=>(bif x1 then
  some false
   else
  (jj J 0 3 0 (aLA x0) (abW J m [1,1] [])))) (by simp only[ah,ai8 m];rfl)
theorem apT m a0:abW jn m [] [] ⟨[.dat 9 (.str a0)],[],0⟩=zD (m+1) a0:=
 tq (g:=fun J=>U4 (fun y0 y1=>jj J 0 2 0 (aLB y0 y1) (abW J m [1,0,1] [])) a0) (by simp only[ah,ai9 m];rfl)
def aLC:List Nat:=[1,1,1,1,1]
def asQ:List Nat:=[1,1,1,1,1,1]
def aLD:List Nat:=[1,1,1,1,0,1]
def aLE:List Nat:=asQ++[1]
def ayG:List Nat:=asQ++[0,1]
def aoK:List Nat:=ayG++[0]
def ayH:List Nat:=aoK++[0,1]
def aLF:List Nat:=ayH++[1]
def e116 (J:Q0) m:=evAt Tryz.prog env (ct m) J (m+1) 141 138 Tryz.f141 d17
def aOl (J:Q0) m:=loopAt Tryz.prog env (ct m) J (m+1) 141 138 Tryz.f141 d17
def D8 x0 x1 x2:=stO [tsB 1 x0,tsP 2 0,tsI 7 x1] [obX 30 x2]
def Lu x0 x1:=stO [tsB 1 x0,tsP 2 0] [obX 30 x1]
def aLG x0 x1 x2:=stO [tsB 1 x0,tsP 2 0,tsB 79 x1] [obX 30 x2]
def aLH x0 x1 x2 x3:=stO [tsB 1 x0,tsP 2 0,tsB 5 x1,tsB 6 x2] [obX 30 x3]
def aLI x0 x1 x2:=stO [tsB 1 x0,tsP 2 0,tsB 5 x1] [obX 30 x2]
def aLJ x0 x1 x2:=stO [tsB 1 x0,tsP 2 0,tsB 27 x1] [obX 30 x2]
abbrev aLK (m M8:Nat) (rec8:Q25):Prop:=∀x0 x1 x2,aOl jn m aoK [] M8 (D8 x0 x1 x2)=rec8 x0 x1 x2
theorem XG m M8 rec8 (h8:aLK m M8 rec8) x0 x1 x2:e116 jn m aLF [M8] (D8 x0 x1 x2)=CZ m (aB m) (bf m) rec8 x0 x1 x2:=
 tq (g:=fun J=>(jj J 1 19 M8 (D8 x0 (IntKind.wrap .i64 (x1+1)) x2) (aOl J m aoK [] M8))) (by simp only[ah,h8];rfl)
theorem abX m M8 rec8 (h8:aLK m M8 rec8) x0 x1 x2:e116 jn m ayH [M8] (D8 x0 x1 x2)=Fj m (aB m) (bf m) rec8 x0 x1 x2:=
 tq (g:=fun J=>((idx (Dt.L x2 3) x1).bind fun v1=>
  ((aB m v1 x0).bind fun r2=>
  (bif (Bool.not r2) then
  some false
  else
  (jj J 0 20 0 (D8 x0 x1 x2) (e116 J m aLF [M8])))))) (by simp only[ah,XG m M8 rec8 h8];rfl)
theorem XH m x0 x1:e116 jn m aLE [] (Lu x0 x1)=C8 m (aB m) (bf m) x0 x1:=
 tq (g:=fun J=>((bf m x1 x0).bind fun r3=>
  some r3)) (by rfl)
theorem Kc m:∀M8 x0 x1 x2,aOl jn m aoK [] M8 (D8 x0 x1 x2)=og m (aB m) (bf m) M8 x0 x1 x2
 |0,_,_,_=>rfl
 | M8+1,x0,x1,x2=>
   tl (g:=fun J=>(bif (decide (x1<(List.length (Dt.L x2 3):Int))) then
  (jj J 0 21 0 (D8 x0 x1 x2) (e116 J m ayH [M8]))
   else
  (jj J 0 23 0 (Lu x0 x2) (e116 J m aLE [])))) (by simp only[ah,abX m M8 (og m (aB m) (bf m) M8) (Kc m M8),XH m];rfl)
theorem abY m x0 x1 x2:e116 jn m ayG [] (D8 x0 x1 x2)=QN m (aB m) (bf m) x0 x1 x2:=
 tq (g:=fun J=>(jj J 1 19 (Nat.succ m) (D8 x0 x1 x2) (aOl J m aoK [] (Nat.succ m)))) (by simp only[ah,Kc m];rfl)
theorem abZ m x0 x1:e116 jn m asQ [] (Lu x0 x1)=Fp m (aB m) (bf m) x0 x1:=
 tq (g:=fun J=>(jj J 0 19 0 (D8 x0 0 x1) (e116 J m ayG []))) (by simp only[ah,abY m];rfl)
theorem ab0 m x0 x1:e116 jn m aLC [] (Lu x0 x1)=tH m (aB m) (bf m) x0 x1:=
 tq (g:=fun J=>C9 (fun y0 y1=>jj J 0 18 0 (Lu y0 y1) (e116 J m asQ [])) m x0 x1) (by simp only[ah,abZ m];rfl)
theorem ab1 m x0 x1 x2:e116 jn m aLD [] (aLG x0 x1 x2)=Fq m (aB m) (bf m) x0 x1 x2:=
 tq (g:=fun J=>(bif x1 then
  some false
   else
  (jj J 0 7 0 (Lu x0 x2) (e116 J m aLC [])))) (by simp only[ah,ab0 m];rfl)
theorem ab2 m x0 x1 x2 x3:e116 jn m [1,1,1,1] [] (aLH x0 x1 x2 x3)=tJ m (aB m) (bf m) x0 x1 x2 x3:=
 tq (g:=fun J=>Da (fun y0 y1 y2=>jj J 0 6 0 (aLG y0 y1 y2) (e116 J m aLD [])) x0 x1 x2 x3) (by simp only[ah,ab1 m];rfl)
theorem ab3 m x0 x1 x2:e116 jn m [1,1,1] [] (aLI x0 x1 x2)=tK m (aB m) (bf m) x0 x1 x2:=
 tq (g:=fun J=>Db (fun y0 y1 y2 y3=>jj J 0 5 0 (aLH y0 y1 y2 y3) (e116 J m [1,1,1,1] [])) x0 x1 x2) (by simp only[ah,ab2 m];rfl)
theorem ab4 m x0 x1:e116 jn m [1,1] [] (Lu x0 x1)=tL m (aB m) (bf m) x0 x1:=
 tq (g:=fun J=>Dc (fun y0 y1 y2=>jj J 0 4 0 (aLI y0 y1 y2) (e116 J m [1,1,1] [])) x0 x1) (by simp only[ah,ab3 m];rfl)
theorem ab5 m x0 x1 x2:e116 jn m [1,0,1] [] (aLJ x0 x1 x2)=Fu m (aB m) (bf m) x0 x1 x2:=
 tq (g:=fun J=>(bif x1 then
  some false
   else
  (jj J 0 3 0 (Lu x0 x2) (e116 J m [1,1] [])))) (by simp only[ah,ab4 m];rfl)
theorem akI m a0 a1:e116 jn m [] [] ⟨[.dat 30 a0,.dat 4 (.bool a1)],[],0⟩=aB (m+1) a0 a1:=
 tq (g:=fun J=>MN (fun y0 y1 y2=>jj J 0 2 0 (aLJ y0 y1 y2) (e116 J m [1,0,1] [])) a0 a1) (by simp only[ah,ab5 m];rfl)
def aoL:List Nat:=[1,0,1,0,0,1]
def aLL:List Nat:=aoL++[1]
def ayI:List Nat:=aoL++[0,0,1,1]
def ayJ:List Nat:=ayI++[1]
def aLM:List Nat:=aoL++[0,0,1,0,1]
def aoM:List Nat:=ayJ++[0]
def ayK:List Nat:=aoM++[0,1]
def aLN:List Nat:=ayK++[1]
def QB (J:Q0) m:=evAt Tryz.prog env (ct m) J (m+1) 187 58 Tryz.f187 d17
def awd (J:Q0) m:=loopAt Tryz.prog env (ct m) J (m+1) 187 58 Tryz.f187 d17
def NU x0 x1 x2 x3 x4:=stO [tsB 1 x0,tsP 2 0,tsI 5 x1,tsP 6 1,tsI 7 x2] [obX 30 x3,obX 156 x4]
def NV x0 x1 x2:=stO [tsB 1 x0,tsP 2 0,tsI 5 x1] [obX 30 x2]
def aLO x0 x1 x2 x3:=stO [tsB 1 x0,tsP 2 0,tsI 5 x1,tsP 6 1] [obX 30 x2,obX 156 x3]
def aLP x0 x1 x2 x3 x4:=stO [tsB 1 x0,tsP 2 0,tsI 5 x1,tsP 6 1,tsB 43 x2] [obX 30 x3,obX 156 x4]
def aBb:=stO [] []
abbrev VU (m M1:Nat) (rec1:Q25):Prop:=∀x0 x1 x2,awd jn m [1,0,1,0] [] M1 (NV x0 x1 x2)=rec1 x0 x1 x2
abbrev aLQ (m M1 M6:Nat) (rec6:Q55):Prop:=∀x0 x1 x2 x3 x4,awd jn m aoM [M1] M6 (NU x0 x1 x2 x3 x4)=rec6 x0 x1 x2 x3 x4
theorem ab6 m M1 rec1 (h1:VU m M1 rec1) M6 rec6 (h6:aLQ m M1 M6 rec6) x0 x1 x2 x3 x4:QB jn m aLN [M1,M6] (NU x0 x1 x2 x3 x4)=oh m (aB m) rec1 rec6 x0 x1 x2 x3 x4:=
 tq (g:=fun J=>(jj J 1 8 M6 (NU x0 x1 (IntKind.wrap .i64 (x2+1)) x3 x4) (awd J m aoM [M1] M6))) (by simp only[ah,h6];rfl)
theorem ab7 m M1 rec1 (h1:VU m M1 rec1) M6 rec6 (h6:aLQ m M1 M6 rec6) x0 x1 x2 x3 x4:QB jn m ayK [M1,M6] (NU x0 x1 x2 x3 x4)=om m (aB m) rec1 rec6 x0 x1 x2 x3 x4:=
 tq (g:=fun J=>mM (fun y0 y1 y2 y3 y4=>jj J 0 9 0 (NU y0 y1 y2 y3 y4) (QB J m aLN [M1,M6])) x0 x1 x2 x3 x4) (by simp only[ah,ab6 m M1 rec1 h1 M6 rec6 h6];rfl)
theorem ab8 m M1 rec1 (h1:VU m M1 rec1) x0 x1 x2:QB jn m aLL [M1] (NV x0 x1 x2)=oo m (aB m) rec1 x0 x1 x2:=
 tq (g:=fun J=>(jj J 1 2 M1 (NV x0 (IntKind.wrap .i64 (x1+1)) x2) (awd J m [1,0,1,0] [] M1))) (by simp only[ah,h1];rfl)
theorem Ke m M1 rec1 (h1:VU m M1 rec1):∀M6 x0 x1 x2 x3 x4,awd jn m aoM [M1] M6 (NU x0 x1 x2 x3 x4)=kF m (aB m) rec1 M6 x0 x1 x2 x3 x4
 |0,_,_,_,_,_=>rfl
 | M6+1,x0,x1,x2,x3,x4=>
   tl (g:=fun J=>(bif (decide (x2<x1)) then
  (jj J 0 10 0 (NU x0 x1 x2 x3 x4) (QB J m ayK [M1,M6]))
   else
  (jj J 0 3 0 (NV x0 x1 x3) (QB J m aLL [M1])))) (by simp only[ah,ab7 m M1 rec1 h1 M6 (kF m (aB m) rec1 M6) (Ke m M1 rec1 h1 M6),ab8 m M1 rec1 h1];rfl)
theorem ab9 m M1 rec1 (h1:VU m M1 rec1) x0 x1 x2 x3 x4:QB jn m ayJ [M1] (NU x0 x1 x2 x3 x4)=oq m (aB m) rec1 x0 x1 x2 x3 x4:=
 tq (g:=fun J=>(jj J 1 8 (Nat.succ m) (NU x0 x1 x2 x3 x4) (awd J m aoM [M1] (Nat.succ m)))) (by simp only[ah,Ke m M1 rec1 h1];rfl)
theorem acd m M1 rec1 (h1:VU m M1 rec1) x0 x1 x2 x3:QB jn m ayI [M1] (aLO x0 x1 x2 x3)=ou m (aB m) rec1 x0 x1 x2 x3:=
 tq (g:=fun J=>(jj J 0 8 0 (NU x0 x1 0 x2 x3) (QB J m ayJ [M1]))) (by simp only[ah,ab9 m M1 rec1 h1];rfl)
theorem ace m M1 rec1 (h1:VU m M1 rec1) x0 x1 x2 x3 x4:QB jn m aLM [M1] (aLP x0 x1 x2 x3 x4)=ow m (aB m) rec1 x0 x1 x2 x3 x4:=
 tq (g:=fun J=>(bif x2 then
  some false
   else
  (jj J 0 7 0 (aLO x0 x1 x3 x4) (QB J m ayI [M1])))) (by simp only[ah,acd m M1 rec1 h1];rfl)
theorem acf m M1 rec1 (h1:VU m M1 rec1) x0 x1 x2:QB jn m aoL [M1] (NV x0 x1 x2)=oz m (aB m) rec1 x0 x1 x2:=
 tq (g:=fun J=>mO (fun y0 y1 y2 y3 y4=>jj J 0 6 0 (aLP y0 y1 y2 y3 y4) (QB J m aLM [M1])) m (aB m) x0 x1 x2) (by simp only[ah,ace m M1 rec1 h1];rfl)
theorem XI m:QB jn m [1,1] [] aBb=mP m (aB m):=
 tq (g:=fun J=>some true) (by rfl)
theorem Kg m:∀M1 x0 x1 x2,awd jn m [1,0,1,0] [] M1 (NV x0 x1 x2)=iH m (aB m) M1 x0 x1 x2
 |0,_,_,_=>rfl
 | M1+1,x0,x1,x2=>
   tl (g:=fun J=>(bif (decide (x1<(List.length (Dt.L x2 4):Int))) then
  (jj J 0 4 0 (NV x0 x1 x2) (QB J m aoL [M1]))
   else
  (jj J 0 12 0 aBb (QB J m [1,1] [])))) (by simp only[ah,acf m M1 (iH m (aB m) M1) (Kg m M1),XI m];rfl)
theorem acg m x0 x1 x2:QB jn m [1,0,1] [] (NV x0 x1 x2)=kG m (aB m) x0 x1 x2:=
 tq (g:=fun J=>(jj J 1 2 (Nat.succ m) (NV x0 x1 x2) (awd J m [1,0,1,0] [] (Nat.succ m)))) (by simp only[ah,Kg m];rfl)
theorem akJ m a0 a1:QB jn m [] [] ⟨[.dat 30 a0,.dat 4 (.bool a1)],[],0⟩=bf (m+1) a0 a1:=
 tq (g:=fun J=>(jj J 0 2 0 (NV a1 0 a0) (QB J m [1,0,1] []))) (by simp only[ah,acg m];rfl)
def e85 (J:Q0) m:=evAt Tryz.prog env (ct m) J (m+1) 107 15 Tryz.f107 d17
theorem aoN m a0:e85 jn m [] [] ⟨[.dat 30 a0],[],0⟩=dJ (m+1) a0:=
 tq (g:=fun J=>dJ (m+1) a0) (by rfl)
def asR:List Nat:=[1,0,1,0,0,1]
def aLR:List Nat:=asR++[1]
def ayL:List Nat:=asR++[0,0,1]
def ayM:List Nat:=ayL++[1]
def aoO:List Nat:=ayM++[0]
def ayN:List Nat:=aoO++[0,1]
def aLS:List Nat:=ayN++[1]
def VW (J:Q0) m:=evAt Tryz.prog env (ct m) J (m+1) 219 31 Tryz.f219 d17
def awe (J:Q0) m:=loopAt Tryz.prog env (ct m) J (m+1) 219 31 Tryz.f219 d17
def NW x0 x1 x2:=stO [tsL 0 26 x0,tsI 3 x1,tsI 4 x2] []
def Gn x0 x1:=stO [tsL 0 26 x0,tsI 3 x1] []
def aLT:=stO [] []
abbrev ach (m M1:Nat) (rec1:Q27):Prop:=∀x0 x1,awe jn m [1,0,1,0] [] M1 (Gn x0 x1)=rec1 x0 x1
abbrev aLU (m M1 M5:Nat) (rec5:Q39):Prop:=∀x0 x1 x2,awe jn m aoO [M1] M5 (NW x0 x1 x2)=rec5 x0 x1 x2
theorem agn m M1 rec1 (h1:ach m M1 rec1) M5 rec5 (h5:aLU m M1 M5 rec5) x0 x1 x2:VW jn m aLS [M1,M5] (NW x0 x1 x2)=Jr m rec1 rec5 x0 x1 x2:=
 tq (g:=fun J=>(jj J 1 7 M5 (NW x0 x1 (IntKind.wrap .i64 (x2+1))) (awe J m aoO [M1] M5))) (by simp only[ah,h5];rfl)
theorem agp m M1 rec1 (h1:ach m M1 rec1) M5 rec5 (h5:aLU m M1 M5 rec5) x0 x1 x2:VW jn m ayN [M1,M5] (NW x0 x1 x2)=Js m rec1 rec5 x0 x1 x2:=
 tq (g:=fun J=>Fv (fun y0 y1 y2=>jj J 0 8 0 (NW y0 y1 y2) (VW J m aLS [M1,M5])) x0 x1 x2) (by simp only[ah,agn m M1 rec1 h1 M5 rec5 h5];rfl)
theorem agq m M1 rec1 (h1:ach m M1 rec1) x0 x1:VW jn m aLR [M1] (Gn x0 x1)=Jt m rec1 x0 x1:=
 tq (g:=fun J=>(jj J 1 2 M1 (Gn x0 (IntKind.wrap .i64 (x1+1))) (awe J m [1,0,1,0] [] M1))) (by simp only[ah,h1];rfl)
theorem Lv m M1 rec1 (h1:ach m M1 rec1):∀M5 x0 x1 x2,awe jn m aoO [M1] M5 (NW x0 x1 x2)=qI m rec1 M5 x0 x1 x2
 |0,_,_,_=>rfl
 | M5+1,x0,x1,x2=>
   tl (g:=fun J=>(bif (decide (x2<x1)) then
  (jj J 0 9 0 (NW x0 x1 x2) (VW J m ayN [M1,M5]))
   else
  (jj J 0 3 0 (Gn x0 x1) (VW J m aLR [M1])))) (by simp only[ah,agp m M1 rec1 h1 M5 (qI m rec1 M5) (Lv m M1 rec1 h1 M5),agq m M1 rec1 h1];rfl)
theorem agr m M1 rec1 (h1:ach m M1 rec1) x0 x1 x2:VW jn m ayM [M1] (NW x0 x1 x2)=Ju m rec1 x0 x1 x2:=
 tq (g:=fun J=>(jj J 1 7 (Nat.succ m) (NW x0 x1 x2) (awe J m aoO [M1] (Nat.succ m)))) (by simp only[ah,Lv m M1 rec1 h1];rfl)
theorem ags m M1 rec1 (h1:ach m M1 rec1) x0 x1:VW jn m ayL [M1] (Gn x0 x1)=Jv m rec1 x0 x1:=
 tq (g:=fun J=>(jj J 0 7 0 (NW x0 x1 0) (VW J m ayM [M1]))) (by simp only[ah,agr m M1 rec1 h1];rfl)
theorem agt m M1 rec1 (h1:ach m M1 rec1) x0 x1:VW jn m asR [M1] (Gn x0 x1)=Jw m rec1 x0 x1:=
 tq (g:=fun J=>((idx x0 x1).bind fun v0=>
  ((eF m (Dt.toStr v0)).bind fun r1=>
  (bif (Bool.not r1) then
  some false
  else
  (jj J 0 6 0 (Gn x0 x1) (VW J m ayL [M1])))))) (by simp only[ah,ags m M1 rec1 h1];rfl)
theorem agu m:VW jn m [1,1] [] aLT=Jy m:=
 tq (g:=fun J=>some true) (by rfl)
theorem Lx m:∀M1 x0 x1,awe jn m [1,0,1,0] [] M1 (Gn x0 x1)=nE m M1 x0 x1
 |0,_,_=>rfl
 | M1+1,x0,x1=>
   tl (g:=fun J=>(bif (decide (x1<(List.length x0:Int))) then
  (jj J 0 4 0 (Gn x0 x1) (VW J m asR [M1]))
   else
  (jj J 0 11 0 aLT (VW J m [1,1] [])))) (by simp only[ah,agt m M1 (nE m M1) (Lx m M1),agu m];rfl)
theorem agv m x0 x1:VW jn m [1,0,1] [] (Gn x0 x1)=U5 m x0 x1:=
 tq (g:=fun J=>(jj J 1 2 (Nat.succ m) (Gn x0 x1) (awe J m [1,0,1,0] [] (Nat.succ m)))) (by simp only[ah,Lx m];rfl)
theorem aoP m a0:VW jn m [] [] ⟨[.dat 26 (.lst a0)],[],0⟩=zX (m+1) a0:=
 tq (g:=fun J=>(jj J 0 2 0 (Gn a0 0) (VW J m [1,0,1] []))) (by simp only[ah,agv m];rfl)
def aLV:List Nat:=[1,0,1,0,1]
def ayO:List Nat:=[1,0,1,0,1,1,1]
def ayP:List Nat:=ayO++[1,1]
def aLW:List Nat:=ayP++[1,1]
def aoQ (J:Q1) m:=evAt Tryz.prog env (ct m) J (m+1) 218 30 Tryz.f218 d7
def aLX:=stO [] []
def aLY x0:=stO [tsB 20 x0] []
def aLZ x0 x1:=stO [tsI 3 x0,tsB 17 x1] []
def aL0 x0 x1:=stO [tsI 3 x0,tsB 8 x1] []
def aL1 x0 x1:=stO [tsI 3 x0,tsB 4 x1] []
theorem aja m:aoQ jn m [1,1] [] aLX=YK m:=
 tq (g:=fun J=>some 2) (by rfl)
theorem ajb m x0:aoQ jn m aLW [] (aLY x0)=YL m x0:=
 tq (g:=fun J=>(bif x0 then
  some (-1)
   else
  (jj J 0 28 0 aLX (aoQ J m [1,1] [])))) (by simp only[ah,aja m];rfl)
theorem ajc m x0 x1:aoQ jn m ayP [] (aLZ x0 x1)=YM m x0 x1:=
 tq (g:=fun J=>U6 (fun y0=>jj J 0 27 0 (aLY y0) (aoQ J m aLW [])) x0 x1) (by simp only[ah,ajb m];rfl)
theorem ajd m x0 x1:aoQ jn m ayO [] (aL0 x0 x1)=YN m x0 x1:=
 tq (g:=fun J=>U7 (fun y0 y1=>jj J 0 17 0 (aLZ y0 y1) (aoQ J m ayP [])) x0 x1) (by simp only[ah,ajc m];rfl)
theorem aje m x0 x1:aoQ jn m aLV [] (aL1 x0 x1)=YO m x0 x1:=
 tq (g:=fun J=>U8 (fun y0 y1=>jj J 0 14 0 (aL0 y0 y1) (aoQ J m ayO [])) x0 x1) (by simp only[ah,ajd m];rfl)
theorem apU m a0:aoQ jn m [] [] ⟨[.dat 3 (.int a0)],[],0⟩=Df (m+1) a0:=
 tq (g:=fun J=>ajw (fun y0 y1=>jj J 0 5 0 (aL1 y0 y1) (aoQ J m aLV [])) a0) (by simp only[ah,aje m];rfl)
end Go.Proofs.YtjnkagkoolbodaaGreatDoor
