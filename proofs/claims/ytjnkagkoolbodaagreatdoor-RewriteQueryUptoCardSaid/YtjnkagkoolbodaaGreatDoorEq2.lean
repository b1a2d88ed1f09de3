/- Generated: each function's run in the abstract machine is its shallow function. -/
import Derived.Test.YtjnkagkoolbodaaGreatDoorCt
import Derived.Test.YtjnkagkoolbodaaGreatDoorAmEnv
import Derived.KernelRfl
set_option linter.unusedVariables false
set_option linter.unusedSimpArgs false
noncomputable section
namespace Go.Proofs.YtjnkagkoolbodaaGreatDoor
open Go.Am
set_option maxRecDepth 100000
def aGN:List Nat:=[1,1,1,1,1]
def arD:List Nat:=[1,1,1,1,1,1]
def aGO:List Nat:=[1,1,1,1,0,1]
def aGP:List Nat:=arD++[1]
def aGQ:List Nat:=[1,1,1,1,1,0,1]
def aGR:List Nat:=arD++[0,1]
def e143 (J:Q1) m:=evAt Tryz.prog env (ct m) J (m+1) 188 164 Tryz.f188 d70
def aAg:=stO [] []
def aGS x0:=stO [tsB 163 x0] []
def ahf x0 x1:=stO [tsP 1 0,tsB 3 x0] [obX 36 x1]
def aGT x0 x1 x2:=stO [tsP 1 0,tsB 3 x0,tsB 112 x1] [obX 36 x2]
def aGU x0 x1 x2:=stO [tsP 1 0,tsB 3 x0,tsB 103 x1] [obX 36 x2]
def arE x0:=stO [tsP 1 0] [obX 36 x0]
def aGV x0 x1:=stO [tsP 1 0,tsB 72 x0] [obX 36 x1]
def aGW x0 x1:=stO [tsP 1 0,tsB 46 x0] [obX 36 x1]
theorem adx m:e143 jn m aGP [] aAg=Jz m:=
 tq (g:=fun J=>some 0) (by rfl)
theorem ahg m x0:e143 jn m aGR [] (aGS x0)=MO m x0:=
 tq (g:=fun J=>(bif x0 then
  some 4
   else
  (jj J 0 12 0 aAg (e143 J m aGP [])))) (by simp only[ah,adx m];rfl)
theorem ahh m x0 x1:e143 jn m arD [] (ahf x0 x1)=DV m x0 x1:=
 tq (g:=fun J=>JA (fun y0=>jj J 0 11 0 (aGS y0) (e143 J m aGR [])) m x0 x1) (by simp only[ah,ahg m];rfl)
theorem ahi m x0 x1 x2:e143 jn m aGQ [] (aGT x0 x1 x2)=MP m x0 x1 x2:=
 tq (g:=fun J=>(bif x1 then
  some 8
   else
  (jj J 0 10 0 (ahf x0 x2) (e143 J m arD [])))) (by simp only[ah,ahh m];rfl)
theorem ahj m x0 x1:e143 jn m aGN [] (ahf x0 x1)=DW m x0 x1:=
 tq (g:=fun J=>JB (fun y0 y1 y2=>jj J 0 9 0 (aGT y0 y1 y2) (e143 J m aGQ [])) m x0 x1) (by simp only[ah,ahi m];rfl)
theorem ahk m x0 x1 x2:e143 jn m aGO [] (aGU x0 x1 x2)=MQ m x0 x1 x2:=
 tq (g:=fun J=>(bif x1 then
  some 9
   else
  (jj J 0 8 0 (ahf x0 x2) (e143 J m aGN [])))) (by simp only[ah,ahj m];rfl)
theorem ahl m x0 x1:e143 jn m [1,1,1,1] [] (ahf x0 x1)=DX m x0 x1:=
 tq (g:=fun J=>JC (fun y0 y1 y2=>jj J 0 7 0 (aGU y0 y1 y2) (e143 J m aGO [])) m x0 x1) (by simp only[ah,ahk m];rfl)
theorem ahm m x0:e143 jn m [1,1,1] [] (arE x0)=MR m x0:=
 tq (g:=fun J=>JD (fun y0 y1=>jj J 0 6 0 (ahf y0 y1) (e143 J m [1,1,1,1] [])) x0) (by simp only[ah,ahl m];rfl)
theorem ahn m x0 x1:e143 jn m [1,1,0,1] [] (aGV x0 x1)=MS m x0 x1:=
 tq (g:=fun J=>(bif x0 then
  some 10
   else
  (jj J 0 5 0 (arE x1) (e143 J m [1,1,1] [])))) (by simp only[ah,ahm m];rfl)
theorem aho m x0:e143 jn m [1,1] [] (arE x0)=DY m x0:=
 tq (g:=fun J=>JE (fun y0 y1=>jj J 0 4 0 (aGV y0 y1) (e143 J m [1,1,0,1] [])) m x0) (by simp only[ah,ahn m];rfl)
theorem ahp m x0 x1:e143 jn m [1,0,1] [] (aGW x0 x1)=MU m x0 x1:=
 tq (g:=fun J=>(bif x0 then
  some 11
   else
  (jj J 0 3 0 (arE x1) (e143 J m [1,1] [])))) (by simp only[ah,aho m];rfl)
theorem ao8 m a0:e143 jn m [] [] ⟨[.dat 36 a0],[],0⟩=zF (m+1) a0:=
 tq (g:=fun J=>U9 (fun y0 y1=>jj J 0 2 0 (aGW y0 y1) (e143 J m [1,0,1] [])) m a0) (by simp only[ah,ahp m];rfl)
def aGX:List Nat:=[1,1,1,0,1]
def alQ:List Nat:=[1,1,1,0,1,0]
def arF:List Nat:=alQ++[0,1]
def aGY:List Nat:=arF++[1]
def aGZ:List Nat:=arF++[0,0,1,1]
def RB (J:Q31) m:=evAt Tryz.prog env (ct m) J (m+1) 147 51 Tryz.f147 aUK
def aCY (J:Q31) m:=loopAt Tryz.prog env (ct m) J (m+1) 147 51 Tryz.f147 aUK
def LQ x0 x1 x2 x3:=stO [tsI 1 x0,tsI 2 x1,tsP 3 0,tsI 9 x2] [obX 36 x3]
def aG0 x0 x1 x2 x3:=stO [tsI 2 x0,tsP 3 0,tsI 9 x1,tsI 10 x2] [obX 36 x3]
def aG1 x0:=stO [tsI 1 x0] []
def arG x0 x1 x2:=stO [tsI 1 x0,tsI 2 x1,tsP 3 0] [obX 36 x2]
def awV x0 x1 x2 x3:=stO [tsI 1 x0,tsI 2 x1,tsP 3 0,tsB 17 x2] [obX 36 x3]
abbrev awW (m M4:Nat) (rec4:Q44):Prop:=∀x0 x1 x2 x3,aCY jn m alQ [] M4 (LQ x0 x1 x2 x3)=rec4 x0 x1 x2 x3
theorem ady m M4 rec4 (h4:awW m M4 rec4) x0 x1 x2 x3:RB jn m aGY [M4] (LQ x0 x1 x2 x3)=JF m (bS m) rec4 x0 x1 x2 x3:=
 tq (g:=fun J=>(jj J 1 7 M4 (LQ x0 x1 (IntKind.wrap .i64 (x2+1)) x3) (aCY J m alQ [] M4))) (by simp only[ah,h4];rfl)
theorem adz m M4 rec4 (h4:awW m M4 rec4) x0 x1 x2 x3:RB jn m aGZ [M4] (aG0 x0 x1 x2 x3)=Bo m (bS m) rec4 x0 x1 x2 x3:=
 tq (g:=fun J=>(jj J 0 8 0 (LQ x2 x0 x1 x3) (RB J m aGY [M4]))) (by simp only[ah,ady m M4 rec4 h4];rfl)
theorem adA m M4 rec4 (h4:awW m M4 rec4) x0 x1 x2 x3:RB jn m arF [M4] (LQ x0 x1 x2 x3)=JG m (bS m) rec4 x0 x1 x2 x3:=
 tq (g:=fun J=>Fw (fun y0 y1 y2 y3=>jj J 0 12 0 (aG0 y0 y1 y2 y3) (RB J m aGZ [M4])) (bS m) x0 x1 x2 x3) (by simp only[ah,adz m M4 rec4 h4];rfl)
theorem adB m x0:RB jn m [1,1,1,1] [] (aG1 x0)=Va m (bS m) x0:=
 tq (g:=fun J=>some (x0,0)) (by rfl)
theorem KN m:∀M4 x0 x1 x2 x3,aCY jn m alQ [] M4 (LQ x0 x1 x2 x3)=nG m (bS m) M4 x0 x1 x2 x3
 |0,_,_,_,_=>rfl
 | M4+1,x0,x1,x2,x3=>
   tl (g:=fun J=>(bif (decide (x2<(List.length (Dt.L x3 6):Int))) then
  (jj J 0 9 0 (LQ x0 x1 x2 x3) (RB J m arF [M4]))
   else
  (jj J 0 13 0 (aG1 x0) (RB J m [1,1,1,1] [])))) (by simp only[ah,adA m M4 (nG m (bS m) M4) (KN m M4),adB m];rfl)
theorem adC m x0 x1 x2 x3:RB jn m aGX [] (LQ x0 x1 x2 x3)=JH m (bS m) x0 x1 x2 x3:=
 tq (g:=fun J=>(jj J 1 7 (Nat.succ m) (LQ x0 x1 x2 x3) (aCY J m alQ [] (Nat.succ m)))) (by simp only[ah,KN m];rfl)
theorem adD m x0 x1 x2:RB jn m [1,1,1] [] (arG x0 x1 x2)=JJ m (bS m) x0 x1 x2:=
 tq (g:=fun J=>(jj J 0 7 0 (LQ x0 x1 0 x2) (RB J m aGX []))) (by simp only[ah,adC m];rfl)
theorem adE m x0 x1 x2:RB jn m [1,1] [] (arG x0 x1 x2)=JK m (bS m) x0 x1 x2:=
 tq (g:=fun J=>((zF m x2).bind fun r0=>
  (bif (r0 !=0) then
  some (x0,r0)
  else
  (jj J 0 6 0 (arG x0 x1 x2) (RB J m [1,1,1] []))))) (by simp only[ah,adD m];rfl)
theorem adF m x0 x1 x2 x3:RB jn m [1,0,1] [] (awV x0 x1 x2 x3)=Bp m (bS m) x0 x1 x2 x3:=
 tq (g:=fun J=>(bif x2 then
  some (x0,2)
   else
  (jj J 0 3 0 (arG x0 x1 x3) (RB J m [1,1] [])))) (by simp only[ah,adE m];rfl)
theorem alR m a0 a1 a2:RB jn m [] [] ⟨[.dat 36 a0,.dat 3 (.int a1),.dat 3 (.int a2)],[],0⟩=bS (m+1) a0 a1 a2:=
 tq (g:=fun J=>(bif (decide (16<a2)) then
  (jj J 0 2 0 (awV a1 a2 true a0) (RB J m [1,0,1] []))
   else
  (jj J 0 2 0 (awV a1 a2 (decide (256<a1)) a0) (RB J m [1,0,1] [])))) (by simp only[ah,adF m];rfl)
def e89 (J:Q1) m:=evAt Tryz.prog env (ct m) J (m+1) 111 11 Tryz.f111 d70
theorem alS m a0:e89 jn m [] [] ⟨[.dat 36 a0],[],0⟩=aV (m+1) a0:=
 tq (g:=fun J=>aV (m+1) a0) (by rfl)
def aG2:List Nat:=[1,1,1,1,1]
def aG3:List Nat:=[1,1,1,0,1]
def awX:List Nat:=[1,1,1,1,1,1]
def awY:List Nat:=[1,1,1,1,0,1]
def auV:List Nat:=awY++[0]
def awZ:List Nat:=awX++[1]
def aAh:List Nat:=awZ++[1]
def aG4:List Nat:=auV++[0,1]
def aRf:List Nat:=aAh++[1]
def aRg:List Nat:=aG4++[1]
def aG5:List Nat:=aAh++[0,1]
def auW:List Nat:=aG5++[0]
def aAi:List Nat:=auW++[0,1]
def aRh:List Nat:=aAi++[1]
def aRi:List Nat:=aAi++[0,0,1]
def e47 (J:Q1) m:=evAt Tryz.prog env (ct m) J (m+1) 59 136 Tryz.f59 d70
def l47 (J:Q1) m:=loopAt Tryz.prog env (ct m) J (m+1) 59 136 Tryz.f59 d70
def Yp x0 x1 x2:=stO [tsB 1 x0,tsP 2 0,tsI 5 x1] [obX 39 x2]
def LU x0 x1 x2:=stO [tsB 1 x0,tsP 2 0,tsI 7 x1] [obX 39 x2]
def aG6 x0 x1 x2 x3:=stO [tsB 1 x0,tsP 2 0,tsI 7 x1,(8,.dat 23 (.int x2))] [obX 39 x3]
def aG7:=stO [] []
def Af x0 x1:=stO [tsB 1 x0,tsP 2 0] [obX 39 x1]
def aRj x0 x1 x2:=stO [tsB 1 x0,tsP 2 0,tsB 76 x1] [obX 39 x2]
def aRk x0 x1 x2:=stO [tsB 1 x0,tsP 2 0,tsB 56 x1] [obX 39 x2]
def aRl x0 x1 x2:=stO [tsB 1 x0,tsP 2 0,tsB 37 x1] [obX 39 x2]
abbrev aRm (m M7:Nat) (rec7:Q36):Prop:=∀x0 x1 x2,l47 jn m auV [] M7 (Yp x0 x1 x2)=rec7 x0 x1 x2
theorem ahq m M7 rec7 (h7:aRm m M7 rec7) x0 x1 x2:e47 jn m aRg [M7] (Yp x0 x1 x2)=DZ m (aN m) rec7 x0 x1 x2:=
 tq (g:=fun J=>(jj J 1 8 M7 (Yp x0 (IntKind.wrap .i64 (x1+1)) x2) (l47 J m auV [] M7))) (by simp only[ah,h7];rfl)
theorem ahr m M7 rec7 (h7:aRm m M7 rec7) x0 x1 x2:e47 jn m aG4 [M7] (Yp x0 x1 x2)=D5 m (aN m) rec7 x0 x1 x2:=
 tq (g:=fun J=>((idx (Dt.L x2 3) x1).bind fun v5=>
  ((dJ m v5).bind fun r6=>
  (bif (Bool.not r6) then
  some 8
  else
  (jj J 0 9 0 (Yp x0 x1 x2) (e47 J m aRg [M7])))))) (by simp only[ah,ahq m M7 rec7 h7];rfl)
abbrev aw0 (m M15:Nat) (rec15:Q36):Prop:=∀x0 x1 x2,l47 jn m auW [] M15 (LU x0 x1 x2)=rec15 x0 x1 x2
theorem adG m M15 rec15 (h15:aw0 m M15 rec15) x0 x1 x2:e47 jn m aRh [M15] (LU x0 x1 x2)=Bq m (aN m) rec15 x0 x1 x2:=
 tq (g:=fun J=>(jj J 1 21 M15 (LU x0 (IntKind.wrap .i64 (x1+1)) x2) (l47 J m auW [] M15))) (by simp only[ah,h15];rfl)
theorem adH m M15 rec15 (h15:aw0 m M15 rec15) x0 x1 x2 x3:e47 jn m aRi [M15] (aG6 x0 x1 x2 x3)=qJ m (aN m) rec15 x0 x1 x2 x3:=
 tq (g:=fun J=>(bif (x2 !=0) then
  some x2
   else
  (jj J 0 22 0 (LU x0 x1 x3) (e47 J m aRh [M15])))) (by simp only[ah,adG m M15 rec15 h15];rfl)
theorem adI m M15 rec15 (h15:aw0 m M15 rec15) x0 x1 x2:e47 jn m aAi [M15] (LU x0 x1 x2)=Br m (aN m) rec15 x0 x1 x2:=
 tq (g:=fun J=>yI (fun y0 y1 y2 y3=>jj J 0 24 0 (aG6 y0 y1 y2 y3) (e47 J m aRi [M15])) (aN m) x0 x1 x2) (by simp only[ah,adH m M15 rec15 h15];rfl)
theorem adJ m:e47 jn m aRf [] aG7=Vb m (aN m):=
 tq (g:=fun J=>some 0) (by rfl)
theorem KO m:∀M15 x0 x1 x2,l47 jn m auW [] M15 (LU x0 x1 x2)=gu m (aN m) M15 x0 x1 x2
 |0,_,_,_=>rfl
 | M15+1,x0,x1,x2=>
   tl (g:=fun J=>(bif (decide (x1<(List.length (Dt.L x2 8):Int))) then
  (jj J 0 23 0 (LU x0 x1 x2) (e47 J m aAi [M15]))
   else
  (jj J 0 26 0 aG7 (e47 J m aRf [])))) (by simp only[ah,adI m M15 (gu m (aN m) M15) (KO m M15),adJ m];rfl)
theorem adK m x0 x1 x2:e47 jn m aG5 [] (LU x0 x1 x2)=Vd m (aN m) x0 x1 x2:=
 tq (g:=fun J=>(jj J 1 21 (Nat.succ m) (LU x0 x1 x2) (l47 J m auW [] (Nat.succ m)))) (by simp only[ah,KO m];rfl)
theorem adL m x0 x1:e47 jn m aAh [] (Af x0 x1)=ref13_node_j13 m (aN m) x0 x1:=
 tq (g:=fun J=>(jj J 0 21 0 (LU x0 0 x1) (e47 J m aG5 []))) (by simp only[ah,adK m];rfl)
theorem adM m x0 x1:e47 jn m awZ [] (Af x0 x1)=vU m (aN m) x0 x1:=
 tq (g:=fun J=>(bif ((Dt.I x1 0)==24) then
  ((aV m (Dt.fld x1 7)).bind fun r9=>
  some r9)
   else
  (jj J 0 20 0 (Af x0 x1) (e47 J m aAh [])))) (by simp only[ah,adL m];rfl)
theorem adN m x0 x1:e47 jn m awX [] (Af x0 x1)=qK m (aN m) x0 x1:=
 tq (g:=fun J=>((l5 m x1).bind fun r8=>
  (bif (Bool.not r8) then
  some 4
  else
  (jj J 0 18 0 (Af x0 x1) (e47 J m awZ []))))) (by simp only[ah,adM m];rfl)
theorem adO m x0 x1:e47 jn m aG2 [] (Af x0 x1)=nH m (aN m) x0 x1:=
 tq (g:=fun J=>yJ (fun y0 y1=>jj J 0 16 0 (Af y0 y1) (e47 J m awX [])) m x0 x1) (by simp only[ah,adN m];rfl)
theorem Oz m:∀M7 x0 x1 x2,l47 jn m auV [] M7 (Yp x0 x1 x2)=mF m (aN m) M7 x0 x1 x2
 |0,_,_,_=>rfl
 |M7+1,x0,x1,x2=>
  tl (g:=fun J=>Bt (fun y0 y1 y2=>jj J 0 10 0 (Yp y0 y1 y2) (e47 J m aG4 [M7])) (fun y0 y1=>jj J 0 12 0 (Af y0 y1) (e47 J m aG2 [])) m x0 x1 x2) (by simp only[ah,ahr m M7 (mF m (aN m) M7) (Oz m M7),adO m];rfl)
theorem ahs m x0 x1 x2:e47 jn m awY [] (Yp x0 x1 x2)=YP m (aN m) x0 x1 x2:=
 tq (g:=fun J=>(jj J 1 8 (Nat.succ m) (Yp x0 x1 x2) (l47 J m auV [] (Nat.succ m)))) (by simp only[ah,Oz m];rfl)
theorem aht m x0 x1:e47 jn m [1,1,1,1] [] (Af x0 x1)=MV m (aN m) x0 x1:=
 tq (g:=fun J=>(jj J 0 8 0 (Yp x0 0 x1) (e47 J m awY []))) (by simp only[ah,ahs m];rfl)
theorem ahu m x0 x1 x2:e47 jn m aG3 [] (aRj x0 x1 x2)=yj m (aN m) x0 x1 x2:=
 tq (g:=fun J=>(bif x1 then
  some 8
   else
  (jj J 0 7 0 (Af x0 x2) (e47 J m [1,1,1,1] [])))) (by simp only[ah,aht m];rfl)
theorem ahv m x0 x1:e47 jn m [1,1,1] [] (Af x0 x1)=uD m (aN m) x0 x1:=
 tq (g:=fun J=>Bu (fun y0 y1 y2=>jj J 0 6 0 (aRj y0 y1 y2) (e47 J m aG3 [])) m x0 x1) (by simp only[ah,ahu m];rfl)
theorem ahw m x0 x1 x2:e47 jn m [1,1,0,1] [] (aRk x0 x1 x2)=yt m (aN m) x0 x1 x2:=
 tq (g:=fun J=>(bif x1 then
  some 10
   else
  (jj J 0 5 0 (Af x0 x2) (e47 J m [1,1,1] [])))) (by simp only[ah,ahv m];rfl)
theorem ahx m x0 x1:e47 jn m [1,1] [] (Af x0 x1)=yu m (aN m) x0 x1:=
 tq (g:=fun J=>Bv (fun y0 y1 y2=>jj J 0 4 0 (aRk y0 y1 y2) (e47 J m [1,1,0,1] [])) m x0 x1) (by simp only[ah,ahw m];rfl)
theorem ahy m x0 x1 x2:e47 jn m [1,0,1] [] (aRl x0 x1 x2)=uE m (aN m) x0 x1 x2:=
 tq (g:=fun J=>(bif x1 then
  some 11
   else
  (jj J 0 3 0 (Af x0 x2) (e47 J m [1,1] [])))) (by simp only[ah,ahx m];rfl)
theorem ao9 m a0 a1:e47 jn m [] [] ⟨[.dat 39 a0,.dat 4 (.bool a1)],[],0⟩=aN (m+1) a0 a1:=
 tq (g:=fun J=>K7 (fun y0 y1 y2=>jj J 0 2 0 (aRl y0 y1 y2) (e47 J m [1,0,1] [])) m a0 a1) (by simp only[ah,ahy m];rfl)
def e19 (J:Q1) m:=evAt Tryz.prog env (ct m) J (m+1) 27 8 Tryz.f27 d70
def aRn x0:=stO [tsP 1 0] [obX 39 x0]
theorem adP m x0:e19 jn m [1,1] [] (aRn x0)=vV m x0:=
 tq (g:=fun J=>vV m x0) (by rfl)
theorem alT m a0:e19 jn m [] [] ⟨[.dat 39 a0],[],0⟩=mG (m+1) a0:=
 tq (g:=fun J=>((bF m a0 16 256).bind fun r0=>
  (bif (decide (r0<0)) then
  some 2
  else
  (jj J 0 3 0 (aRn a0) (e19 J m [1,1] []))))) (by simp only[ah,adP m];rfl)
def aWi:List Nat:=[1,1,1,1,1]
def aWj:List Nat:=[1,1,0,0,0,1]
def aUR:List Nat:=[1,1,1,1,1,1]
def aUS:List Nat:=aUR++[1]
def aWk:List Nat:=aUS++[1]
def e4 (J:Q47) m:=evAt Tryz.prog env (ct m) J (m+1) 8 71 Tryz.f8 d4
def l4 (J:Q47) m:=loopAt Tryz.prog env (ct m) J (m+1) 8 71 Tryz.f8 d4
def apa x0 x1 x2:=stO [tsL 0 22 x0,tsP 2 0,tsI 4 x1] [obX 47 x2]
def auX x0 x1 x2 x3:=stO [tsL 0 22 x0,tsP 2 0,tsI 4 x1,tsP 5 1] [obX 47 x2,obX 47 x3]
abbrev aXj (m M1:Nat) (rec1:Q59):Prop:=∀x0 x1 x2,l4 jn m [1,1,0,0] [] M1 (apa x0 x1 x2)=rec1 x0 x1 x2
theorem adQ m M1 rec1 (h1:aXj m M1 rec1) x0 x1 x2:e4 jn m aWj [M1] (apa x0 x1 x2)=JL m rec1 x0 x1 x2:=
 tq (g:=fun J=>(jj J 1 2 M1 (apa x0 (IntKind.wrap .i64 (x1+1)) x2) (l4 J m [1,1,0,0] [] M1))) (by simp only[ah,h1];rfl)
theorem adR m x0 x1 x2 x3:e4 jn m aWk [] (auX x0 x1 x2 x3)=vW m x0 x1 x2 x3:=
 tq (g:=fun J=>vW m x0 x1 x2 x3) (by rfl)
theorem adS m x0 x1 x2 x3:e4 jn m aUS [] (auX x0 x1 x2 x3)=Bw m x0 x1 x2 x3:=
 tq (g:=fun J=>Fx (fun y0 y1 y2 y3=>jj J 0 17 0 (auX y0 y1 y2 y3) (e4 J m aWk [])) m x0 x1 x2 x3) (by simp only[ah,adR m];rfl)
theorem adT m x0 x1 x2 x3:e4 jn m aUR [] (auX x0 x1 x2 x3)=Bz m x0 x1 x2 x3:=
 tq (g:=fun J=>Fy (fun y0 y1 y2 y3=>jj J 0 14 0 (auX y0 y1 y2 y3) (e4 J m aUS [])) m x0 x1 x2 x3) (by simp only[ah,adS m];rfl)
theorem adU m x0 x1 x2 x3:e4 jn m aWi [] (auX x0 x1 x2 x3)=BD m x0 x1 x2 x3:=
 tq (g:=fun J=>Fz (fun y0 y1 y2 y3=>jj J 0 11 0 (auX y0 y1 y2 y3) (e4 J m aUR [])) m x0 x1 x2 x3) (by simp only[ah,adT m];rfl)
theorem adV m x0 x1 x2:e4 jn m [1,1,1] [] (apa x0 x1 x2)=BF m x0 x1 x2:=
 tq (g:=fun J=>FB (fun y0 y1 y2 y3=>jj J 0 8 0 (auX y0 y1 y2 y3) (e4 J m aWi [])) m x0 x1 x2) (by simp only[ah,adU m];rfl)
theorem KP m:∀M1 x0 x1 x2,l4 jn m [1,1,0,0] [] M1 (apa x0 x1 x2)=qL m M1 x0 x1 x2
 |0,_,_,_=>rfl
 |M1+1,x0,x1,x2=>
  tl (g:=fun J=>FC (fun y0 y1 y2=>jj J 0 3 0 (apa y0 y1 y2) (e4 J m aWj [M1])) (fun y0 y1 y2=>jj J 0 4 0 (apa y0 y1 y2) (e4 J m [1,1,1] [])) m x0 x1 x2) (by simp only[ah,adQ m M1 (qL m M1) (KP m M1),adV m];rfl)
theorem adW m x0 x1 x2:e4 jn m [1,1] [] (apa x0 x1 x2)=JM m x0 x1 x2:=
 tq (g:=fun J=>(jj J 1 2 (Nat.succ m) (apa x0 x1 x2) (l4 J m [1,1,0,0] [] (Nat.succ m)))) (by simp only[ah,KP m];rfl)
theorem alU m a0:e4 jn m [] [] ⟨[.dat 22 (.lst a0)],[],0⟩=vX (m+1) a0:=
 tq (g:=fun J=>(jj J 0 2 0 (apa a0 0 Wj) (e4 J m [1,1] []))) (by simp only[ah,adW m];rfl)
def aG8:List Nat:=[1,1,1,0,1]
def auY:List Nat:=[1,1,1,0,1,0]
def alV:List Nat:=auY++[0,1]
def aRo:List Nat:=alV++[1]
def aAj:List Nat:=alV++[0,0,1]
def aAk:List Nat:=aAj++[1]
def aG9:List Nat:=alV++[0,0,0,1]
def aHa:List Nat:=aAj++[0,1]
def auZ:List Nat:=aHa++[0]
def aRp:List Nat:=aAk++[1,1,1]
def aHb:List Nat:=auZ++[0,1]
def aRq:List Nat:=aAk++[1,1,0,1]
def aRr:List Nat:=aHb++[1]
def e62 (J:Q1) m:=evAt Tryz.prog env (ct m) J (m+1) 80 86 Tryz.f80 d70
def l62 (J:Q1) m:=loopAt Tryz.prog env (ct m) J (m+1) 80 86 Tryz.f80 d70
def Yq x0 x1 x2 x3:=stO [tsP 1 0,tsL 3 41 x0,tsI 4 x1,tsI 5 x2] [obX 45 x3]
def Ag x0 x1 x2:=stO [tsP 1 0,tsL 3 41 x0,tsI 4 x1] [obX 45 x2]
def aHc x0 x1 x2 x3:=stO [tsP 1 0,tsL 3 41 x0,tsI 4 x1,tsI 7 x2] [obX 45 x3]
def aHd x0 x1 x2 x3 x4:=stO [tsP 1 0,tsL 3 41 x0,tsI 4 x1,tsI 7 x2,tsB 73 x3] [obX 45 x4]
def aRs x0 x1 x2 x3:=stO [tsP 1 0,tsL 3 41 x0,tsI 4 x1,tsB 34 x2] [obX 45 x3]
def aHe:=stO [] []
def aRt x0 x1:=stO [tsP 1 0,tsL 3 41 x0] [obX 45 x1]
abbrev Uf (m M2:Nat) (rec2:Q26):Prop:=∀x0 x1 x2,l62 jn m auY [] M2 (Ag x0 x1 x2)=rec2 x0 x1 x2
abbrev aRu (m M2 M7:Nat) (rec7:Q40):Prop:=∀x0 x1 x2 x3,l62 jn m auZ [M2] M7 (Yq x0 x1 x2 x3)=rec7 x0 x1 x2 x3
theorem adX m M2 rec2 (h2:Uf m M2 rec2) M7 rec7 (h7:aRu m M2 M7 rec7) x0 x1 x2 x3:e62 jn m aRr [M2,M7] (Yq x0 x1 x2 x3)=JN m rec2 rec7 x0 x1 x2 x3:=
 tq (g:=fun J=>(jj J 1 10 M7 (Yq x0 x1 (IntKind.wrap .i64 (x2+1)) x3) (l62 J m auZ [M2] M7))) (by simp only[ah,h7];rfl)
theorem adY m M2 rec2 (h2:Uf m M2 rec2) M7 rec7 (h7:aRu m M2 M7 rec7) x0 x1 x2 x3:e62 jn m aHb [M2,M7] (Yq x0 x1 x2 x3)=JO m rec2 rec7 x0 x1 x2 x3:=
 tq (g:=fun J=>FD (fun y0 y1 y2 y3=>jj J 0 11 0 (Yq y0 y1 y2 y3) (e62 J m aRr [M2,M7])) m x0 x1 x2 x3) (by simp only[ah,adX m M2 rec2 h2 M7 rec7 h7];rfl)
theorem ZA m M2 rec2 (h2:Uf m M2 rec2) x0 x1 x2:e62 jn m aRo [M2] (Ag x0 x1 x2)=yK m rec2 x0 x1 x2:=
 tq (g:=fun J=>(jj J 1 5 M2 (Ag x0 (IntKind.wrap .i64 (x1+1)) x2) (l62 J m auY [] M2))) (by simp only[ah,h2];rfl)
theorem ZB m M2 rec2 (h2:Uf m M2 rec2) x0 x1 x2 x3:e62 jn m aRp [M2] (aHc x0 x1 x2 x3)=FH m rec2 x0 x1 x2 x3:=
 tq (g:=fun J=>Dg (fun y0 y1 y2=>jj J 0 6 0 (Ag y0 y1 y2) (e62 J m aRo [M2])) m x0 x1 x2 x3) (by simp only[ah,ZA m M2 rec2 h2];rfl)
theorem ZC m M2 rec2 (h2:Uf m M2 rec2) x0 x1 x2 x3 x4:e62 jn m aRq [M2] (aHd x0 x1 x2 x3 x4)=yL m rec2 x0 x1 x2 x3 x4:=
 tq (g:=fun J=>(bif x3 then
  some 1
   else
  (jj J 0 18 0 (aHc x0 x1 x2 x4) (e62 J m aRp [M2])))) (by simp only[ah,ZB m M2 rec2 h2];rfl)
theorem ZE m M2 rec2 (h2:Uf m M2 rec2) x0 x1 x2:e62 jn m aAk [M2] (Ag x0 x1 x2)=tN m rec2 x0 x1 x2:=
 tq (g:=fun J=>Dh (fun y0 y1 y2 y3 y4=>jj J 0 17 0 (aHd y0 y1 y2 y3 y4) (e62 J m aRq [M2])) x0 x1 x2) (by simp only[ah,ZC m M2 rec2 h2];rfl)
theorem KQ m M2 rec2 (h2:Uf m M2 rec2):∀M7 x0 x1 x2 x3,l62 jn m auZ [M2] M7 (Yq x0 x1 x2 x3)=qM m rec2 M7 x0 x1 x2 x3
 |0,_,_,_,_=>rfl
 | M7+1,x0,x1,x2,x3=>
   tl (g:=fun J=>(bif (decide (x2<x1)) then
  (jj J 0 12 0 (Yq x0 x1 x2 x3) (e62 J m aHb [M2,M7]))
   else
  (jj J 0 14 0 (Ag x0 x1 x3) (e62 J m aAk [M2])))) (by simp only[ah,adY m M2 rec2 h2 M7 (qM m rec2 M7) (KQ m M2 rec2 h2 M7),ZE m M2 rec2 h2];rfl)
theorem adZ m M2 rec2 (h2:Uf m M2 rec2) x0 x1 x2 x3:e62 jn m aHa [M2] (Yq x0 x1 x2 x3)=Ve m rec2 x0 x1 x2 x3:=
 tq (g:=fun J=>(jj J 1 10 (Nat.succ m) (Yq x0 x1 x2 x3) (l62 J m auZ [M2] (Nat.succ m)))) (by simp only[ah,KQ m M2 rec2 h2];rfl)
theorem ad1 m M2 rec2 (h2:Uf m M2 rec2) x0 x1 x2:e62 jn m aAj [M2] (Ag x0 x1 x2)=Vf m rec2 x0 x1 x2:=
 tq (g:=fun J=>(jj J 0 10 0 (Yq x0 x1 0 x2) (e62 J m aHa [M2]))) (by simp only[ah,adZ m M2 rec2 h2];rfl)
theorem ad2 m M2 rec2 (h2:Uf m M2 rec2) x0 x1 x2 x3:e62 jn m aG9 [M2] (aRs x0 x1 x2 x3)=BG m rec2 x0 x1 x2 x3:=
 tq (g:=fun J=>(bif x2 then
  some 10
   else
  (jj J 0 9 0 (Ag x0 x1 x3) (e62 J m aAj [M2])))) (by simp only[ah,ad1 m M2 rec2 h2];rfl)
theorem ad3 m M2 rec2 (h2:Uf m M2 rec2) x0 x1 x2:e62 jn m alV [M2] (Ag x0 x1 x2)=JQ m rec2 x0 x1 x2:=
 tq (g:=fun J=>FI (fun y0 y1 y2 y3=>jj J 0 8 0 (aRs y0 y1 y2 y3) (e62 J m aG9 [M2])) m x0 x1 x2) (by simp only[ah,ad2 m M2 rec2 h2];rfl)
theorem ZF m:e62 jn m [1,1,1,1] [] aHe=QO m:=
 tq (g:=fun J=>some 0) (by rfl)
theorem KR m:∀M2 x0 x1 x2,l62 jn m auY [] M2 (Ag x0 x1 x2)=nI m M2 x0 x1 x2
 |0,_,_,_=>rfl
 | M2+1,x0,x1,x2=>
   tl (g:=fun J=>(bif (decide (x1<(List.length x0:Int))) then
  (jj J 0 7 0 (Ag x0 x1 x2) (e62 J m alV [M2]))
   else
  (jj J 0 22 0 aHe (e62 J m [1,1,1,1] [])))) (by simp only[ah,ad3 m M2 (nI m M2) (KR m M2),ZF m];rfl)
theorem ad4 m x0 x1 x2:e62 jn m aG8 [] (Ag x0 x1 x2)=Vg m x0 x1 x2:=
 tq (g:=fun J=>(jj J 1 5 (Nat.succ m) (Ag x0 x1 x2) (l62 J m auY [] (Nat.succ m)))) (by simp only[ah,KR m];rfl)
theorem ad5 m x0 x1:e62 jn m [1,1,1] [] (aRt x0 x1)=Vh m x0 x1:=
 tq (g:=fun J=>(jj J 0 5 0 (Ag x0 0 x1) (e62 J m aG8 []))) (by simp only[ah,ad4 m];rfl)
theorem alW m a0:e62 jn m [] [] ⟨[.dat 45 a0],[],0⟩=vY (m+1) a0:=
 tq (g:=fun J=>((qY m a0).bind fun r0=>
  (bif (decide (32<(List.length r0:Int))) then
  some 2
  else
  (jj J 0 4 0 (aRt r0 a0) (e62 J m [1,1,1] []))))) (by simp only[ah,ad5 m];rfl)
def aAl:List Nat:=[1,1,0,1,0]
def aAm:List Nat:=[1,1,0,1,0,0,1]
def aRv:List Nat:=aAm++[1]
def aHf:List Nat:=aAm++[0,0,1]
def aAn:List Nat:=aHf++[1]
def aRw:List Nat:=aAn++[1]
def aHg:List Nat:=aAn++[0,1]
def au0:List Nat:=aHg++[0]
def aHh:List Nat:=au0++[0,1]
def aRx:List Nat:=aHh++[1]
def e63 (J:Q1) m:=evAt Tryz.prog env (ct m) J (m+1) 81 60 Tryz.f81 d70
def l63 (J:Q1) m:=loopAt Tryz.prog env (ct m) J (m+1) 81 60 Tryz.f81 d70
def LV x0 x1 x2:=stO [tsL 0 43 x0,tsI 3 x1,tsI 4 x2] []
def wW x0 x1:=stO [tsL 0 43 x0,tsI 3 x1] []
def aHi:=stO [] []
def aRy x0:=stO [tsL 0 43 x0] []
def aRz x0 x1:=stO [tsL 0 43 x0,tsB 13 x1] []
abbrev ad6 (m M3:Nat) (rec3:Q4):Prop:=∀x0 x1,l63 jn m aAl [] M3 (wW x0 x1)=rec3 x0 x1
abbrev aRA (m M3 M8:Nat) (rec8:Q22):Prop:=∀x0 x1 x2,l63 jn m au0 [M3] M8 (LV x0 x1 x2)=rec8 x0 x1 x2
theorem ad7 m M3 rec3 (h3:ad6 m M3 rec3) M8 rec8 (h8:aRA m M3 M8 rec8) x0 x1 x2:e63 jn m aRx [M3,M8] (LV x0 x1 x2)=JR m rec3 rec8 x0 x1 x2:=
 tq (g:=fun J=>(jj J 1 11 M8 (LV x0 x1 (IntKind.wrap .i64 (x2+1))) (l63 J m au0 [M3] M8))) (by simp only[ah,h8];rfl)
theorem ahz m M3 rec3 (h3:ad6 m M3 rec3) M8 rec8 (h8:aRA m M3 M8 rec8) x0 x1 x2:e63 jn m aHh [M3,M8] (LV x0 x1 x2)=MW m rec3 rec8 x0 x1 x2:=
 tq (g:=fun J=>JU (fun y0 y1 y2=>jj J 0 12 0 (LV y0 y1 y2) (e63 J m aRx [M3,M8])) m x0 x1 x2) (by simp only[ah,ad7 m M3 rec3 h3 M8 rec8 h8];rfl)
theorem ad8 m M3 rec3 (h3:ad6 m M3 rec3) x0 x1:e63 jn m aRv [M3] (wW x0 x1)=JV m rec3 x0 x1:=
 tq (g:=fun J=>(jj J 1 4 M3 (wW x0 (IntKind.wrap .i64 (x1+1))) (l63 J m aAl [] M3))) (by simp only[ah,h3];rfl)
theorem ad9 m M3 rec3 (h3:ad6 m M3 rec3) x0 x1:e63 jn m aRw [M3] (wW x0 x1)=JW m rec3 x0 x1:=
 tq (g:=fun J=>((idx x0 x1).bind fun v7=>
  ((aV m (Dt.fld v7 1)).bind fun r8=>
  (bif (r8 !=0) then
  some r8
  else
  (jj J 0 5 0 (wW x0 x1) (e63 J m aRv [M3])))))) (by simp only[ah,ad8 m M3 rec3 h3];rfl)
theorem OA m M3 rec3 (h3:ad6 m M3 rec3):∀M8 x0 x1 x2,l63 jn m au0 [M3] M8 (LV x0 x1 x2)=uF m rec3 M8 x0 x1 x2
 |0,_,_,_=>rfl
 | M8+1,x0,x1,x2=>
   tl (g:=fun J=>(bif (decide (x2<x1)) then
  (jj J 0 13 0 (LV x0 x1 x2) (e63 J m aHh [M3,M8]))
   else
  (jj J 0 15 0 (wW x0 x1) (e63 J m aRw [M3])))) (by simp only[ah,ahz m M3 rec3 h3 M8 (uF m rec3 M8) (OA m M3 rec3 h3 M8),ad9 m M3 rec3 h3];rfl)
theorem ahA m M3 rec3 (h3:ad6 m M3 rec3) x0 x1 x2:e63 jn m aHg [M3] (LV x0 x1 x2)=YQ m rec3 x0 x1 x2:=
 tq (g:=fun J=>(jj J 1 11 (Nat.succ m) (LV x0 x1 x2) (l63 J m au0 [M3] (Nat.succ m)))) (by simp only[ah,OA m M3 rec3 h3];rfl)
theorem ahB m M3 rec3 (h3:ad6 m M3 rec3) x0 x1:e63 jn m aAn [M3] (wW x0 x1)=YR m rec3 x0 x1:=
 tq (g:=fun J=>(jj J 0 11 0 (LV x0 x1 0) (e63 J m aHg [M3]))) (by simp only[ah,ahA m M3 rec3 h3];rfl)
theorem ahC m M3 rec3 (h3:ad6 m M3 rec3) x0 x1:e63 jn m aHf [M3] (wW x0 x1)=MX m rec3 x0 x1:=
 tq (g:=fun J=>JX (fun y0 y1=>jj J 0 10 0 (wW y0 y1) (e63 J m aAn [M3])) x0 x1) (by simp only[ah,ahB m M3 rec3 h3];rfl)
theorem ahD m M3 rec3 (h3:ad6 m M3 rec3) x0 x1:e63 jn m aAm [M3] (wW x0 x1)=MZ m rec3 x0 x1:=
 tq (g:=fun J=>JY (fun y0 y1=>jj J 0 8 0 (wW y0 y1) (e63 J m aHf [M3])) m x0 x1) (by simp only[ah,ahC m M3 rec3 h3];rfl)
theorem aea m:e63 jn m [1,1,1] [] aHi=Vi m:=
 tq (g:=fun J=>some 0) (by rfl)
theorem OB m:∀M3 x0 x1,l63 jn m aAl [] M3 (wW x0 x1)=uG m M3 x0 x1
 |0,_,_=>rfl
 | M3+1,x0,x1=>
   tl (g:=fun J=>(bif (decide (x1<(List.length x0:Int))) then
  (jj J 0 6 0 (wW x0 x1) (e63 J m aAm [M3]))
   else
  (jj J 0 18 0 aHi (e63 J m [1,1,1] [])))) (by simp only[ah,ahD m M3 (uG m M3) (OB m M3),aea m];rfl)
theorem ahE m x0 x1:e63 jn m [1,1,0,1] [] (wW x0 x1)=YS m x0 x1:=
 tq (g:=fun J=>(jj J 1 4 (Nat.succ m) (wW x0 x1) (l63 J m aAl [] (Nat.succ m)))) (by simp only[ah,OB m];rfl)
theorem ahF m x0:e63 jn m [1,1] [] (aRy x0)=YT m x0:=
 tq (g:=fun J=>(jj J 0 4 0 (wW x0 0) (e63 J m [1,1,0,1] []))) (by simp only[ah,ahE m];rfl)
theorem ahG m x0 x1:e63 jn m [1,0,1] [] (aRz x0 x1)=D6 m x0 x1:=
 tq (g:=fun J=>(bif x1 then
  some 21
   else
  (jj J 0 3 0 (aRy x0) (e63 J m [1,1] [])))) (by simp only[ah,ahF m];rfl)
theorem apb m a0:e63 jn m [] [] ⟨[.dat 43 (.lst a0)],[],0⟩=vZ (m+1) a0:=
 tq (g:=fun J=>K8 (fun y0 y1=>jj J 0 2 0 (aRz y0 y1) (e63 J m [1,0,1] [])) a0) (by simp only[ah,ahG m];rfl)
def aRB:List Nat:=[1,1,1,1,1]
def aHj:List Nat:=[1,1,1,1,0,1]
def au1:List Nat:=aHj++[0]
def aAo:List Nat:=au1++[0,1]
def aRC:List Nat:=aAo++[1]
def aHk:List Nat:=aAo++[0,0,1]
def aRD:List Nat:=aHk++[1]
def e68 (J:Q1) m:=evAt Tryz.prog env (ct m) J (m+1) 86 46 Tryz.f86 d70
def l68 (J:Q1) m:=loopAt Tryz.prog env (ct m) J (m+1) 86 46 Tryz.f86 d70
def QI x0 x1:=stO [tsP 1 0,tsI 4 x0] [obX 71 x1]
def aRE x0 x1 x2:=stO [tsP 1 0,tsI 4 x0,tsB 45 x1] [obX 71 x2]
def aRF:=stO [] []
def aAp x0:=stO [tsP 1 0] [obX 71 x0]
abbrev aAq (m M3:Nat) (rec3:Q9):Prop:=∀x0 x1,l68 jn m au1 [] M3 (QI x0 x1)=rec3 x0 x1
theorem ZG m M3 rec3 (h3:aAq m M3 rec3) x0 x1:e68 jn m aRC [M3] (QI x0 x1)=FJ m rec3 x0 x1:=
 tq (g:=fun J=>(jj J 1 7 M3 (QI (IntKind.wrap .i64 (x0+1)) x1) (l68 J m au1 [] M3))) (by simp only[ah,h3];rfl)
theorem ZH m M3 rec3 (h3:aAq m M3 rec3) x0 x1 x2:e68 jn m aRD [M3] (aRE x0 x1 x2)=yM m rec3 x0 x1 x2:=
 tq (g:=fun J=>(bif x1 then
  some 1
   else
  (jj J 0 8 0 (QI x0 x2) (e68 J m aRC [M3])))) (by simp only[ah,ZG m M3 rec3 h3];rfl)
theorem ZI m M3 rec3 (h3:aAq m M3 rec3) x0 x1:e68 jn m aHk [M3] (QI x0 x1)=FK m rec3 x0 x1:=
 tq (g:=fun J=>Di (fun y0 y1 y2=>jj J 0 12 0 (aRE y0 y1 y2) (e68 J m aRD [M3])) m x0 x1) (by simp only[ah,ZH m M3 rec3 h3];rfl)
theorem ZJ m M3 rec3 (h3:aAq m M3 rec3) x0 x1:e68 jn m aAo [M3] (QI x0 x1)=FL m rec3 x0 x1:=
 tq (g:=fun J=>((idx (Dt.L x1 14) x0).bind fun v1=>
  ((dJ m v1).bind fun r2=>
  (bif (Bool.not r2) then
  some 8
  else
  (jj J 0 11 0 (QI x0 x1) (e68 J m aHk [M3])))))) (by simp only[ah,ZI m M3 rec3 h3];rfl)
theorem ZK m:e68 jn m aRB [] aRF=QS m:=
 tq (g:=fun J=>some 0) (by rfl)
theorem Hu m:∀M3 x0 x1,l68 jn m au1 [] M3 (QI x0 x1)=kH m M3 x0 x1
 |0,_,_=>rfl
 | M3+1,x0,x1=>
   tl (g:=fun J=>(bif (decide (x0<(List.length (Dt.L x1 14):Int))) then
  (jj J 0 9 0 (QI x0 x1) (e68 J m aAo [M3]))
   else
  (jj J 0 13 0 aRF (e68 J m aRB [])))) (by simp only[ah,ZJ m M3 (kH m M3) (Hu m M3),ZK m];rfl)
theorem ZL m x0 x1:e68 jn m aHj [] (QI x0 x1)=QT m x0 x1:=
 tq (g:=fun J=>(jj J 1 7 (Nat.succ m) (QI x0 x1) (l68 J m au1 [] (Nat.succ m)))) (by simp only[ah,Hu m];rfl)
theorem ZM m x0:e68 jn m [1,1,1,1] [] (aAp x0)=QU m x0:=
 tq (g:=fun J=>(jj J 0 7 0 (QI 0 x0) (e68 J m aHj []))) (by simp only[ah,ZL m];rfl)
theorem ZN m x0:e68 jn m [1,1,1] [] (aAp x0)=FM m x0:=
 tq (g:=fun J=>(bif (decide ((List.length (Dt.L x0 14):Int)<2)) then
  some 21
   else
  (jj J 0 6 0 (aAp x0) (e68 J m [1,1,1,1] [])))) (by simp only[ah,ZM m];rfl)
theorem ajJ m a0:e68 jn m [] [] ⟨[.dat 71 a0],[],0⟩=rZ (m+1) a0:=
 tq (g:=fun J=>((aV m (Dt.fld a0 9)).bind fun r0=>
  (bif (r0 !=0) then
  some r0
  else
  (jj J 0 4 0 (aAp a0) (e68 J m [1,1,1] []))))) (by simp only[ah,ZN m];rfl)
def aRG:List Nat:=[1,0,1,0,1,0,1]
def aHl:List Nat:=[1,0,1,0,1,1,1,1,1,1,1,0,1]
def aRH:List Nat:=aHl++[1]
def aRI:List Nat:=[1,0,1,0,1,1,1,1,1,1,1,1,1,1,1]
def e71 (J:Q1) m:=evAt Tryz.prog env (ct m) J (m+1) 89 51 Tryz.f89 d70
def aAr x0:=stO [tsP 1 0] [obX 71 x0]
def aAs:=stO [] []
def aRJ x0:=stO [tsB 38 x0] []
def aRK x0 x1:=stO [tsP 1 0,tsB 45 x0] [obX 71 x1]
theorem ZO m x0:e71 jn m aRG [] (aAr x0)=yN m x0:=
 tq (g:=fun J=>yN m x0) (by rfl)
theorem y9 m:e71 jn m [1,1] [] aAs=tO m:=
 tq (g:=fun J=>some 0) (by rfl)
theorem ZP m x0:e71 jn m aRH [] (aRJ x0)=FN m x0:=
 tq (g:=fun J=>(bif x0 then
  some 9
   else
  (jj J 0 23 0 aAs (e71 J m [1,1] [])))) (by simp only[ah,y9 m];rfl)
theorem ZQ m x0:e71 jn m aHl [] (aAr x0)=FP m x0:=
 tq (g:=fun J=>Dj (fun y0=>jj J 0 16 0 (aRJ y0) (e71 J m aRH [])) m x0) (by simp only[ah,ZP m];rfl)
theorem ZR m x0 x1:e71 jn m aRI [] (aRK x0 x1)=FR m x0 x1:=
 tq (g:=fun J=>(bif x0 then
  ((aV m (Dt.fld x1 9)).bind fun r4=>
  some r4)
   else
  (jj J 0 23 0 aAs (e71 J m [1,1] [])))) (by simp only[ah,y9 m];rfl)
theorem ajK m a0:e71 jn m [] [] ⟨[.dat 71 a0],[],0⟩=oM (m+1) a0:=
 tq (g:=fun J=>M0 (fun y0=>jj J 0 5 0 (aAr y0) (e71 J m aRG [])) (jj J 0 23 0 aAs (e71 J m [1,1] [])) (fun y0=>jj J 0 15 0 (aAr y0) (e71 J m aHl [])) (fun y0 y1=>jj J 0 22 0 (aRK y0 y1) (e71 J m aRI [])) m a0) (by simp only[ah,ZO m,y9 m,ZQ m,ZR m];rfl)
def aRL:List Nat:=[1,1,1,1,1]
def aRM:List Nat:=[1,1,1,1,1,1,1]
def aRN:List Nat:=[1,1,1,1,1,1,0,1]
def e98 (J:Q1) m:=evAt Tryz.prog env (ct m) J (m+1) 116 66 Tryz.f116 d70
def aRO x0:=stO [(4,.dat 23 (.int x0))] []
def aRP x0 x1:=stO [(4,.dat 23 (.int x0)),tsB 64 x1] []
def ajo x0:=stO [tsP 1 0] [obX 114 x0]
def aRQ x0 x1:=stO [tsP 1 0,tsB 37 x0] [obX 114 x1]
def aRR x0 x1:=stO [tsP 1 0,tsB 12 x0] [obX 114 x1]
theorem ajL m x0:e98 jn m aRM [] (aRO x0)=Qd m x0:=
 tq (g:=fun J=>some x0) (by rfl)
theorem ajM m x0 x1:e98 jn m aRN [] (aRP x0 x1)=Qe m x0 x1:=
 tq (g:=fun J=>(bif x1 then
  some 1
   else
  (jj J 0 14 0 (aRO x0) (e98 J m aRM [])))) (by simp only[ah,ajL m];rfl)
theorem ajN m x0:e98 jn m aRL [] (ajo x0)=Qf m x0:=
 tq (g:=fun J=>Na (fun y0 y1=>jj J 0 13 0 (aRP y0 y1) (e98 J m aRN [])) m x0) (by simp only[ah,ajM m];rfl)
theorem ajO m x0:e98 jn m [1,1,1,1] [] (ajo x0)=GL m x0:=
 tq (g:=fun J=>(bif ((Dt.I x0 1) !=10) then
  some 0
   else
  (jj J 0 11 0 (ajo x0) (e98 J m aRL [])))) (by simp only[ah,ajN m];rfl)
theorem ajP m x0:e98 jn m [1,1,1] [] (ajo x0)=Qg m x0:=
 tq (g:=fun J=>Nb (fun y0=>jj J 0 9 0 (ajo y0) (e98 J m [1,1,1,1] [])) m x0) (by simp only[ah,ajO m];rfl)
theorem ajQ m x0 x1:e98 jn m [1,1,0,1] [] (aRQ x0 x1)=GN m x0 x1:=
 tq (g:=fun J=>(bif x0 then
  some 21
   else
  (jj J 0 5 0 (ajo x1) (e98 J m [1,1,1] [])))) (by simp only[ah,ajP m];rfl)
theorem ajR m x0:e98 jn m [1,1] [] (ajo x0)=Qh m x0:=
 tq (g:=fun J=>Nc (fun y0 y1=>jj J 0 4 0 (aRQ y0 y1) (e98 J m [1,1,0,1] [])) m x0) (by simp only[ah,ajQ m];rfl)
theorem ajS m x0 x1:e98 jn m [1,0,1] [] (aRR x0 x1)=GQ m x0 x1:=
 tq (g:=fun J=>(bif x0 then
  some 11
   else
  (jj J 0 3 0 (ajo x1) (e98 J m [1,1] [])))) (by simp only[ah,ajR m];rfl)
theorem arH m a0:e98 jn m [] [] ⟨[.dat 114 a0],[],0⟩=zY (m+1) a0:=
 tq (g:=fun J=>aa9 (fun y0 y1=>jj J 0 2 0 (aRR y0 y1) (e98 J m [1,0,1] [])) a0) (by simp only[ah,ajS m];rfl)
def aRS:List Nat:=[1,1,1,1,1]
def aw1:List Nat:=[1,1,1,1,0,1]
def au2:List Nat:=aw1++[0]
def au3:List Nat:=au2++[0,1]
def aRT:List Nat:=au3++[1]
def aHm:List Nat:=au3++[0,0,1,1]
def aRU:List Nat:=aHm++[1]
def aHn:List Nat:=au3++[0,0,1,0,1]
def au4:List Nat:=aHn++[0]
def aHo:List Nat:=au4++[0,1]
def aRV:List Nat:=aHo++[1]
def e64 (J:Q1) m:=evAt Tryz.prog env (ct m) J (m+1) 82 64 Tryz.f82 d70
def l64 (J:Q1) m:=loopAt Tryz.prog env (ct m) J (m+1) 82 64 Tryz.f82 d70
def Yr x0 x1 x2 x3:=stO [tsP 1 0,tsI 4 x0,tsB 5 x1,tsI 6 x2] [obX 61 x3]
def Ey x0 x1:=stO [tsP 1 0,tsI 4 x0] [obX 61 x1]
def aRW x0 x1 x2:=stO [tsP 1 0,tsI 4 x0,tsB 5 x1] [obX 61 x2]
def aHp:=stO [] []
def aAt x0:=stO [tsP 1 0] [obX 61 x0]
abbrev ajp (m M3:Nat) (rec3:Q9):Prop:=∀x0 x1,l64 jn m au2 [] M3 (Ey x0 x1)=rec3 x0 x1
abbrev aRX (m M3 M6:Nat) (rec6:Q41):Prop:=∀x0 x1 x2 x3,l64 jn m au4 [M3] M6 (Yr x0 x1 x2 x3)=rec6 x0 x1 x2 x3
theorem aeb m M3 rec3 (h3:ajp m M3 rec3) M6 rec6 (h6:aRX m M3 M6 rec6) x0 x1 x2 x3:e64 jn m aRV [M3,M6] (Yr x0 x1 x2 x3)=BH m rec3 rec6 x0 x1 x2 x3:=
 tq (g:=fun J=>(jj J 1 11 M6 (Yr x0 x1 (IntKind.wrap .i64 (x2+1)) x3) (l64 J m au4 [M3] M6))) (by simp only[ah,h6];rfl)
theorem aec m M3 rec3 (h3:ajp m M3 rec3) M6 rec6 (h6:aRX m M3 M6 rec6) x0 x1 x2 x3:e64 jn m aHo [M3,M6] (Yr x0 x1 x2 x3)=JZ m rec3 rec6 x0 x1 x2 x3:=
 tq (g:=fun J=>FT (fun y0 y1 y2 y3=>jj J 0 12 0 (Yr y0 y1 y2 y3) (e64 J m aRV [M3,M6])) x0 x1 x2 x3) (by simp only[ah,aeb m M3 rec3 h3 M6 rec6 h6];rfl)
theorem ZT m M3 rec3 (h3:ajp m M3 rec3) x0 x1:e64 jn m aRT [M3] (Ey x0 x1)=FU m rec3 x0 x1:=
 tq (g:=fun J=>(jj J 1 7 M3 (Ey (IntKind.wrap .i64 (x0+1)) x1) (l64 J m au2 [] M3))) (by simp only[ah,h3];rfl)
theorem ZU m M3 rec3 (h3:ajp m M3 rec3) x0 x1:e64 jn m aRU [M3] (Ey x0 x1)=FV m rec3 x0 x1:=
 tq (g:=fun J=>((idx (Dt.L x1 1) x0).bind fun v5=>
  ((zY m v5).bind fun r6=>
  (bif (r6 !=0) then
  some r6
  else
  (jj J 0 8 0 (Ey x0 x1) (e64 J m aRT [M3])))))) (by simp only[ah,ZT m M3 rec3 h3];rfl)
theorem aed m M3 rec3 (h3:ajp m M3 rec3) x0 x1 x2:e64 jn m aHm [M3] (aRW x0 x1 x2)=J2 m rec3 x0 x1 x2:=
 tq (g:=fun J=>(bif (Bool.not x1) then
  some 9
   else
  (jj J 0 16 0 (Ey x0 x2) (e64 J m aRU [M3])))) (by simp only[ah,ZU m M3 rec3 h3];rfl)
theorem KS m M3 rec3 (h3:ajp m M3 rec3):∀M6 x0 x1 x2 x3,l64 jn m au4 [M3] M6 (Yr x0 x1 x2 x3)=nJ m rec3 M6 x0 x1 x2 x3
 |0,_,_,_,_=>rfl
 | M6+1,x0,x1,x2,x3=>
   tl (g:=fun J=>(bif (decide (x2<x0)) then
  (jj J 0 13 0 (Yr x0 x1 x2 x3) (e64 J m aHo [M3,M6]))
   else
  (jj J 0 14 0 (aRW x0 x1 x3) (e64 J m aHm [M3])))) (by simp only[ah,aec m M3 rec3 h3 M6 (nJ m rec3 M6) (KS m M3 rec3 h3 M6),aed m M3 rec3 h3];rfl)
theorem aee m M3 rec3 (h3:ajp m M3 rec3) x0 x1 x2 x3:e64 jn m aHn [M3] (Yr x0 x1 x2 x3)=Vj m rec3 x0 x1 x2 x3:=
 tq (g:=fun J=>(jj J 1 11 (Nat.succ m) (Yr x0 x1 x2 x3) (l64 J m au4 [M3] (Nat.succ m)))) (by simp only[ah,KS m M3 rec3 h3];rfl)
theorem aef m M3 rec3 (h3:ajp m M3 rec3) x0 x1:e64 jn m au3 [M3] (Ey x0 x1)=J3 m rec3 x0 x1:=
 tq (g:=fun J=>((idx (Dt.L x1 1) x0).bind fun v1=>
  ((bR m (Dt.S v1 0)).bind fun r2=>
  (jj J 0 11 0 (Yr x0 r2 0 x1) (e64 J m aHn [M3]))))) (by simp only[ah,aee m M3 rec3 h3];rfl)
theorem ZV m:e64 jn m aRS [] aHp=QV m:=
 tq (g:=fun J=>some 0) (by rfl)
theorem KU m:∀M3 x0 x1,l64 jn m au2 [] M3 (Ey x0 x1)=qN m M3 x0 x1
 |0,_,_=>rfl
 | M3+1,x0,x1=>
   tl (g:=fun J=>(bif (decide (x0<(List.length (Dt.L x1 1):Int))) then
  (jj J 0 9 0 (Ey x0 x1) (e64 J m au3 [M3]))
   else
  (jj J 0 19 0 aHp (e64 J m aRS [])))) (by simp only[ah,aef m M3 (qN m M3) (KU m M3),ZV m];rfl)
theorem aeg m x0 x1:e64 jn m aw1 [] (Ey x0 x1)=Vk m x0 x1:=
 tq (g:=fun J=>(jj J 1 7 (Nat.succ m) (Ey x0 x1) (l64 J m au2 [] (Nat.succ m)))) (by simp only[ah,KU m];rfl)
theorem aeh m x0:e64 jn m [1,1,1,1] [] (aAt x0)=Vl m x0:=
 tq (g:=fun J=>(jj J 0 7 0 (Ey 0 x0) (e64 J m aw1 []))) (by simp only[ah,aeg m];rfl)
theorem aei m x0:e64 jn m [1,1,1] [] (aAt x0)=J4 m x0:=
 tq (g:=fun J=>(bif (decide (32<(List.length (Dt.L x0 1):Int))) then
  some 21
   else
  (jj J 0 6 0 (aAt x0) (e64 J m [1,1,1,1] [])))) (by simp only[ah,aeh m];rfl)
theorem alX m a0:e64 jn m [] [] ⟨[.dat 61 a0],[],0⟩=wh (m+1) a0:=
 tq (g:=fun J=>((aV m (Dt.fld a0 0)).bind fun r0=>
  (bif (r0 !=0) then
  some r0
  else
  (jj J 0 4 0 (aAt a0) (e64 J m [1,1,1] []))))) (by simp only[ah,aei m];rfl)
def aHq:List Nat:=[1,1,1,1,1]
def arI:List Nat:=[1,1,1,1,1,1]
def aHr:List Nat:=[1,1,1,1,0,1]
def aHs:List Nat:=arI++[1]
def aHt:List Nat:=arI++[0,1]
def e100 (J:Q1) m:=evAt Tryz.prog env (ct m) J (m+1) 118 132 Tryz.f118 d70
def aHu:=stO [] []
def aHv x0:=stO [tsB 131 x0] []
def aHw x0:=stO [tsP 1 0] [obX 118 x0]
def aHx x0 x1:=stO [tsP 1 0,tsB 4 x0] [obX 118 x1]
def aHy x0 x1 x2:=stO [tsP 1 0,tsB 4 x0,tsB 93 x1] [obX 118 x2]
def aHz x0 x1 x2:=stO [tsP 1 0,tsB 3 x0,tsB 4 x1] [obX 118 x2]
def arJ x0 x1:=stO [tsP 1 0,tsB 3 x0] [obX 118 x1]
def aHA x0 x1 x2:=stO [tsP 1 0,tsB 3 x0,tsB 35 x1] [obX 118 x2]
theorem ajT m:e100 jn m aHs [] aHu=Qi m:=
 tq (g:=fun J=>some 0) (by rfl)
theorem ajU m x0:e100 jn m aHt [] (aHv x0)=Qj m x0:=
 tq (g:=fun J=>(bif x0 then
  some 1
   else
  (jj J 0 13 0 aHu (e100 J m aHs [])))) (by simp only[ah,ajT m];rfl)
theorem ajV m x0:e100 jn m arI [] (aHw x0)=GR m x0:=
 tq (g:=fun J=>Nf (fun y0=>jj J 0 12 0 (aHv y0) (e100 J m aHt [])) x0) (by simp only[ah,ajU m];rfl)
theorem ajW m x0 x1:e100 jn m aHq [] (aHx x0 x1)=GU m x0 x1:=
 tq (g:=fun J=>Ng (fun y0=>jj J 0 11 0 (aHw y0) (e100 J m arI [])) m x0 x1) (by simp only[ah,ajV m];rfl)
theorem ajX m x0 x1 x2:e100 jn m aHr [] (aHy x0 x1 x2)=Qk m x0 x1 x2:=
 tq (g:=fun J=>(bif x1 then
  some 21
   else
  (jj J 0 7 0 (aHx x0 x2) (e100 J m aHq [])))) (by simp only[ah,ajW m];rfl)
theorem ajY m x0 x1 x2:e100 jn m [1,1,1,1] [] (aHz x0 x1 x2)=GV m x0 x1 x2:=
 tq (g:=fun J=>Nh (fun y0 y1 y2=>jj J 0 6 0 (aHy y0 y1 y2) (e100 J m aHr [])) m x0 x1 x2) (by simp only[ah,ajX m];rfl)
theorem ajZ m x0 x1:e100 jn m [1,1,1] [] (arJ x0 x1)=Ql m x0 x1:=
 tq (g:=fun J=>Ni (fun y0 y1 y2=>jj J 0 5 0 (aHz y0 y1 y2) (e100 J m [1,1,1,1] [])) x0 x1) (by simp only[ah,ajY m];rfl)
theorem aj0 m x0 x1 x2:e100 jn m [1,1,0,1] [] (aHA x0 x1 x2)=Qm m x0 x1 x2:=
 tq (g:=fun J=>(bif x1 then
  some 11
   else
  (jj J 0 4 0 (arJ x0 x2) (e100 J m [1,1,1] [])))) (by simp only[ah,ajZ m];rfl)
theorem aj1 m x0 x1:e100 jn m [1,1] [] (arJ x0 x1)=Qn m x0 x1:=
 tq (g:=fun J=>Nj (fun y0 y1 y2=>jj J 0 3 0 (aHA y0 y1 y2) (e100 J m [1,1,0,1] [])) x0 x1) (by simp only[ah,aj0 m];rfl)
theorem arK m a0:e100 jn m [] [] ⟨[.dat 118 a0],[],0⟩=zZ (m+1) a0:=
 tq (g:=fun J=>abb (fun y0 y1=>jj J 0 2 0 (arJ y0 y1) (e100 J m [1,1] [])) a0) (by simp only[ah,aj1 m];rfl)
def aHB:List Nat:=[1,1,1,1,1]
def aRY:List Nat:=[1,1,1,1,1,1]
def aHC:List Nat:=[1,1,1,1,0,1]
def aw2:List Nat:=[1,1,1,1,1,0,1]
def au5:List Nat:=aw2++[0]
def au6:List Nat:=au5++[0,1]
def aRZ:List Nat:=au6++[1]
def aHD:List Nat:=au6++[0,0,1,1]
def aR0:List Nat:=aHD++[1]
def aHE:List Nat:=au6++[0,0,1,0,1]
def au7:List Nat:=aHE++[0]
def aHF:List Nat:=au7++[0,1]
def aR1:List Nat:=aHF++[1]
def e65 (J:Q1) m:=evAt Tryz.prog env (ct m) J (m+1) 83 75 Tryz.f83 d70
def l65 (J:Q1) m:=loopAt Tryz.prog env (ct m) J (m+1) 83 75 Tryz.f83 d70
def LX x0 x1 x2 x3:=stO [tsP 1 0,tsI 4 x0,tsB 5 x1,tsI 6 x2] [obX 64 x3]
def Ez x0 x1:=stO [tsP 1 0,tsI 4 x0] [obX 64 x1]
def aHG x0 x1 x2:=stO [tsP 1 0,tsI 4 x0,tsB 5 x1] [obX 64 x2]
def aHH:=stO [] []
def aAu x0:=stO [tsP 1 0] [obX 64 x0]
def aR2 x0 x1:=stO [tsP 1 0,tsB 28 x0] [obX 64 x1]
def aR3 x0 x1:=stO [tsP 1 0,(3,.dat 23 (.int x0))] [obX 64 x1]
abbrev ajq (m M5:Nat) (rec5:Q9):Prop:=∀x0 x1,l65 jn m au5 [] M5 (Ez x0 x1)=rec5 x0 x1
abbrev aR4 (m M5 M8:Nat) (rec8:Q41):Prop:=∀x0 x1 x2 x3,l65 jn m au7 [M5] M8 (LX x0 x1 x2 x3)=rec8 x0 x1 x2 x3
theorem WM m M5 rec5 (h5:ajq m M5 rec5) M8 rec8 (h8:aR4 m M5 M8 rec8) x0 x1 x2 x3:e65 jn m aR1 [M5,M8] (LX x0 x1 x2 x3)=wL m rec5 rec8 x0 x1 x2 x3:=
 tq (g:=fun J=>(jj J 1 13 M8 (LX x0 x1 (IntKind.wrap .i64 (x2+1)) x3) (l65 J m au7 [M5] M8))) (by simp only[ah,h8];rfl)
theorem ZW m M5 rec5 (h5:ajq m M5 rec5) M8 rec8 (h8:aR4 m M5 M8 rec8) x0 x1 x2 x3:e65 jn m aHF [M5,M8] (LX x0 x1 x2 x3)=FW m rec5 rec8 x0 x1 x2 x3:=
 tq (g:=fun J=>Dk (fun y0 y1 y2 y3=>jj J 0 14 0 (LX y0 y1 y2 y3) (e65 J m aR1 [M5,M8])) x0 x1 x2 x3) (by simp only[ah,WM m M5 rec5 h5 M8 rec8 h8];rfl)
theorem WO m M5 rec5 (h5:ajq m M5 rec5) x0 x1:e65 jn m aRZ [M5] (Ez x0 x1)=Dm m rec5 x0 x1:=
 tq (g:=fun J=>(jj J 1 9 M5 (Ez (IntKind.wrap .i64 (x0+1)) x1) (l65 J m au5 [] M5))) (by simp only[ah,h5];rfl)
theorem WQ m M5 rec5 (h5:ajq m M5 rec5) x0 x1:e65 jn m aR0 [M5] (Ez x0 x1)=Dn m rec5 x0 x1:=
 tq (g:=fun J=>((idx (Dt.L x1 2) x0).bind fun v6=>
  ((zZ m v6).bind fun r7=>
  (bif (r7 !=0) then
  some r7
  else
  (jj J 0 10 0 (Ez x0 x1) (e65 J m aRZ [M5])))))) (by simp only[ah,WO m M5 rec5 h5];rfl)
theorem WR m M5 rec5 (h5:ajq m M5 rec5) x0 x1 x2:e65 jn m aHD [M5] (aHG x0 x1 x2)=wM m rec5 x0 x1 x2:=
 tq (g:=fun J=>(bif (Bool.not x1) then
  some 9
   else
  (jj J 0 18 0 (Ez x0 x2) (e65 J m aR0 [M5])))) (by simp only[ah,WQ m M5 rec5 h5];rfl)
theorem Hw m M5 rec5 (h5:ajq m M5 rec5):∀M8 x0 x1 x2 x3,l65 jn m au7 [M5] M8 (LX x0 x1 x2 x3)=oD m rec5 M8 x0 x1 x2 x3
 |0,_,_,_,_=>rfl
 | M8+1,x0,x1,x2,x3=>
   tl (g:=fun J=>(bif (decide (x2<x0)) then
  (jj J 0 15 0 (LX x0 x1 x2 x3) (e65 J m aHF [M5,M8]))
   else
  (jj J 0 16 0 (aHG x0 x1 x3) (e65 J m aHD [M5])))) (by simp only[ah,ZW m M5 rec5 h5 M8 (oD m rec5 M8) (Hw m M5 rec5 h5 M8),WR m M5 rec5 h5];rfl)
theorem ZX m M5 rec5 (h5:ajq m M5 rec5) x0 x1 x2 x3:e65 jn m aHE [M5] (LX x0 x1 x2 x3)=FY m rec5 x0 x1 x2 x3:=
 tq (g:=fun J=>(jj J 1 13 (Nat.succ m) (LX x0 x1 x2 x3) (l65 J m au7 [M5] (Nat.succ m)))) (by simp only[ah,Hw m M5 rec5 h5];rfl)
theorem ZY m M5 rec5 (h5:ajq m M5 rec5) x0 x1:e65 jn m au6 [M5] (Ez x0 x1)=F3 m rec5 x0 x1:=
 tq (g:=fun J=>((idx (Dt.L x1 2) x0).bind fun v2=>
  ((bR m (Dt.S v2 0)).bind fun r3=>
  (jj J 0 13 0 (LX x0 r3 0 x1) (e65 J m aHE [M5]))))) (by simp only[ah,ZX m M5 rec5 h5];rfl)
theorem WS m:e65 jn m aRY [] aHH=OV m:=
 tq (g:=fun J=>some 0) (by rfl)
theorem Hy m:∀M5 x0 x1,l65 jn m au5 [] M5 (Ez x0 x1)=kI m M5 x0 x1
 |0,_,_=>rfl
 | M5+1,x0,x1=>
   tl (g:=fun J=>(bif (decide (x0<(List.length (Dt.L x1 2):Int))) then
  (jj J 0 11 0 (Ez x0 x1) (e65 J m au6 [M5]))
   else
  (jj J 0 21 0 aHH (e65 J m aRY [])))) (by simp only[ah,ZY m M5 (kI m M5) (Hy m M5),WS m];rfl)
theorem Z0 m x0 x1:e65 jn m aw2 [] (Ez x0 x1)=F4 m x0 x1:=
 tq (g:=fun J=>(jj J 1 9 (Nat.succ m) (Ez x0 x1) (l65 J m au5 [] (Nat.succ m)))) (by simp only[ah,Hy m];rfl)
theorem Z4 m x0:e65 jn m aHB [] (aAu x0)=F5 m x0:=
 tq (g:=fun J=>(jj J 0 9 0 (Ez 0 x0) (e65 J m aw2 []))) (by simp only[ah,Z0 m];rfl)
theorem Z5 m x0 x1:e65 jn m aHC [] (aR2 x0 x1)=F6 m x0 x1:=
 tq (g:=fun J=>(bif x0 then
  some 21
   else
  (jj J 0 8 0 (aAu x1) (e65 J m aHB [])))) (by simp only[ah,Z4 m];rfl)
theorem Z6 m x0:e65 jn m [1,1,1,1] [] (aAu x0)=F7 m x0:=
 tq (g:=fun J=>Dp (fun y0 y1=>jj J 0 7 0 (aR2 y0 y1) (e65 J m aHC [])) x0) (by simp only[ah,Z5 m];rfl)
theorem Z7 m x0 x1:e65 jn m [1,1,1] [] (aR3 x0 x1)=yO m x0 x1:=
 tq (g:=fun J=>(bif (x0 !=0) then
  some x0
   else
  (jj J 0 6 0 (aAu x1) (e65 J m [1,1,1,1] [])))) (by simp only[ah,Z6 m];rfl)
theorem aj2 m a0:e65 jn m [] [] ⟨[.dat 64 a0],[],0⟩=oN (m+1) a0:=
 tq (g:=fun J=>Nk (fun y0 y1=>jj J 0 4 0 (aR3 y0 y1) (e65 J m [1,1,1] [])) m a0) (by simp only[ah,Z7 m];rfl)
def aHI:List Nat:=[1,0,1,0,0,1]
def aWl:List Nat:=aHI++[1]
def aWm:List Nat:=aHI++[0,0,1,1]
def aWn:List Nat:=aHI++[0,0,1,0,1]
def e8 (J:Q1) m:=evAt Tryz.prog env (ct m) J (m+1) 15 51 Tryz.f15 d70
def l8 (J:Q1) m:=loopAt Tryz.prog env (ct m) J (m+1) 15 51 Tryz.f15 d70
def apc x0 x1 x2:=stO [tsL 0 22 x0,tsB 1 x1,tsI 5 x2] []
def aWo x0 x1 x2 x3:=stO [tsL 0 22 x0,tsB 1 x1,tsI 5 x2,tsP 6 0] [obX 71 x3]
def aWp x0 x1 x2 x3 x4:=stO [tsL 0 22 x0,tsB 1 x1,tsI 5 x2,tsP 6 0,tsB 45 x3] [obX 71 x4]
def aWq:=stO [] []
abbrev aNc (m M1:Nat) (rec1:Q42):Prop:=∀x0 x1 x2,l8 jn m [1,0,1,0] [] M1 (apc x0 x1 x2)=rec1 x0 x1 x2
theorem Z8 m M1 rec1 (h1:aNc m M1 rec1) x0 x1 x2:e8 jn m aWl [M1] (apc x0 x1 x2)=F8 m (dR m) rec1 x0 x1 x2:=
 tq (g:=fun J=>(jj J 1 2 M1 (apc x0 x1 (IntKind.wrap .i64 (x2+1))) (l8 J m [1,0,1,0] [] M1))) (by simp only[ah,h1];rfl)
theorem Z9 m M1 rec1 (h1:aNc m M1 rec1) x0 x1 x2 x3:e8 jn m aWm [M1] (aWo x0 x1 x2 x3)=F9 m (dR m) rec1 x0 x1 x2 x3:=
 tq (g:=fun J=>((dR m x3).bind fun r1=>
  (bif (r1 !=0) then
  some r1
  else
  (jj J 0 3 0 (apc x0 x1 x2) (e8 J m aWl [M1]))))) (by simp only[ah,Z8 m M1 rec1 h1];rfl)
theorem aac m M1 rec1 (h1:aNc m M1 rec1) x0 x1 x2 x3 x4:e8 jn m aWn [M1] (aWp x0 x1 x2 x3 x4)=yP m (dR m) rec1 x0 x1 x2 x3 x4:=
 tq (g:=fun J=>(bif x3 then
  some 21
   else
  (jj J 0 7 0 (aWo x0 x1 x2 x4) (e8 J m aWm [M1])))) (by simp only[ah,Z9 m M1 rec1 h1];rfl)
theorem aad m M1 rec1 (h1:aNc m M1 rec1) x0 x1 x2:e8 jn m aHI [M1] (apc x0 x1 x2)=Ga m (dR m) rec1 x0 x1 x2:=
 tq (g:=fun J=>Dq (fun y0 y1 y2 y3 y4=>jj J 0 6 0 (aWp y0 y1 y2 y3 y4) (e8 J m aWn [M1])) m x0 x1 x2) (by simp only[ah,aac m M1 rec1 h1];rfl)
theorem aae m:e8 jn m [1,1] [] aWq=QW m (dR m):=
 tq (g:=fun J=>some 0) (by rfl)
theorem Hz m:∀M1 x0 x1 x2,l8 jn m [1,0,1,0] [] M1 (apc x0 x1 x2)=kJ m (dR m) M1 x0 x1 x2
 |0,_,_,_=>rfl
 | M1+1,x0,x1,x2=>
   tl (g:=fun J=>(bif (decide (x2<(List.length x0:Int))) then
  (jj J 0 4 0 (apc x0 x1 x2) (e8 J m aHI [M1]))
   else
  (jj J 0 10 0 aWq (e8 J m [1,1] [])))) (by simp only[ah,aad m M1 (kJ m (dR m) M1) (Hz m M1),aae m];rfl)
theorem aaf m x0 x1 x2:e8 jn m [1,0,1] [] (apc x0 x1 x2)=QX m (dR m) x0 x1 x2:=
 tq (g:=fun J=>(jj J 1 2 (Nat.succ m) (apc x0 x1 x2) (l8 J m [1,0,1,0] [] (Nat.succ m)))) (by simp only[ah,Hz m];rfl)
theorem aj3 m a0 a1:e8 jn m [] [] ⟨[.dat 22 (.lst a0),.dat 4 (.bool a1)],[],0⟩=aF (m+1) a0 a1:=
 tq (g:=fun J=>(jj J 0 2 0 (apc a0 a1 0) (e8 J m [1,0,1] []))) (by simp only[ah,aaf m];rfl)
def aR5:List Nat:=[1,0,1,0,1,1,1,1,1,1,1,1,1,1,1]
def e25 (J:Q1) m:=evAt Tryz.prog env (ct m) J (m+1) 36 55 Tryz.f36 d70
def aR6 x0:=stO [tsP 1 0] [obX 71 x0]
def aR7 x0 x1 x2:=stO [tsP 1 0,tsI 4 x0,tsB 30 x1] [obX 71 x2]
theorem aej m x0:e25 jn m [1,1] [] (aR6 x0)=J5 m (gY m) (gZ m) x0:=
 tq (g:=fun J=>((oM m x0).bind fun r10=>
  some r10)) (by rfl)
theorem aek m x0 x1 x2:e25 jn m aR5 [] (aR7 x0 x1 x2)=BI m (gY m) (gZ m) x0 x1 x2:=
 tq (g:=fun J=>Gb (fun y0=>jj J 0 23 0 (aR6 y0) (e25 J m [1,1] [])) m (gY m) (gZ m) x0 x1 x2) (by simp only[ah,aej m];rfl)
theorem alY m a0:e25 jn m [] [] ⟨[.dat 71 a0],[],0⟩=dR (m+1) a0:=
 tq (g:=fun J=>Qo (fun y0 y1 y2=>jj J 0 14 0 (aR7 y0 y1 y2) (e25 J m aR5 [])) m a0) (by simp only[ah,aek m];rfl)
def aR8:List Nat:=[1,1,1,1,1]
def aR9:List Nat:=[1,1,1,1,1,1]
def aSa:List Nat:=[1,1,1,1,0,1]
def aSb:List Nat:=[1,1,1,0,1,0,1]
def aSc:List Nat:=[1,1,1,0,1,0,0,1]
def e66 (J:Q1) m:=evAt Tryz.prog env (ct m) J (m+1) 84 48 Tryz.f84 d70
def ajr x0:=stO [tsP 3 0] [obX 66 x0]
def aSd x0 x1:=stO [tsP 3 0,tsB 27 x0] [obX 66 x1]
def aSe x0 x1:=stO [tsP 3 0,tsB 40 x0] [obX 66 x1]
def aSf x0 x1:=stO [tsP 1 0,tsP 3 1] [obX 71 x0,obX 66 x1]
theorem aag m x0:e66 jn m aSb [] (ajr x0)=tQ m (aF m) x0:=
 tq (g:=fun J=>tQ m (aF m) x0) (by rfl)
theorem aah m x0 x1:e66 jn m aSc [] (aSd x0 x1)=yQ m (aF m) x0 x1:=
 tq (g:=fun J=>(bif x0 then
  some 21
   else
  (jj J 0 7 0 (ajr x1) (e66 J m aSb [])))) (by simp only[ah,aag m];rfl)
theorem aai m x0:e66 jn m aR9 [] (ajr x0)=yR m (aF m) x0:=
 tq (g:=fun J=>yR m (aF m) x0) (by rfl)
theorem aaj m x0:e66 jn m aR8 [] (ajr x0)=Gc m (aF m) x0:=
 tq (g:=fun J=>((bR m (Dt.S x0 3)).bind fun r3=>
  (bif (Bool.not r3) then
  some 9
  else
  (jj J 0 12 0 (ajr x0) (e66 J m aR9 []))))) (by simp only[ah,aai m];rfl)
theorem aak m x0 x1:e66 jn m aSa [] (aSe x0 x1)=yS m (aF m) x0 x1:=
 tq (g:=fun J=>(bif x0 then
  some 10
   else
  (jj J 0 10 0 (ajr x1) (e66 J m aR8 [])))) (by simp only[ah,aaj m];rfl)
theorem aal m x0:e66 jn m [1,1,1,1] [] (ajr x0)=Gd m (aF m) x0:=
 tq (g:=fun J=>Dr (fun y0 y1=>jj J 0 9 0 (aSe y0 y1) (e66 J m aSa [])) m x0) (by simp only[ah,aak m];rfl)
theorem aam m x0 x1:e66 jn m [1,1,1] [] (aSf x0 x1)=Gf m (aF m) x0 x1:=
 tq (g:=fun J=>Du (fun y0 y1=>jj J 0 6 0 (aSd y0 y1) (e66 J m aSc [])) (fun y0=>jj J 0 8 0 (ajr y0) (e66 J m [1,1,1,1] [])) x0 x1) (by simp only[ah,aah m,aal m];rfl)
theorem aj4 m a0:e66 jn m [] [] ⟨[.dat 71 a0],[],0⟩=gY (m+1) a0:=
 tq (g:=fun J=>((eF m (Dt.S (Dt.fld a0 12) 0)).bind fun r0=>
  (bif (Bool.not r0) then
  some 9
  else
  (jj J 0 4 0 (aSf a0 (Dt.fld a0 12)) (e66 J m [1,1,1] []))))) (by simp only[ah,aam m];rfl)
def aAv:List Nat:=[1,1,0,1,0]
def au8:List Nat:=[1,1,0,1,0,0,1]
def aSg:List Nat:=au8++[1]
def aHJ:List Nat:=au8++[0,0,1,1]
def aSh:List Nat:=aHJ++[1]
def aHK:List Nat:=au8++[0,0,1,0,1]
def au9:List Nat:=aHK++[0]
def aHL:List Nat:=au9++[0,1]
def aSi:List Nat:=aHL++[1]
def e67 (J:Q1) m:=evAt Tryz.prog env (ct m) J (m+1) 85 57 Tryz.f85 d70
def l67 (J:Q1) m:=loopAt Tryz.prog env (ct m) J (m+1) 85 57 Tryz.f85 d70
def Yt x0 x1 x2 x3:=stO [tsL 0 67 x0,tsI 3 x1,tsB 4 x2,tsI 5 x3] []
def EA x0 x1:=stO [tsL 0 67 x0,tsI 3 x1] []
def aSj x0 x1 x2:=stO [tsL 0 67 x0,tsI 3 x1,tsB 4 x2] []
def aHM:=stO [] []
def aSk x0:=stO [tsL 0 67 x0] []
def aSl x0 x1:=stO [tsL 0 67 x0,tsB 14 x1] []
abbrev ajs (m M3:Nat) (rec3:Q4):Prop:=∀x0 x1,l67 jn m aAv [] M3 (EA x0 x1)=rec3 x0 x1
abbrev aSm (m M3 M6:Nat) (rec6:Q56):Prop:=∀x0 x1 x2 x3,l67 jn m au9 [M3] M6 (Yt x0 x1 x2 x3)=rec6 x0 x1 x2 x3
theorem aan m M3 rec3 (h3:ajs m M3 rec3) M6 rec6 (h6:aSm m M3 M6 rec6) x0 x1 x2 x3:e67 jn m aSi [M3,M6] (Yt x0 x1 x2 x3)=yT m (aF m) rec3 rec6 x0 x1 x2 x3:=
 tq (g:=fun J=>(jj J 1 8 M6 (Yt x0 x1 x2 (IntKind.wrap .i64 (x3+1))) (l67 J m au9 [M3] M6))) (by simp only[ah,h6];rfl)
theorem aao m M3 rec3 (h3:ajs m M3 rec3) M6 rec6 (h6:aSm m M3 M6 rec6) x0 x1 x2 x3:e67 jn m aHL [M3,M6] (Yt x0 x1 x2 x3)=Gg m (aF m) rec3 rec6 x0 x1 x2 x3:=
 tq (g:=fun J=>Dv (fun y0 y1 y2 y3=>jj J 0 9 0 (Yt y0 y1 y2 y3) (e67 J m aSi [M3,M6])) x0 x1 x2 x3) (by simp only[ah,aan m M3 rec3 h3 M6 rec6 h6];rfl)
theorem WT m M3 rec3 (h3:ajs m M3 rec3) x0 x1:e67 jn m aSg [M3] (EA x0 x1)=Dw m (aF m) rec3 x0 x1:=
 tq (g:=fun J=>(jj J 1 4 M3 (EA x0 (IntKind.wrap .i64 (x1+1))) (l67 J m aAv [] M3))) (by simp only[ah,h3];rfl)
theorem WU m M3 rec3 (h3:ajs m M3 rec3) x0 x1:e67 jn m aSh [M3] (EA x0 x1)=Dx m (aF m) rec3 x0 x1:=
 tq (g:=fun J=>((idx x0 x1).bind fun v4=>
  ((aF m (Dt.L v4 1) false).bind fun r5=>
  (bif (r5 !=0) then
  some r5
  else
  (jj J 0 5 0 (EA x0 x1) (e67 J m aSg [M3])))))) (by simp only[ah,WT m M3 rec3 h3];rfl)
theorem aap m M3 rec3 (h3:ajs m M3 rec3) x0 x1 x2:e67 jn m aHJ [M3] (aSj x0 x1 x2)=Gh m (aF m) rec3 x0 x1 x2:=
 tq (g:=fun J=>(bif (Bool.not x2) then
  some 9
   else
  (jj J 0 13 0 (EA x0 x1) (e67 J m aSh [M3])))) (by simp only[ah,WU m M3 rec3 h3];rfl)
theorem HV m M3 rec3 (h3:ajs m M3 rec3):∀M6 x0 x1 x2 x3,l67 jn m au9 [M3] M6 (Yt x0 x1 x2 x3)=kK m (aF m) rec3 M6 x0 x1 x2 x3
 |0,_,_,_,_=>rfl
 | M6+1,x0,x1,x2,x3=>
   tl (g:=fun J=>(bif (decide (x3<x1)) then
  (jj J 0 10 0 (Yt x0 x1 x2 x3) (e67 J m aHL [M3,M6]))
   else
  (jj J 0 11 0 (aSj x0 x1 x2) (e67 J m aHJ [M3])))) (by simp only[ah,aao m M3 rec3 h3 M6 (kK m (aF m) rec3 M6) (HV m M3 rec3 h3 M6),aap m M3 rec3 h3];rfl)
theorem aaq m M3 rec3 (h3:ajs m M3 rec3) x0 x1 x2 x3:e67 jn m aHK [M3] (Yt x0 x1 x2 x3)=QY m (aF m) rec3 x0 x1 x2 x3:=
 tq (g:=fun J=>(jj J 1 8 (Nat.succ m) (Yt x0 x1 x2 x3) (l67 J m au9 [M3] (Nat.succ m)))) (by simp only[ah,HV m M3 rec3 h3];rfl)
theorem aar m M3 rec3 (h3:ajs m M3 rec3) x0 x1:e67 jn m au8 [M3] (EA x0 x1)=Gi m (aF m) rec3 x0 x1:=
 tq (g:=fun J=>((idx x0 x1).bind fun v0=>
  ((bR m (Dt.S v0 0)).bind fun r1=>
  (jj J 0 8 0 (Yt x0 x1 r1 0) (e67 J m aHK [M3]))))) (by simp only[ah,aaq m M3 rec3 h3];rfl)
theorem WX m:e67 jn m [1,1,1] [] aHM=OW m (aF m):=
 tq (g:=fun J=>some 0) (by rfl)
theorem HY m:∀M3 x0 x1,l67 jn m aAv [] M3 (EA x0 x1)=oF m (aF m) M3 x0 x1
 |0,_,_=>rfl
 | M3+1,x0,x1=>
   tl (g:=fun J=>(bif (decide (x1<(List.length x0:Int))) then
  (jj J 0 6 0 (EA x0 x1) (e67 J m au8 [M3]))
   else
  (jj J 0 16 0 aHM (e67 J m [1,1,1] [])))) (by simp only[ah,aar m M3 (oF m (aF m) M3) (HY m M3),WX m];rfl)
theorem aas m x0 x1:e67 jn m [1,1,0,1] [] (EA x0 x1)=QZ m (aF m) x0 x1:=
 tq (g:=fun J=>(jj J 1 4 (Nat.succ m) (EA x0 x1) (l67 J m aAv [] (Nat.succ m)))) (by simp only[ah,HY m];rfl)
theorem aat m x0:e67 jn m [1,1] [] (aSk x0)=Ra m (aF m) x0:=
 tq (g:=fun J=>(jj J 0 4 0 (EA x0 0) (e67 J m [1,1,0,1] []))) (by simp only[ah,aas m];rfl)
theorem aau m x0 x1:e67 jn m [1,0,1] [] (aSl x0 x1)=yU m (aF m) x0 x1:=
 tq (g:=fun J=>(bif x1 then
  some 21
   else
  (jj J 0 3 0 (aSk x0) (e67 J m [1,1] [])))) (by simp only[ah,aat m];rfl)
theorem aj5 m a0:e67 jn m [] [] ⟨[.dat 67 (.lst a0)],[],0⟩=gZ (m+1) a0:=
 tq (g:=fun J=>Nl (fun y0 y1=>jj J 0 2 0 (aSl y0 y1) (e67 J m [1,0,1] [])) a0) (by simp only[ah,aau m];rfl)
def e1 (J:Q1) m:=evAt Tryz.prog env (ct m) J (m+1) 5 8 Tryz.f5 d70
def l1 (J:Q1) m:=loopAt Tryz.prog env (ct m) J (m+1) 5 8 Tryz.f5 d70
def aWr x0:=stO [tsL 0 22 x0] []
theorem ael m x0:e1 jn m [1,1] [] (aWr x0)=BJ m x0:=
 tq (g:=fun J=>BJ m x0) (by rfl)
theorem alZ m a0:e1 jn m [] [] ⟨[.dat 22 (.lst a0)],[],0⟩=rJ (m+1) a0:=
 tq (g:=fun J=>((bB m a0 1).bind fun r0=>
  (bif (decide (32<r0)) then
  some 2
  else
  (jj J 0 3 0 (aWr a0) (e1 J m [1,1] []))))) (by simp only[ah,ael m];rfl)
def arL:List Nat:=[1,1,0,1,0]
def arM:List Nat:=[1,1,0,1,0,0,1,1]
def aHN:List Nat:=arM++[1]
def aHO:List Nat:=arM++[0,0,1,1]
def aav (J:Q0) m:=evAt Tryz.prog env (ct m) J (m+1) 242 39 Tryz.f242 d17
def aNd (J:Q0) m:=loopAt Tryz.prog env (ct m) J (m+1) 242 39 Tryz.f242 d17
def LY x0 x1 x2:=stO [tsS 0 x0,tsI 18 x1,tsI 19 x2] []
def aHP x0 x1 x2 x3:=stO [tsS 0 x0,tsI 18 x1,tsI 19 x2,tsB 37 x3] []
def aHQ:=stO [] []
def aHR x0:=stO [tsS 0 x0] []
def aHS x0 x1:=stO [tsS 0 x0,tsB 16 x1] []
abbrev aw3 (m M3:Nat) (rec3:Q30):Prop:=∀x0 x1 x2,aNd jn m arL [] M3 (LY x0 x1 x2)=rec3 x0 x1 x2
theorem aaw m M3 rec3 (h3:aw3 m M3 rec3) x0 x1 x2:aav jn m aHN [M3] (LY x0 x1 x2)=kL m rec3 x0 x1 x2:=
 tq (g:=fun J=>(jj J 1 4 M3 (LY x0 x1 (IntKind.wrap .i64 (x2+1))) (aNd J m arL [] M3))) (by simp only[ah,h3];rfl)
theorem aax m M3 rec3 (h3:aw3 m M3 rec3) x0 x1 x2 x3:aav jn m aHO [M3] (aHP x0 x1 x2 x3)=kM m rec3 x0 x1 x2 x3:=
 tq (g:=fun J=>(bif x3 then
  some false
   else
  (jj J 0 8 0 (LY x0 x1 x2) (aav J m aHN [M3])))) (by simp only[ah,aaw m M3 rec3 h3];rfl)
theorem aay m M3 rec3 (h3:aw3 m M3 rec3) x0 x1 x2:aav jn m arM [M3] (LY x0 x1 x2)=kN m rec3 x0 x1 x2:=
 tq (g:=fun J=>iW (fun y0 y1 y2 y3=>jj J 0 7 0 (aHP y0 y1 y2 y3) (aav J m aHO [M3])) x0 x1 x2) (by simp only[ah,aax m M3 rec3 h3];rfl)
theorem aaz m:aav jn m [1,1,1] [] aHQ=kP m:=
 tq (g:=fun J=>some true) (by rfl)
theorem HZ m:∀M3 x0 x1 x2,aNd jn m arL [] M3 (LY x0 x1 x2)=kQ m M3 x0 x1 x2
 |0,_,_,_=>rfl
 | M3+1,x0,x1,x2=>
   tl (g:=fun J=>(bif (decide (x2<x1)) then
  (jj J 0 5 0 (LY x0 x1 x2) (aav J m arM [M3]))
   else
  (jj J 0 9 0 aHQ (aav J m [1,1,1] [])))) (by simp only[ah,aay m M3 (kQ m M3) (HZ m M3),aaz m];rfl)
theorem aaA m x0 x1 x2:aav jn m [1,1,0,1] [] (LY x0 x1 x2)=kR m x0 x1 x2:=
 tq (g:=fun J=>(jj J 1 4 (Nat.succ m) (LY x0 x1 x2) (aNd J m arL [] (Nat.succ m)))) (by simp only[ah,HZ m];rfl)
theorem aaB m x0:aav jn m [1,1] [] (aHR x0)=kS m x0:=
 tq (g:=fun J=>(jj J 0 4 0 (LY x0 (ByteArray.size x0:Int) 0) (aav J m [1,1,0,1] []))) (by simp only[ah,aaA m];rfl)
theorem aaC m x0 x1:aav jn m [1,0,1] [] (aHS x0 x1)=kU m x0 x1:=
 tq (g:=fun J=>(bif x1 then
  some false
   else
  (jj J 0 3 0 (aHR x0) (aav J m [1,1] [])))) (by simp only[ah,aaB m];rfl)
theorem aj6 m a0:aav jn m [] [] ⟨[.dat 9 (.str a0)],[],0⟩=wN (m+1) a0:=
 tq (g:=fun J=>Nn (fun y0 y1=>jj J 0 2 0 (aHS y0 y1) (aav J m [1,0,1] [])) a0) (by simp only[ah,aaC m];rfl)
def aHT:List Nat:=[1,1,1,1,1]
def aHU:List Nat:=[1,1,1,0,1]
def aHV:List Nat:=[1,1,1,1,1,1]
def aHW:List Nat:=[1,1,1,1,0,1]
def arN:List Nat:=[1,1,1,1,1,0,1,0,1]
def aHX:List Nat:=arN++[1,1,1,1,1,1,1,1,1,1,1,1,0,1]
def aw4:List Nat:=arN++[1,1,1,1,1,1,1,1,1,1,1,1,0,0,1]
def al0:List Nat:=aw4++[0]
def aw5:List Nat:=al0++[0,1,1]
def aHY:List Nat:=aw5++[1]
def EB (J:Q0) m:=evAt Tryz.prog env (ct m) J (m+1) 177 132 Tryz.f177 d17
def aNe (J:Q0) m:=loopAt Tryz.prog env (ct m) J (m+1) 177 132 Tryz.f177 d17
def DJ x0 x1 x2:=stO [tsL 117 27 x0,tsI 118 x1,tsI 119 x2] []
def akO:=stO [] []
def aHZ x0 x1 x2:=stO [tsP 1 0,tsI 70 x0,tsB 71 x1] [obX 30 x2]
def arO x0:=stO [tsP 1 0] [obX 30 x0]
def aH0 x0 x1:=stO [tsP 1 0,tsB 68 x0] [obX 30 x1]
def aH1 x0 x1:=stO [tsP 1 0,tsB 48 x0] [obX 30 x1]
def aH2 x0 x1 x2:=stO [tsP 1 0,tsB 3 x0,tsB 4 x1] [obX 30 x2]
def aH3 x0 x1:=stO [tsP 1 0,tsB 3 x0] [obX 30 x1]
abbrev aH4 (m M8:Nat) (rec8:Q39):Prop:=∀x0 x1 x2,aNe jn m al0 [] M8 (DJ x0 x1 x2)=rec8 x0 x1 x2
theorem aaD m M8 rec8 (h8:aH4 m M8 rec8) x0 x1 x2:EB jn m aHY [M8] (DJ x0 x1 x2)=yV m (aI m) (aG m) rec8 x0 x1 x2:=
 tq (g:=fun J=>(jj J 1 25 M8 (DJ x0 x1 (IntKind.wrap .i64 (x2+1))) (aNe J m al0 [] M8))) (by simp only[ah,h8];rfl)
theorem aem m M8 rec8 (h8:aH4 m M8 rec8) x0 x1 x2:EB jn m aw5 [M8] (DJ x0 x1 x2)=BK m (aI m) (aG m) rec8 x0 x1 x2:=
 tq (g:=fun J=>((idx x0 x2).bind fun v1=>
  ((aI m v1).bind fun r2=>
  (bif (Bool.not r2) then
  some false
  else
  (jj J 0 29 0 (DJ x0 x1 x2) (EB J m aHY [M8])))))) (by simp only[ah,aaD m M8 rec8 h8];rfl)
theorem aaE m:EB jn m aHX [] akO=yX m (aI m) (aG m):=
 tq (g:=fun J=>some true) (by rfl)
theorem KV m:∀M8 x0 x1 x2,aNe jn m al0 [] M8 (DJ x0 x1 x2)=nK m (aI m) (aG m) M8 x0 x1 x2
 |0,_,_,_=>rfl
 | M8+1,x0,x1,x2=>
   tl (g:=fun J=>(bif (decide (x2<x1)) then
  (jj J 0 26 0 (DJ x0 x1 x2) (EB J m aw5 [M8]))
   else
  (jj J 0 30 0 akO (EB J m aHX [])))) (by simp only[ah,aem m M8 (nK m (aI m) (aG m) M8) (KV m M8),aaE m];rfl)
theorem aen m x0 x1 x2:EB jn m aw4 [] (DJ x0 x1 x2)=wm m (aI m) (aG m) x0 x1 x2:=
 tq (g:=fun J=>(jj J 1 25 (Nat.succ m) (DJ x0 x1 x2) (aNe J m al0 [] (Nat.succ m)))) (by simp only[ah,KV m];rfl)
theorem aaF m:EB jn m aHV [] akO=tT m (aI m) (aG m):=
 tq (g:=fun J=>some false) (by rfl)
theorem aeo m x0 x1 x2:EB jn m arN [] (aHZ x0 x1 x2)=nL m (aI m) (aG m) x0 x1 x2:=
 tq (g:=fun J=>tV (fun y0 y1 y2=>jj J 0 25 0 (DJ y0 y1 y2) (EB J m aw4 [])) (jj J 0 33 0 akO (EB J m aHV [])) (aG m) x0 x1 x2) (by simp only[ah,aen m,aaF m];rfl)
theorem aep m x0:EB jn m aHT [] (arO x0)=nM m (aI m) (aG m) x0:=
 tq (g:=fun J=>tX (fun y0 y1 y2=>jj J 0 12 0 (aHZ y0 y1 y2) (EB J m arN [])) x0) (by simp only[ah,aeo m];rfl)
theorem aer m x0 x1:EB jn m aHW [] (aH0 x0 x1)=wo m (aI m) (aG m) x0 x1:=
 tq (g:=fun J=>(bif x0 then
  some false
   else
  (jj J 0 7 0 (arO x1) (EB J m aHT [])))) (by simp only[ah,aep m];rfl)
theorem aes m x0:EB jn m [1,1,1,1] [] (arO x0)=nN m (aI m) (aG m) x0:=
 tq (g:=fun J=>tY (fun y0 y1=>jj J 0 6 0 (aH0 y0 y1) (EB J m aHW [])) x0) (by simp only[ah,aer m];rfl)
theorem aeu m x0 x1:EB jn m aHU [] (aH1 x0 x1)=wu m (aI m) (aG m) x0 x1:=
 tq (g:=fun J=>(bif x0 then
  some false
   else
  (jj J 0 5 0 (arO x1) (EB J m [1,1,1,1] [])))) (by simp only[ah,aes m];rfl)
theorem aev m x0 x1 x2:EB jn m [1,1,1] [] (aH2 x0 x1 x2)=nO m (aI m) (aG m) x0 x1 x2:=
 tq (g:=fun J=>tZ (fun y0 y1=>jj J 0 4 0 (aH1 y0 y1) (EB J m aHU [])) x0 x1 x2) (by simp only[ah,aeu m];rfl)
theorem aew m x0 x1:EB jn m [1,1] [] (aH3 x0 x1)=nP m (aI m) (aG m) x0 x1:=
 tq (g:=fun J=>uf (fun y0 y1 y2=>jj J 0 3 0 (aH2 y0 y1 y2) (EB J m [1,1,1] [])) x0 x1) (by simp only[ah,aev m];rfl)
theorem al1 m a0:EB jn m [] [] ⟨[.dat 30 a0],[],0⟩=aI (m+1) a0:=
 tq (g:=fun J=>Qp (fun y0 y1=>jj J 0 2 0 (aH3 y0 y1) (EB J m [1,1] [])) a0) (by simp only[ah,aew m];rfl)
def arP:List Nat:=[1,1,0,1,0]
def al2:List Nat:=[1,1,0,1,0,0,1,1]
def aH5:List Nat:=al2++[1]
def aH6:List Nat:=al2++[0,0,1,1]
def aH7:List Nat:=al2++[0,0,1,0,1]
def ahH (J:Q0) m:=evAt Tryz.prog env (ct m) J (m+1) 213 33 Tryz.f213 d17
def aNf (J:Q0) m:=loopAt Tryz.prog env (ct m) J (m+1) 213 33 Tryz.f213 d17
def LZ x0 x1 x2 x3:=stO [(3,.row 0),tsL 7 28 x0,tsI 8 x1,tsI 9 x2] [(.map 239 x3)]
def aH8 x0 x1 x2 x3 x4:=stO [(3,.row 0),tsP 5 1,tsL 7 28 x0,tsI 8 x1,tsI 9 x2] [(.map 239 x3),obX 156 x4]
def aH9 x0 x1 x2 x3 x4 x5:=stO [(3,.row 0),tsP 5 1,tsL 7 28 x0,tsI 8 x1,tsI 9 x2,tsB 28 x3] [(.map 239 x4),obX 156 x5]
def aIa:=stO [] []
abbrev arQ (m M1:Nat) (rec1:Q28):Prop:=∀x0 x1 x2 x3,aNf jn m arP [] M1 (LZ x0 x1 x2 x3)=rec1 x0 x1 x2 x3
theorem OC m M1 rec1 (h1:arQ m M1 rec1) x0 x1 x2 x3:ahH jn m aH5 [M1] (LZ x0 x1 x2 x3)=jo m (aI m) rec1 x0 x1 x2 x3:=
 tq (g:=fun J=>(jj J 1 3 M1 (LZ x0 x1 (IntKind.wrap .i64 (x2+1)) x3) (aNf J m arP [] M1))) (by simp only[ah,h1];rfl)
theorem OD m M1 rec1 (h1:arQ m M1 rec1) x0 x1 x2 x3 x4:ahH jn m aH6 [M1] (aH8 x0 x1 x2 x3 x4)=jq m (aI m) rec1 x0 x1 x2 x3 x4:=
 tq (g:=fun J=>(jj J 0 8 0 (LZ x0 x1 x2 (mput x3 (Dt.S x4 0) (Dt.bool true))) (ahH J m aH5 [M1]))) (by simp only[ah,OC m M1 rec1 h1];rfl)
theorem OE m M1 rec1 (h1:arQ m M1 rec1) x0 x1 x2 x3 x4 x5:ahH jn m aH7 [M1] (aH9 x0 x1 x2 x3 x4 x5)=jr m (aI m) rec1 x0 x1 x2 x3 x4 x5:=
 tq (g:=fun J=>(bif x3 then
  some false
   else
  (jj J 0 7 0 (aH8 x0 x1 x2 x4 x5) (ahH J m aH6 [M1])))) (by simp only[ah,OD m M1 rec1 h1];rfl)
theorem OG m M1 rec1 (h1:arQ m M1 rec1) x0 x1 x2 x3:ahH jn m al2 [M1] (LZ x0 x1 x2 x3)=jv m (aI m) rec1 x0 x1 x2 x3:=
 tq (g:=fun J=>iI (fun y0 y1 y2 y3 y4 y5=>jj J 0 6 0 (aH9 y0 y1 y2 y3 y4 y5) (ahH J m aH7 [M1])) m (aI m) x0 x1 x2 x3) (by simp only[ah,OE m M1 rec1 h1];rfl)
theorem OH m:ahH jn m [1,1,1] [] aIa=jw m (aI m):=
 tq (g:=fun J=>some true) (by rfl)
theorem zW m:∀M1 x0 x1 x2 x3,aNf jn m arP [] M1 (LZ x0 x1 x2 x3)=gI m (aI m) M1 x0 x1 x2 x3
 |0,_,_,_,_=>rfl
 | M1+1,x0,x1,x2,x3=>
   tl (g:=fun J=>(bif (decide (x2<x1)) then
  (jj J 0 4 0 (LZ x0 x1 x2 x3) (ahH J m al2 [M1]))
   else
  (jj J 0 9 0 aIa (ahH J m [1,1,1] [])))) (by simp only[ah,OG m M1 (gI m (aI m) M1) (zW m M1),OH m];rfl)
theorem OI m x0 x1 x2 x3:ahH jn m [1,1,0,1] [] (LZ x0 x1 x2 x3)=jy m (aI m) x0 x1 x2 x3:=
 tq (g:=fun J=>(jj J 1 3 (Nat.succ m) (LZ x0 x1 x2 x3) (aNf J m arP [] (Nat.succ m)))) (by simp only[ah,zW m];rfl)
theorem Ug m a0:ahH jn m [] [] ⟨[.dat 28 (.lst a0)],[],0⟩=aG (m+1) a0:=
 tq (g:=fun J=>(jj J 0 3 0 (LZ a0 (List.length a0:Int) 0 []) (ahH J m [1,1,0,1] []))) (by simp only[ah,OI m];rfl)
def aXk (J:Q0) m:=evAt Tryz.prog env (ct m) J (m+1) 134 15 Tryz.f134 d17
theorem al3 m a0:aXk jn m [] [] ⟨[.dat 30 a0],[],0⟩=jA (m+1) a0:=
 tq (g:=fun J=>jA (m+1) a0) (by rfl)
def aAw:List Nat:=[1,1,1,1,1]
def arR:List Nat:=[1,1,1,1,1,1]
def arS:List Nat:=arR++[1]
def aIb:List Nat:=[1,1,1,1,1,0,1]
def arT:List Nat:=arS++[1]
def aIc:List Nat:=arR++[0,1]
def arU:List Nat:=arT++[1]
def aId:List Nat:=arS++[0,1]
def aIe:List Nat:=arU++[1]
def aIf:List Nat:=arT++[0,1]
def aIg:List Nat:=arU++[0,1]
def e138 (J:Q1) m:=evAt Tryz.prog env (ct m) J (m+1) 214 139 Tryz.f214 d70
def aAx:=stO [] []
def aAy x0:=stO [tsB 138 x0] []
def V8 x0:=stO [tsP 1 0] [obX 36 x0]
def aAz x0 x1:=stO [tsP 1 0,tsB 124 x0] [obX 36 x1]
def KW x0 x1 x2:=stO [tsP 1 0,tsB 3 x0,tsB 4 x1] [obX 36 x2]
def aAA x0 x1 x2 x3:=stO [tsP 1 0,tsB 3 x0,tsB 4 x1,tsB 96 x2] [obX 36 x3]
def aIh x0 x1 x2 x3:=stO [tsP 1 0,tsB 3 x0,tsB 4 x1,tsB 87 x2] [obX 36 x3]
def aIi x0 x1 x2 x3:=stO [tsP 1 0,tsB 3 x0,tsB 4 x1,tsB 69 x2] [obX 36 x3]
def aIj x0 x1:=stO [tsP 1 0,tsB 3 x0] [obX 36 x1]
def aIk x0 x1:=stO [tsP 1 0,tsB 34 x0] [obX 36 x1]
def aIl x0 x1:=stO [tsP 1 0,tsB 22 x0] [obX 36 x1]
theorem RF m:e138 jn m aIe [] aAx=zG m:=
 tq (g:=fun J=>some 0) (by rfl)
theorem RG m x0:e138 jn m aIg [] (aAy x0)=zH m x0:=
 tq (g:=fun J=>(bif x0 then
  some 4
   else
  (jj J 0 17 0 aAx (e138 J m aIe [])))) (by simp only[ah,RF m];rfl)
theorem RH m x0:e138 jn m arU [] (V8 x0)=sj m x0:=
 tq (g:=fun J=>xA (fun y0=>jj J 0 16 0 (aAy y0) (e138 J m aIg [])) m x0) (by simp only[ah,RG m];rfl)
theorem RI m x0 x1:e138 jn m aIf [] (aAz x0 x1)=zI m x0 x1:=
 tq (g:=fun J=>(bif x0 then
  some 4
   else
  (jj J 0 15 0 (V8 x1) (e138 J m arU [])))) (by simp only[ah,RH m];rfl)
theorem RJ m x0 x1 x2:e138 jn m arT [] (KW x0 x1 x2)=su m x0 x1 x2:=
 tq (g:=fun J=>xB (fun y0 y1=>jj J 0 14 0 (aAz y0 y1) (e138 J m aIf [])) x0 x1 x2) (by simp only[ah,RI m];rfl)
theorem RL m x0 x1 x2 x3:e138 jn m aId [] (aAA x0 x1 x2 x3)=zJ m x0 x1 x2 x3:=
 tq (g:=fun J=>(bif x2 then
  some 8
   else
  (jj J 0 13 0 (KW x0 x1 x3) (e138 J m arT [])))) (by simp only[ah,RJ m];rfl)
theorem Uh m x0 x1 x2:e138 jn m arS [] (KW x0 x1 x2)=uR m x0 x1 x2:=
 tq (g:=fun J=>zK (fun y0 y1 y2 y3=>jj J 0 12 0 (aAA y0 y1 y2 y3) (e138 J m aId [])) m x0 x1 x2) (by simp only[ah,RL m];rfl)
theorem Ui m x0 x1 x2 x3:e138 jn m aIc [] (aIh x0 x1 x2 x3)=BL m x0 x1 x2 x3:=
 tq (g:=fun J=>(bif x2 then
  some 9
   else
  (jj J 0 11 0 (KW x0 x1 x3) (e138 J m arS [])))) (by simp only[ah,Uh m];rfl)
theorem Uj m x0 x1 x2:e138 jn m arR [] (KW x0 x1 x2)=uS m x0 x1 x2:=
 tq (g:=fun J=>zL (fun y0 y1 y2 y3=>jj J 0 10 0 (aIh y0 y1 y2 y3) (e138 J m aIc [])) m x0 x1 x2) (by simp only[ah,Ui m];rfl)
theorem Uk m x0 x1 x2 x3:e138 jn m aIb [] (aIi x0 x1 x2 x3)=BM m x0 x1 x2 x3:=
 tq (g:=fun J=>(bif x2 then
  some 10
   else
  (jj J 0 9 0 (KW x0 x1 x3) (e138 J m arR [])))) (by simp only[ah,Uj m];rfl)
theorem Ul m x0 x1 x2:e138 jn m aAw [] (KW x0 x1 x2)=uU m x0 x1 x2:=
 tq (g:=fun J=>zM (fun y0 y1 y2 y3=>jj J 0 8 0 (aIi y0 y1 y2 y3) (e138 J m aIb [])) m x0 x1 x2) (by simp only[ah,Uk m];rfl)
theorem Um m x0 x1:e138 jn m [1,1,1,1] [] (aIj x0 x1)=BN m x0 x1:=
 tq (g:=fun J=>zN (fun y0 y1 y2=>jj J 0 7 0 (KW y0 y1 y2) (e138 J m aAw [])) m x0 x1) (by simp only[ah,Ul m];rfl)
theorem Un m x0:e138 jn m [1,1,1] [] (V8 x0)=BO m x0:=
 tq (g:=fun J=>zO (fun y0 y1=>jj J 0 6 0 (aIj y0 y1) (e138 J m [1,1,1,1] [])) x0) (by simp only[ah,Um m];rfl)
theorem Uo m x0 x1:e138 jn m [1,1,0,1] [] (aIk x0 x1)=BP m x0 x1:=
 tq (g:=fun J=>(bif x0 then
  some 11
   else
  (jj J 0 5 0 (V8 x1) (e138 J m [1,1,1] [])))) (by simp only[ah,Un m];rfl)
theorem Uq m x0:e138 jn m [1,1] [] (V8 x0)=BQ m x0:=
 tq (g:=fun J=>zP (fun y0 y1=>jj J 0 4 0 (aIk y0 y1) (e138 J m [1,1,0,1] [])) x0) (by simp only[ah,Uo m];rfl)
theorem Ur m x0 x1:e138 jn m [1,0,1] [] (aIl x0 x1)=BR m x0 x1:=
 tq (g:=fun J=>(bif x0 then
  some 11
   else
  (jj J 0 3 0 (V8 x1) (e138 J m [1,1] [])))) (by simp only[ah,Uq m];rfl)
theorem aex m a0:e138 jn m [] [] ⟨[.dat 36 a0],[],0⟩=qO (m+1) a0:=
 tq (g:=fun J=>Gj (fun y0 y1=>jj J 0 2 0 (aIl y0 y1) (e138 J m [1,0,1] [])) m a0) (by simp only[ah,Ur m];rfl)
def aIm:List Nat:=[1,1,1,1,1]
def aw6:List Nat:=[1,1,1,1,0,1]
def al4:List Nat:=aw6++[0]
def aw7:List Nat:=al4++[0,1,1]
def aIn:List Nat:=aw7++[1]
def e137 (J:Q31) m:=evAt Tryz.prog env (ct m) J (m+1) 183 45 Tryz.f183 aM7
def aNg (J:Q31) m:=loopAt Tryz.prog env (ct m) J (m+1) 183 45 Tryz.f183 aM7
def L6 x0 x1 x2 x3 x4:=(⟨tsOf [tsI 1 x0,tsP 2 0,tsL 30 34 x1,tsI 31 x2,tsI 32 x3],[.box 3 (.dat 3 (.int x4))],1⟩:St)
def aIo x0:=(⟨tsOf [],[.box 3 (.dat 3 (.int x0))],1⟩:St)
def arV x0 x1 x2:=(⟨tsOf [tsI 1 x0,tsP 2 0,tsP 3 1],[.box 3 (.dat 3 (.int x1)),obX 36 x2],1⟩:St)
def aw8 x0 x1 x2 x3:=(⟨tsOf [tsI 1 x0,tsP 2 0,tsP 3 1,tsB 18 x1],[.box 3 (.dat 3 (.int x2)),obX 36 x3],1⟩:St)
abbrev aIp (m M4:Nat) (rec4:Q57):Prop:=∀x0 x1 x2 x3 x4,aNg jn m al4 [] M4 (L6 x0 x1 x2 x3 x4)=rec4 x0 x1 x2 x3 x4
theorem aw9 m M4 rec4 (h4:aIp m M4 rec4) x0 x1 x2 x3 x4:e137 jn m aIn [M4] (L6 x0 x1 x2 x3 x4)=akT m (OX m) rec4 x0 x1 x2 x3 x4:=
 tq (g:=fun J=>(jj J 1 8 M4 (L6 x0 x1 x2 (IntKind.wrap .i64 (x3+1)) x4) (aNg J m al4 [] M4))) (by simp only[ah,h4];rfl)
theorem axa m M4 rec4 (h4:aIp m M4 rec4) x0 x1 x2 x3 x4:e137 jn m aw7 [M4] (L6 x0 x1 x2 x3 x4)=ase m (OX m) rec4 x0 x1 x2 x3 x4:=
 tq (g:=fun J=>anr (fun y0 y1 y2 y3 y4=>jj J 0 13 0 (L6 y0 y1 y2 y3 y4) (e137 J m aIn [M4])) (OX m) x0 x1 x2 x3 x4) (by simp only[ah,aw9 m M4 rec4 h4];rfl)
theorem axb m x0:e137 jn m aIm [] (aIo x0)=aAU m (OX m) x0:=
 tq (g:=fun J=>some (0,x0)) (by rfl)
theorem al5 m:∀M4 x0 x1 x2 x3 x4,aNg jn m al4 [] M4 (L6 x0 x1 x2 x3 x4)=Qq m (OX m) M4 x0 x1 x2 x3 x4
 |0,_,_,_,_,_=>rfl
 | M4+1,x0,x1,x2,x3,x4=>
   tl (g:=fun J=>(bif (decide (x3<x2)) then
  (jj J 0 9 0 (L6 x0 x1 x2 x3 x4) (e137 J m aw7 [M4]))
   else
  (jj J 0 14 0 (aIo x4) (e137 J m aIm [])))) (by simp only[ah,axa m M4 (Qq m (OX m) M4) (al5 m M4),axb m];rfl)
theorem axc m x0 x1 x2 x3 x4:e137 jn m aw6 [] (L6 x0 x1 x2 x3 x4)=asf m (OX m) x0 x1 x2 x3 x4:=
 tq (g:=fun J=>(jj J 1 8 (Nat.succ m) (L6 x0 x1 x2 x3 x4) (aNg J m al4 [] (Nat.succ m)))) (by simp only[ah,al5 m];rfl)
theorem axd m x0 x1 x2:e137 jn m [1,1,1,1] [] (arV x0 x1 x2)=asg m (OX m) x0 x1 x2:=
 tq (g:=fun J=>(jj J 0 8 0 (L6 x0 (Dt.L x2 6) (List.length (Dt.L x2 6):Int) 0 x1) (e137 J m aw6 []))) (by simp only[ah,axc m];rfl)
theorem axe m x0 x1 x2:e137 jn m [1,1] [] (arV x0 x1 x2)=ash m (OX m) x0 x1 x2:=
 tq (g:=fun J=>ant (fun y0 y1 y2=>jj J 0 7 0 (arV y0 y1 y2) (e137 J m [1,1,1,1] [])) m x0 x1 x2) (by simp only[ah,axd m];rfl)
theorem axf m x0 x1 x2 x3:e137 jn m [1,0,1] [] (aw8 x0 x1 x2 x3)=akU m (OX m) x0 x1 x2 x3:=
 tq (g:=fun J=>(bif x1 then
  some (2,x2)
   else
  (jj J 0 3 0 (arV x0 x2 x3) (e137 J m [1,1] [])))) (by simp only[ah,axe m];rfl)
theorem aNh m a0 a1 a2:e137 jn m [] [] ⟨[.dat 36 a0,.dat 3 (.int a1),.ptr 0 [] 0],[.box 3 (.dat 3 (.int a2))],1⟩=OX (m+1) a0 a1 a2:=
 tq (g:=fun J=>(bif (decide (16<a1)) then
  (jj J 0 2 0 (aw8 a1 true a2 a0) (e137 J m [1,0,1] []))
   else
  (jj J 0 2 0 (aw8 a1 (a2==256) a2 a0) (e137 J m [1,0,1] [])))) (by simp only[ah,axf m];rfl)
def aXl (J:Q1) m:=evAt Tryz.prog env (ct m) J (m+1) 138 6 Tryz.f138 d70
theorem apd m a0:aXl jn m [] [] ⟨[.dat 36 a0],[],0⟩=sw (m+1) a0:=
 tq (g:=fun J=>sw (m+1) a0) (by rfl)
def aSn:List Nat:=[1,1,1,1,1]
def aIq:List Nat:=[1,1,1,0,1]
def aAB:List Nat:=[1,1,1,1,1,1]
def aSo:List Nat:=[1,1,1,1,0,1]
def aIr:List Nat:=aAB++[1]
def aIs:List Nat:=aIr++[1]
def aSp:List Nat:=aIs++[1]
def aIt:List Nat:=[1,1,1,1,1,0,1,0,1]
def ava:List Nat:=aIt++[0]
def aIu:List Nat:=ava++[0,1,1]
def aSq:List Nat:=aIu++[1]
def e78 (J:Q1) m:=evAt Tryz.prog env (ct m) J (m+1) 97 110 Tryz.f97 d70
def l78 (J:Q1) m:=loopAt Tryz.prog env (ct m) J (m+1) 97 110 Tryz.f97 d70
def L8 x0 x1 x2 x3:=stO [tsP 2 0,tsL 82 27 x0,tsI 83 x1,tsI 84 x2] [obX 39 x3]
def aIv:=stO [] []
def H6 x0:=stO [tsP 2 0] [obX 39 x0]
def aSr x0 x1:=stO [tsP 2 0,tsB 77 x0] [obX 39 x1]
def aSs x0 x1:=stO [tsP 2 0,tsB 57 x0] [obX 39 x1]
def aAC x0 x1:=stO [tsB 1 x0,tsP 2 0] [obX 39 x1]
def aSt x0 x1 x2:=stO [tsB 1 x0,tsP 2 0,tsB 38 x1] [obX 39 x2]
def aSu x0 x1 x2:=stO [tsB 1 x0,tsP 2 0,tsB 24 x1] [obX 39 x2]
abbrev aSv (m M9:Nat) (rec9:Q40):Prop:=∀x0 x1 x2 x3,l78 jn m ava [] M9 (L8 x0 x1 x2 x3)=rec9 x0 x1 x2 x3
theorem H7 m M9 rec9 (h9:aSv m M9 rec9) x0 x1 x2 x3:e78 jn m aSq [M9] (L8 x0 x1 x2 x3)=qP m rec9 x0 x1 x2 x3:=
 tq (g:=fun J=>(jj J 1 11 M9 (L8 x0 x1 (IntKind.wrap .i64 (x2+1)) x3) (l78 J m ava [] M9))) (by simp only[ah,h9];rfl)
theorem H8 m M9 rec9 (h9:aSv m M9 rec9) x0 x1 x2 x3:e78 jn m aIu [M9] (L8 x0 x1 x2 x3)=qQ m rec9 x0 x1 x2 x3:=
 tq (g:=fun J=>((idx x0 x2).bind fun v6=>
  ((jA m v6).bind fun r7=>
  (bif (Bool.not r7) then
  some 8
  else
  (jj J 0 15 0 (L8 x0 x1 x2 x3) (e78 J m aSq [M9])))))) (by simp only[ah,H7 m M9 rec9 h9];rfl)
theorem H9 m:e78 jn m aSp [] aIv=z8 m:=
 tq (g:=fun J=>some 0) (by rfl)
theorem Ia m x0:e78 jn m aIs [] (H6 x0)=jS m x0:=
 tq (g:=fun J=>(bif ((Dt.I x0 0)==24) then
  ((sw m (Dt.fld x0 7)).bind fun r10=>
  some r10)
   else
  (jj J 0 24 0 aIv (e78 J m aSp [])))) (by simp only[ah,H9 m];rfl)
theorem Ib m x0:e78 jn m aIr [] (H6 x0)=jU m x0:=
 tq (g:=fun J=>((j5 m x0).bind fun r9=>
  (bif (Bool.not r9) then
  some 4
  else
  (jj J 0 22 0 (H6 x0) (e78 J m aIs []))))) (by simp only[ah,Ia m];rfl)
theorem uZ m x0:e78 jn m aAB [] (H6 x0)=gJ m x0:=
 tq (g:=fun J=>pV (fun y0=>jj J 0 20 0 (H6 y0) (e78 J m aIr [])) m x0) (by simp only[ah,Ib m];rfl)
theorem wV m:∀M9 x0 x1 x2 x3,l78 jn m ava [] M9 (L8 x0 x1 x2 x3)=fD m M9 x0 x1 x2 x3
 |0,_,_,_,_=>rfl
 | M9+1,x0,x1,x2,x3=>
   tl (g:=fun J=>(bif (decide (x2<x1)) then
  (jj J 0 12 0 (L8 x0 x1 x2 x3) (e78 J m aIu [M9]))
   else
  (jj J 0 16 0 (H6 x3) (e78 J m aAB [])))) (by simp only[ah,H8 m M9 (fD m M9) (wV m M9),uZ m];rfl)
theorem Kh m x0 x1 x2 x3:e78 jn m aIt [] (L8 x0 x1 x2 x3)=sF m x0 x1 x2 x3:=
 tq (g:=fun J=>(jj J 1 11 (Nat.succ m) (L8 x0 x1 x2 x3) (l78 J m ava [] (Nat.succ m)))) (by simp only[ah,wV m];rfl)
theorem Ki m x0:e78 jn m aSn [] (H6 x0)=mg m x0:=
 tq (g:=fun J=>((cZ m (Dt.I x0 0)).bind fun r5=>
  (bif r5 then
  (jj J 0 11 0 (L8 (Dt.L x0 3) (List.length (Dt.L x0 3):Int) 0 x0) (e78 J m aIt []))
  else
  (jj J 0 16 0 (H6 x0) (e78 J m aAB []))))) (by simp only[ah,Kh m,uZ m];rfl)
theorem Kj m x0 x1:e78 jn m aSo [] (aSr x0 x1)=sG m x0 x1:=
 tq (g:=fun J=>(bif x0 then
  some 8
   else
  (jj J 0 9 0 (H6 x1) (e78 J m aSn [])))) (by simp only[ah,Ki m];rfl)
theorem Kk m x0:e78 jn m [1,1,1,1] [] (H6 x0)=mh m x0:=
 tq (g:=fun J=>qR (fun y0 y1=>jj J 0 8 0 (aSr y0 y1) (e78 J m aSo [])) m x0) (by simp only[ah,Kj m];rfl)
theorem Kl m x0 x1:e78 jn m aIq [] (aSs x0 x1)=sH m x0 x1:=
 tq (g:=fun J=>(bif x0 then
  some 10
   else
  (jj J 0 7 0 (H6 x1) (e78 J m [1,1,1,1] [])))) (by simp only[ah,Kk m];rfl)
theorem Km m x0 x1:e78 jn m [1,1,1] [] (aAC x0 x1)=mo m x0 x1:=
 tq (g:=fun J=>qU (fun y0 y1=>jj J 0 6 0 (aSs y0 y1) (e78 J m aIq [])) m x0 x1) (by simp only[ah,Kl m];rfl)
theorem Kn m x0 x1 x2:e78 jn m [1,1,0,1] [] (aSt x0 x1 x2)=sI m x0 x1 x2:=
 tq (g:=fun J=>(bif x1 then
  some 11
   else
  (jj J 0 5 0 (aAC x0 x2) (e78 J m [1,1,1] [])))) (by simp only[ah,Km m];rfl)
theorem Ko m x0 x1:e78 jn m [1,1] [] (aAC x0 x1)=mq m x0 x1:=
 tq (g:=fun J=>qV (fun y0 y1 y2=>jj J 0 4 0 (aSt y0 y1 y2) (e78 J m [1,1,0,1] [])) m x0 x1) (by simp only[ah,Kn m];rfl)
theorem Kq m x0 x1 x2:e78 jn m [1,0,1] [] (aSu x0 x1 x2)=sJ m x0 x1 x2:=
 tq (g:=fun J=>(bif x1 then
  some 11
   else
  (jj J 0 3 0 (aAC x0 x2) (e78 J m [1,1] [])))) (by simp only[ah,Ko m];rfl)
theorem PW m a0 a1:e78 jn m [] [] ⟨[.dat 39 a0,.dat 4 (.bool a1)],[],0⟩=fF (m+1) a0 a1:=
 tq (g:=fun J=>wz (fun y0 y1 y2=>jj J 0 2 0 (aSu y0 y1 y2) (e78 J m [1,0,1] [])) m a0 a1) (by simp only[ah,Kq m];rfl)
def aAD:List Nat:=[1,1,0,1,0]
def aAE:List Nat:=[1,1,0,1,0,0,1,1]
def aSw:List Nat:=aAE++[1]
def aSx:List Nat:=aAE++[0,0,1,1]
def e28 (J:Q1) m:=evAt Tryz.prog env (ct m) J (m+1) 40 34 Tryz.f40 d70
def l28 (J:Q1) m:=loopAt Tryz.prog env (ct m) J (m+1) 40 34 Tryz.f40 d70
def Yu x0 x1 x2 x3 x4:=stO [tsB 1 x0,tsP 2 0,tsL 16 37 x1,tsI 17 x2,tsI 18 x3] [obX 39 x4]
def aSy x0 x1 x2 x3 x4 x5:=stO [tsB 1 x0,tsP 2 0,(8,.dat 23 (.int x1)),tsL 16 37 x2,tsI 17 x3,tsI 18 x4] [obX 39 x5]
def aSz:=stO [] []
def aSA x0 x1:=stO [tsB 1 x0,tsP 2 0] [obX 39 x1]
abbrev aIw (m M2:Nat) (rec2:Q45):Prop:=∀x0 x1 x2 x3 x4,l28 jn m aAD [] M2 (Yu x0 x1 x2 x3 x4)=rec2 x0 x1 x2 x3 x4
theorem RN m M2 rec2 (h2:aIw m M2 rec2) x0 x1 x2 x3 x4:e28 jn m aSw [M2] (Yu x0 x1 x2 x3 x4)=zQ m (bC m) rec2 x0 x1 x2 x3 x4:=
 tq (g:=fun J=>(jj J 1 5 M2 (Yu x0 x1 x2 (IntKind.wrap .i64 (x3+1)) x4) (l28 J m aAD [] M2))) (by simp only[ah,h2];rfl)
theorem RO m M2 rec2 (h2:aIw m M2 rec2) x0 x1 x2 x3 x4 x5:e28 jn m aSx [M2] (aSy x0 x1 x2 x3 x4 x5)=sK m (bC m) rec2 x0 x1 x2 x3 x4 x5:=
 tq (g:=fun J=>(bif (x1 !=0) then
  some x1
   else
  (jj J 0 10 0 (Yu x0 x2 x3 x4 x5) (e28 J m aSw [M2])))) (by simp only[ah,RN m M2 rec2 h2];rfl)
theorem RP m M2 rec2 (h2:aIw m M2 rec2) x0 x1 x2 x3 x4:e28 jn m aAE [M2] (Yu x0 x1 x2 x3 x4)=zR m (bC m) rec2 x0 x1 x2 x3 x4:=
 tq (g:=fun J=>xC (fun y0 y1 y2 y3 y4 y5=>jj J 0 8 0 (aSy y0 y1 y2 y3 y4 y5) (e28 J m aSx [M2])) (bC m) x0 x1 x2 x3 x4) (by simp only[ah,RO m M2 rec2 h2];rfl)
theorem RQ m:e28 jn m [1,1,1] [] aSz=J6 m (bC m):=
 tq (g:=fun J=>some 0) (by rfl)
theorem Cr m:∀M2 x0 x1 x2 x3 x4,l28 jn m aAD [] M2 (Yu x0 x1 x2 x3 x4)=gD m (bC m) M2 x0 x1 x2 x3 x4
 |0,_,_,_,_,_=>rfl
 | M2+1,x0,x1,x2,x3,x4=>
   tl (g:=fun J=>(bif (decide (x3<x2)) then
  (jj J 0 6 0 (Yu x0 x1 x2 x3 x4) (e28 J m aAE [M2]))
   else
  (jj J 0 11 0 aSz (e28 J m [1,1,1] [])))) (by simp only[ah,RP m M2 (gD m (bC m) M2) (Cr m M2),RQ m];rfl)
theorem RS m x0 x1 x2 x3 x4:e28 jn m [1,1,0,1] [] (Yu x0 x1 x2 x3 x4)=zS m (bC m) x0 x1 x2 x3 x4:=
 tq (g:=fun J=>(jj J 1 5 (Nat.succ m) (Yu x0 x1 x2 x3 x4) (l28 J m aAD [] (Nat.succ m)))) (by simp only[ah,Cr m];rfl)
theorem RU m x0 x1:e28 jn m [1,1] [] (aSA x0 x1)=zT m (bC m) x0 x1:=
 tq (g:=fun J=>(jj J 0 5 0 (Yu x0 (Dt.L x1 8) (List.length (Dt.L x1 8):Int) 0 x1) (e28 J m [1,1,0,1] []))) (by simp only[ah,RS m];rfl)
theorem aaG m a0 a1:e28 jn m [] [] ⟨[.dat 39 a0,.dat 4 (.bool a1)],[],0⟩=bC (m+1) a0 a1:=
 tq (g:=fun J=>((fF m a0 a1).bind fun r0=>
  (bif (r0 !=0) then
  some r0
  else
  (jj J 0 4 0 (aSA a1 a0) (e28 J m [1,1] []))))) (by simp only[ah,RU m];rfl)
def e10 (J:Q1) m:=evAt Tryz.prog env (ct m) J (m+1) 19 9 Tryz.f19 d70
def aSB x0:=stO [tsP 1 0] [obX 39 x0]
theorem RX m x0:e10 jn m [1,1,1] [] (aSB x0)=nQ m x0:=
 tq (g:=fun J=>nQ m x0) (by rfl)
theorem aaH m a0:e10 jn m [] [] ⟨[.dat 39 a0],[],0⟩=kV (m+1) a0:=
 tq (g:=fun J=>((i27 m a0 1 0).bind fun r0=>
  (bif (Bool.not r0.1) then
  some 2
  else
  (jj J 0 4 0 (aSB a0) (e10 J m [1,1,1] []))))) (by simp only[ah,RX m];rfl)
def aNi:List Nat:=[1,1,1,0,0]
def aNj:List Nat:=[1,1,1,1,1,1,1]
def aIx:List Nat:=[1,1,1,0,0,0,1]
def aNk:List Nat:=aNj++[1]
def aWs:List Nat:=[1,1,1,1,1,1,0,1]
def aNl:List Nat:=aNk++[1]
def aWt:List Nat:=aNj++[0,1]
def aWu:List Nat:=aNl++[1]
def aWv:List Nat:=aNk++[0,1]
def aWw:List Nat:=aIx++[0,1,1]
def aWx:List Nat:=aNl++[0,1]
def e3 (J:Q47) m:=evAt Tryz.prog env (ct m) J (m+1) 7 112 Tryz.f7 d4
def l3 (J:Q47) m:=loopAt Tryz.prog env (ct m) J (m+1) 7 112 Tryz.f7 d4
def ajt x0 x1 x2:=stO [tsP 2 0,tsP 7 1,tsL 8 22 x0] [obX 47 x1,obX 47 x2]
def aSC x0 x1 x2 x3:=stO [tsP 2 0,tsP 7 1,tsL 8 22 x0,tsB 100 x1] [obX 47 x2,obX 47 x3]
def aWy x0 x1 x2 x3:=stO [tsP 2 0,tsP 7 1,tsL 8 22 x0,tsB 83 x1] [obX 47 x2,obX 47 x3]
def aWz x0 x1 x2 x3:=stO [tsP 2 0,tsP 7 1,tsL 8 22 x0,tsB 66 x1] [obX 47 x2,obX 47 x3]
def aWA x0 x1 x2 x3:=stO [tsP 2 0,tsP 7 1,tsL 8 22 x0,tsB 48 x1] [obX 47 x2,obX 47 x3]
def aj7 x0 x1 x2 x3:=stO [tsL 0 22 x0,tsP 2 0,tsI 4 x1,tsP 5 1] [obX 47 x2,obX 39 x3]
def aSD x0 x1 x2 x3 x4:=stO [tsL 0 22 x0,tsP 2 0,tsI 4 x1,tsP 5 1,tsP 6 2] [obX 47 x2,obX 39 x3,obX 39 x4]
theorem Us m x0 x1 x2:e3 jn m aWu [] (ajt x0 x1 x2)=oO m x0 x1 x2:=
 tq (g:=fun J=>oO m x0 x1 x2) (by rfl)
theorem Ut m x0 x1 x2 x3:e3 jn m aWx [] (aSC x0 x1 x2 x3)=uV m x0 x1 x2 x3:=
 tq (g:=fun J=>zU (fun y0 y1 y2=>jj J 0 22 0 (ajt y0 y1 y2) (e3 J m aWu [])) m x0 x1 x2 x3) (by simp only[ah,Us m];rfl)
theorem WY m x0 x1 x2:e3 jn m aNl [] (ajt x0 x1 x2)=wO m x0 x1 x2:=
 tq (g:=fun J=>BS (fun y0 y1 y2 y3=>jj J 0 20 0 (aSC y0 y1 y2 y3) (e3 J m aWx [])) x0 x1 x2) (by simp only[ah,Ut m];rfl)
theorem WZ m x0 x1 x2 x3:e3 jn m aWv [] (aWy x0 x1 x2 x3)=wP m x0 x1 x2 x3:=
 tq (g:=fun J=>BU (fun y0 y1 y2=>jj J 0 19 0 (ajt y0 y1 y2) (e3 J m aNl [])) x0 x1 x2 x3) (by simp only[ah,WY m];rfl)
theorem W9 m x0 x1 x2:e3 jn m aNk [] (ajt x0 x1 x2)=wQ m x0 x1 x2:=
 tq (g:=fun J=>BX (fun y0 y1 y2 y3=>jj J 0 17 0 (aWy y0 y1 y2 y3) (e3 J m aWv [])) x0 x1 x2) (by simp only[ah,WZ m];rfl)
theorem Xa m x0 x1 x2 x3:e3 jn m aWt [] (aWz x0 x1 x2 x3)=wR m x0 x1 x2 x3:=
 tq (g:=fun J=>BZ (fun y0 y1 y2=>jj J 0 16 0 (ajt y0 y1 y2) (e3 J m aNk [])) x0 x1 x2 x3) (by simp only[ah,W9 m];rfl)
theorem Xb m x0 x1 x2:e3 jn m aNj [] (ajt x0 x1 x2)=wS m x0 x1 x2:=
 tq (g:=fun J=>Ca (fun y0 y1 y2 y3=>jj J 0 14 0 (aWz y0 y1 y2 y3) (e3 J m aWt [])) x0 x1 x2) (by simp only[ah,Xa m];rfl)
theorem Xc m x0 x1 x2 x3:e3 jn m aWs [] (aWA x0 x1 x2 x3)=wT m x0 x1 x2 x3:=
 tq (g:=fun J=>Cb (fun y0 y1 y2=>jj J 0 13 0 (ajt y0 y1 y2) (e3 J m aNj [])) m x0 x1 x2 x3) (by simp only[ah,Xb m];rfl)
theorem Gs m x0 x1 x2 x3:e3 jn m [1,1,1,1] [] (aj7 x0 x1 x2 x3)=mQ m x0 x1 x2 x3:=
 tq (g:=fun J=>Cc (fun y0 y1 y2 y3=>jj J 0 11 0 (aWA y0 y1 y2 y3) (e3 J m aWs [])) m x0 x1 x2 x3) (by simp only[ah,Xc m];rfl)
abbrev aWB (m M1:Nat) (rec1:Q58):Prop:=∀x0 x1 x2 x3,l3 jn m aNi [] M1 (aj7 x0 x1 x2 x3)=rec1 x0 x1 x2 x3
theorem Uu m M1 rec1 (h1:aWB m M1 rec1) x0 x1 x2 x3 x4:e3 jn m aWw [M1] (aSD x0 x1 x2 x3 x4)=Ce m rec1 x0 x1 x2 x3 x4:=
 tq (g:=fun J=>(jj J 1 3 M1 (aj7 x0 (IntKind.wrap .i64 (x1+1)) x2 x4) (l3 J m aNi [] M1))) (by simp only[ah,h1];rfl)
theorem Xd m M1 rec1 (h1:aWB m M1 rec1) x0 x1 x2 x3:e3 jn m aIx [M1] (aj7 x0 x1 x2 x3)=Dy m rec1 x0 x1 x2 x3:=
 tq (g:=fun J=>((cutL x0 0 (IntKind.wrap .i64 (x1+1))).bind fun v1=>
  ((rO m v1).bind fun r2=>
  ((kV m r2).bind fun r3=>
  (bif (r3 !=0) then
  (jj J 0 8 0 (aj7 x0 x1 x2 x3) (e3 J m [1,1,1,1] []))
  else
  (jj J 0 6 0 (aSD x0 x1 x2 x3 r2) (e3 J m aWw [M1]))))))) (by simp only[ah,Gs m,Uu m M1 rec1 h1];rfl)
theorem Gt m:∀M1 x0 x1 x2 x3,l3 jn m aNi [] M1 (aj7 x0 x1 x2 x3)=mR m M1 x0 x1 x2 x3
 |0,_,_,_,_=>rfl
 | M1+1,x0,x1,x2,x3=>
   tl (g:=fun J=>(bif (decide (x1<(List.length x0:Int))) then
  ((idx x0 x1).bind fun v0=>
  (bif ((Dt.I v0 0)==1) then
  (jj J 0 4 0 (aj7 x0 x1 x2 x3) (e3 J m aIx [M1]))
  else
  (jj J 0 8 0 (aj7 x0 x1 x2 x3) (e3 J m [1,1,1,1] []))))
   else
  (jj J 0 8 0 (aj7 x0 x1 x2 x3) (e3 J m [1,1,1,1] [])))) (by simp only[ah,Xd m M1 (mR m M1) (Gt m M1),Gs m];rfl)
theorem Xe m x0 x1 x2 x3:e3 jn m [1,1,1] [] (aj7 x0 x1 x2 x3)=Dz m x0 x1 x2 x3:=
 tq (g:=fun J=>(jj J 1 3 (Nat.succ m) (aj7 x0 x1 x2 x3) (l3 J m aNi [] (Nat.succ m)))) (by simp only[ah,Gt m];rfl)
theorem ahI m a0:e3 jn m [] [] ⟨[.dat 22 (.lst a0)],[],0⟩=pW (m+1) a0:=
 tq (g:=fun J=>(jj J 0 3 0 (aj7 a0 0 Wj akS) (e3 J m [1,1,1] []))) (by simp only[ah,Xe m];rfl)
def e0 (J:Q0) m:=evAt Tryz.prog env (ct m) J (m+1) 3 32 Tryz.f3 d17
def l0 (J:Q0) m:=loopAt Tryz.prog env (ct m) J (m+1) 3 32 Tryz.f3 d17
def aWC x0:=stO [tsL 0 22 x0] []
theorem L9 m x0:e0 jn m [1,1] [] (aWC x0)=nT m x0:=
 tq (g:=fun J=>nT m x0) (by rfl)
theorem RY m a0:e0 jn m [] [] ⟨[.dat 22 (.lst a0)],[],0⟩=nR (m+1) a0:=
 tq (g:=fun J=>((rJ m a0).bind fun r0=>
  (bif (r0 !=0) then
  ((amq).bind fun r1=>
  some r1)
  else
  (jj J 0 3 0 (aWC a0) (e0 J m [1,1] []))))) (by simp only[ah,L9 m];rfl)
end Go.Proofs.YtjnkagkoolbodaaGreatDoor
