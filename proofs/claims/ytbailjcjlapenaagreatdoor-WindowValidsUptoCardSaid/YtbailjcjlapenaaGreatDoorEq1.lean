/- Generated: each function's run in the abstract machine is its shallow function. -/
import Derived.Test.YtbailjcjlapenaaGreatDoorCt
import Derived.Test.YtbailjcjlapenaaGreatDoorAmEnv
import Derived.KernelRfl
set_option linter.unusedVariables false
set_option linter.unusedSimpArgs false
namespace Go.Proofs.YtbailjcjlapenaaGreatDoor
open Go.Am
set_option maxRecDepth 100000
def w80_0:List Nat:=[1,1,0,1,0]
def w80_3:List Nat:=[1,1,0,1,0,0,1,1]
def w80_1:List Nat:=w80_3++[1]
def w80_2:List Nat:=w80_3++[0,0,1,1]
noncomputable def e80 (J:Nat→Nat→Nat→St→Option Bool→Option Bool) (m:Nat) (p ms:List Nat) (σ:St):=evAt Tryz.prog env (ct m) J (m+1) 184 39 Tryz.f184 d17 p ms σ
noncomputable def l80 (J:Nat→Nat→Nat→St→Option Bool→Option Bool) (m:Nat) (p ms:List Nat) (M:Nat) (σ:St):=loopAt Tryz.prog env (ct m) J (m+1) 184 39 Tryz.f184 d17 p ms M σ
noncomputable def s80_6 (x0:ByteArray) (x1 x2:Int):St:=⟨tsOf [(0,(.dat 9 (.str x0))),(18,(.dat 3 (.int x1))),(19,(.dat 3 (.int x2)))],[],0⟩
noncomputable def s80_5 (x0:ByteArray) (x1 x2:Int) (x3:Bool):St:=⟨tsOf [(0,(.dat 9 (.str x0))),(18,(.dat 3 (.int x1))),(19,(.dat 3 (.int x2))),(37,(.dat 4 (.bool x3)))],[],0⟩
noncomputable def s80_7:St:=⟨tsOf [],[],0⟩
noncomputable def s80_1 (x0:ByteArray):St:=⟨tsOf [(0,(.dat 9 (.str x0)))],[],0⟩
noncomputable def s80_0 (x0:ByteArray) (x1:Bool):St:=⟨tsOf [(0,(.dat 9 (.str x0))),(16,(.dat 4 (.bool x1)))],[],0⟩
abbrev H80_3 (m M3:Nat) (rec3:ByteArray→Int→Int→Option Bool):Prop:=∀x0 x1 x2,l80 jn m w80_0 [] M3 (s80_6 x0 x1 x2)=rec3 x0 x1 x2
theorem value_isName_j6_eq m M3 rec3 (h3:H80_3 m M3 rec3) x0 x1 x2:e80 jn m w80_1 [M3] (s80_6 x0 x1 x2)=value_isName_j6 m rec3 x0 x1 x2:=
 tre (g:=fun J=>(jj J 1 4 M3 (s80_6 x0 x1 (IntKind.wrap .i64 (x2+1))) (l80 J m w80_0 [] M3))) (fun J=>by kernel_rfl) (by simp only[jj_eq,h3];rfl)
theorem value_isName_j5_eq m M3 rec3 (h3:H80_3 m M3 rec3) x0 x1 x2 x3:e80 jn m w80_2 [M3] (s80_5 x0 x1 x2 x3)=value_isName_j5 m rec3 x0 x1 x2 x3:=
 tre (g:=fun J=>(bif x3 then
  some false
   else
  (jj J 0 8 0 (s80_6 x0 x1 x2) (e80 J m w80_1 [M3])))) (fun J=>by kernel_rfl) (by simp only[jj_eq,value_isName_j6_eq m M3 rec3 h3];rfl)
theorem value_isName_j4_eq m M3 rec3 (h3:H80_3 m M3 rec3) x0 x1 x2:e80 jn m w80_3 [M3] (s80_6 x0 x1 x2)=value_isName_j4 m rec3 x0 x1 x2:=
 tre (g:=fun J=>((idxS x0 x2).bind fun v0=>
  (bif (decide (v0<33)) then
  (jj J 0 7 0 (s80_5 x0 x1 x2 true) (e80 J m w80_2 [M3]))
  else
  ((idxS x0 x2).bind fun v1=>
  (bif (decide (126<v1)) then
  (jj J 0 7 0 (s80_5 x0 x1 x2 true) (e80 J m w80_2 [M3]))
  else
  ((idxS x0 x2).bind fun v2=>
  (jj J 0 7 0 (s80_5 x0 x1 x2 (v2==46)) (e80 J m w80_2 [M3])))))))) (fun J=>by kernel_rfl) (by simp only[jj_eq,value_isName_j5_eq m M3 rec3 h3];rfl)
theorem value_isName_j7_eq m:e80 jn m [1,1,1] [] s80_7=value_isName_j7 m:=
 tre (g:=fun J=>some true) (fun J=>by kernel_rfl) (by rfl)
theorem value_isName_l3_eq m:∀M3 x0 x1 x2,l80 jn m w80_0 [] M3 (s80_6 x0 x1 x2)=value_isName_l3 m M3 x0 x1 x2
 |0,_,_,_=>rfl
 | M3+1,x0,x1,x2=>
   trl (g:=fun J=>(bif (decide (x2<x1)) then
  (jj J 0 5 0 (s80_6 x0 x1 x2) (e80 J m w80_3 [M3]))
   else
  (jj J 0 9 0 s80_7 (e80 J m [1,1,1] [])))) (fun J=>by kernel_rfl) (by simp only[jj_eq,value_isName_j4_eq m M3 (value_isName_l3 m M3) (value_isName_l3_eq m M3),value_isName_j7_eq m];rfl)
theorem value_isName_j2_eq m x0 x1 x2:e80 jn m [1,1,0,1] [] (s80_6 x0 x1 x2)=value_isName_j2 m x0 x1 x2:=
 tre (g:=fun J=>(jj J 1 4 (Nat.succ m) (s80_6 x0 x1 x2) (l80 J m w80_0 [] (Nat.succ m)))) (fun J=>by kernel_rfl) (by simp only[jj_eq,value_isName_l3_eq m];rfl)
theorem value_isName_j1_eq m x0:e80 jn m [1,1] [] (s80_1 x0)=value_isName_j1 m x0:=
 tre (g:=fun J=>(jj J 0 4 0 (s80_6 x0 (ByteArray.size x0:Int) 0) (e80 J m [1,1,0,1] []))) (fun J=>by kernel_rfl) (by simp only[jj_eq,value_isName_j2_eq m];rfl)
theorem value_isName_j0_eq m x0 x1:e80 jn m [1,0,1] [] (s80_0 x0 x1)=value_isName_j0 m x0 x1:=
 tre (g:=fun J=>(bif x1 then
  some false
   else
  (jj J 0 3 0 (s80_1 x0) (e80 J m [1,1] [])))) (fun J=>by kernel_rfl) (by simp only[jj_eq,value_isName_j1_eq m];rfl)
theorem value_isName_eq m a0:e80 jn m [] [] ⟨[(.dat 9 (.str a0))],[],0⟩=value_isName (m+1) a0:=
 tre (g:=fun J=>(bif (decide ((ByteArray.size a0:Int)<1)) then
  (jj J 0 2 0 (s80_0 a0 true) (e80 J m [1,0,1] []))
   else
  (bif (decide (32<(ByteArray.size a0:Int))) then
  (jj J 0 2 0 (s80_0 a0 true) (e80 J m [1,0,1] []))
  else
  ((idxS a0 0).bind fun v3=>
  (jj J 0 2 0 (s80_0 a0 (v3==36)) (e80 J m [1,0,1] [])))))) (fun J=>by kernel_rfl) (by simp only[jj_eq,value_isName_j0_eq m];rfl)
def w64_7:List Nat:=[1,1,1,1,1]
def w64_9:List Nat:=[1,1,1,0,1]
def w64_5:List Nat:=[1,1,1,1,1,1]
def w64_8:List Nat:=[1,1,1,1,0,1]
def w64_6:List Nat:=[1,1,1,1,1,0,1,0,1]
def w64_3:List Nat:=w64_6++[1,1,1,1,1,1,1,1,1,1,1,1,0,1]
def w64_4:List Nat:=w64_6++[1,1,1,1,1,1,1,1,1,1,1,1,0,0,1]
def w64_0:List Nat:=w64_4++[0]
def w64_2:List Nat:=w64_0++[0,1,1]
def w64_1:List Nat:=w64_2++[1]
noncomputable def e64 (J:Nat→Nat→Nat→St→Option Bool→Option Bool) (m:Nat) (p ms:List Nat) (σ:St):=evAt Tryz.prog env (ct m) J (m+1) 120 132 Tryz.f120 d17 p ms σ
noncomputable def l64 (J:Nat→Nat→Nat→St→Option Bool→Option Bool) (m:Nat) (p ms:List Nat) (M:Nat) (σ:St):=loopAt Tryz.prog env (ct m) J (m+1) 120 132 Tryz.f120 d17 p ms M σ
noncomputable def s64_10 (x0:List Dt) (x1 x2:Int):St:=⟨tsOf [(117,(.dat 23 (.lst x0))),(118,(.dat 3 (.int x1))),(119,(.dat 3 (.int x2)))],[],0⟩
noncomputable def s64_11:St:=⟨tsOf [],[],0⟩
noncomputable def s64_6 (x0:Int) (x1:Bool) (x2:Dt):St:=⟨tsOf [(1,(.ptr 0 [] 0)),(70,(.dat 3 (.int x0))),(71,(.dat 4 (.bool x1)))],[(.box 26 (.dat 26 x2))],0⟩
noncomputable def s64_5 (x0:Dt):St:=⟨tsOf [(1,(.ptr 0 [] 0))],[(.box 26 (.dat 26 x0))],0⟩
noncomputable def s64_4 (x0:Bool) (x1:Dt):St:=⟨tsOf [(1,(.ptr 0 [] 0)),(68,(.dat 4 (.bool x0)))],[(.box 26 (.dat 26 x1))],0⟩
noncomputable def s64_2 (x0:Bool) (x1:Dt):St:=⟨tsOf [(1,(.ptr 0 [] 0)),(48,(.dat 4 (.bool x0)))],[(.box 26 (.dat 26 x1))],0⟩
noncomputable def s64_1 (x0 x1:Bool) (x2:Dt):St:=⟨tsOf [(1,(.ptr 0 [] 0)),(3,(.dat 4 (.bool x0))),(4,(.dat 4 (.bool x1)))],[(.box 26 (.dat 26 x2))],0⟩
noncomputable def s64_0 (x0:Bool) (x1:Dt):St:=⟨tsOf [(1,(.ptr 0 [] 0)),(3,(.dat 4 (.bool x0)))],[(.box 26 (.dat 26 x1))],0⟩
abbrev H64_8 (m M8:Nat) (rec8:List Dt→Int→Int→Option Bool):Prop:=∀x0 x1 x2,l64 jn m w64_0 [] M8 (s64_10 x0 x1 x2)=rec8 x0 x1 x2
theorem value_sound_j10_eq m M8 rec8 (h8:H64_8 m M8 rec8) x0 x1 x2:e64 jn m w64_1 [M8] (s64_10 x0 x1 x2)=value_sound_j10 m (value_sound m) (value_soundFields m) rec8 x0 x1 x2:=
 tre (g:=fun J=>(jj J 1 25 M8 (s64_10 x0 x1 (IntKind.wrap .i64 (x2+1))) (l64 J m w64_0 [] M8))) (fun J=>by kernel_rfl) (by simp only[jj_eq,h8];rfl)
theorem value_sound_j9_eq m M8 rec8 (h8:H64_8 m M8 rec8) x0 x1 x2:e64 jn m w64_2 [M8] (s64_10 x0 x1 x2)=value_sound_j9 m (value_sound m) (value_soundFields m) rec8 x0 x1 x2:=
 tre (g:=fun J=>((idx x0 x2).bind fun v1=>
  ((value_sound m v1).bind fun r2=>
  (bif (Bool.not r2) then
  some false
  else
  (jj J 0 29 0 (s64_10 x0 x1 x2) (e64 J m w64_1 [M8])))))) (fun J=>by kernel_rfl) (by simp only[jj_eq,value_sound_j10_eq m M8 rec8 h8];rfl)
theorem value_sound_j11_eq m:e64 jn m w64_3 [] s64_11=value_sound_j11 m (value_sound m) (value_soundFields m):=
 tre (g:=fun J=>some true) (fun J=>by kernel_rfl) (by rfl)
theorem value_sound_l8_eq m:∀M8 x0 x1 x2,l64 jn m w64_0 [] M8 (s64_10 x0 x1 x2)=value_sound_l8 m (value_sound m) (value_soundFields m) M8 x0 x1 x2
 |0,_,_,_=>rfl
 | M8+1,x0,x1,x2=>
   trl (g:=fun J=>(bif (decide (x2<x1)) then
  (jj J 0 26 0 (s64_10 x0 x1 x2) (e64 J m w64_2 [M8]))
   else
  (jj J 0 30 0 s64_11 (e64 J m w64_3 [])))) (fun J=>by kernel_rfl) (by simp only[jj_eq,value_sound_j9_eq m M8 (value_sound_l8 m (value_sound m) (value_soundFields m) M8) (value_sound_l8_eq m M8),value_sound_j11_eq m];rfl)
theorem value_sound_j7_eq m x0 x1 x2:e64 jn m w64_4 [] (s64_10 x0 x1 x2)=value_sound_j7 m (value_sound m) (value_soundFields m) x0 x1 x2:=
 tre (g:=fun J=>(jj J 1 25 (Nat.succ m) (s64_10 x0 x1 x2) (l64 J m w64_0 [] (Nat.succ m)))) (fun J=>by kernel_rfl) (by simp only[jj_eq,value_sound_l8_eq m];rfl)
theorem value_sound_j12_eq m:e64 jn m w64_5 [] s64_11=value_sound_j12 m (value_sound m) (value_soundFields m):=
 tre (g:=fun J=>some false) (fun J=>by kernel_rfl) (by rfl)
theorem value_sound_j6_eq m x0 x1 x2:e64 jn m w64_6 [] (s64_6 x0 x1 x2)=value_sound_j6 m (value_sound m) (value_soundFields m) x0 x1 x2:=
 tre (g:=fun J=>(bif x1 then
  some true
   else
  (bif (x0==9) then
  (bif ((Dt.I x2 1)==0) then
  some true
  else
  some ((Dt.I x2 1)==1))
  else
  (bif (x0==10) then
  some (decide (0≤(Dt.I x2 1)))
  else
  (bif (x0==4) then
  (bif (decide ((ByteArray.size (Dt.S x2 2):Int)≤4096)) then
  ((utf8_ValidString (Dt.S x2 2)).bind fun r0=>
  some r0)
  else
  some false)
  else
  (bif (x0==7) then
  some (decide ((ByteArray.size (Dt.S x2 2):Int)≤4096))
  else
  (bif (x0==8) then
  some ((ByteArray.size (Dt.S x2 2):Int)==12)
  else
  (bif (x0==6) then
  (jj J 0 25 0 (s64_10 (Dt.L x2 3) (List.length (Dt.L x2 3):Int) 0) (e64 J m w64_4 []))
  else
  (bif (x0==5) then
  ((value_soundFields m (Dt.L x2 4)).bind fun r3=>
  some r3)
  else
  (jj J 0 33 0 s64_11 (e64 J m w64_5 []))))))))))) (fun J=>by kernel_rfl) (by simp only[jj_eq,value_sound_j7_eq m,value_sound_j12_eq m];rfl)
theorem value_sound_j5_eq m x0:e64 jn m w64_7 [] (s64_5 x0)=value_sound_j5 m (value_sound m) (value_soundFields m) x0:=
 tre (g:=fun J=>(bif ((Dt.I x0 0)==1) then
  (jj J 0 12 0 (s64_6 (Dt.I x0 0) ((Dt.I x0 0)==1) x0) (e64 J m w64_6 []))
   else
  (bif ((Dt.I x0 0)==2) then
  (jj J 0 12 0 (s64_6 (Dt.I x0 0) ((Dt.I x0 0)==2) x0) (e64 J m w64_6 []))
  else
  (bif ((Dt.I x0 0)==11) then
  (jj J 0 12 0 (s64_6 (Dt.I x0 0) ((Dt.I x0 0)==11) x0) (e64 J m w64_6 []))
  else
  (jj J 0 12 0 (s64_6 (Dt.I x0 0) ((Dt.I x0 0)==3) x0) (e64 J m w64_6 [])))))) (fun J=>by kernel_rfl) (by simp only[jj_eq,value_sound_j6_eq m];rfl)
theorem value_sound_j4_eq m x0 x1:e64 jn m w64_8 [] (s64_4 x0 x1)=value_sound_j4 m (value_sound m) (value_soundFields m) x0 x1:=
 tre (g:=fun J=>(bif x0 then
  some false
   else
  (jj J 0 7 0 (s64_5 x1) (e64 J m w64_7 [])))) (fun J=>by kernel_rfl) (by simp only[jj_eq,value_sound_j5_eq m];rfl)
theorem value_sound_j3_eq m x0:e64 jn m [1,1,1,1] [] (s64_5 x0)=value_sound_j3 m (value_sound m) (value_soundFields m) x0:=
 tre (g:=fun J=>(bif ((Dt.I x0 0) !=6) then
  (bif (decide (0<(List.length (Dt.L x0 3):Int))) then
  (jj J 0 6 0 (s64_4 true x0) (e64 J m w64_8 []))
  else
  (bif ((Dt.I x0 0) !=5) then
  (jj J 0 6 0 (s64_4 (decide (0<(List.length (Dt.L x0 4):Int))) x0) (e64 J m w64_8 []))
  else
  (jj J 0 6 0 (s64_4 false x0) (e64 J m w64_8 []))))
   else
  (bif ((Dt.I x0 0) !=5) then
  (jj J 0 6 0 (s64_4 (decide (0<(List.length (Dt.L x0 4):Int))) x0) (e64 J m w64_8 []))
  else
  (jj J 0 6 0 (s64_4 false x0) (e64 J m w64_8 []))))) (fun J=>by kernel_rfl) (by simp only[jj_eq,value_sound_j4_eq m];rfl)
theorem value_sound_j2_eq m x0 x1:e64 jn m w64_9 [] (s64_2 x0 x1)=value_sound_j2 m (value_sound m) (value_soundFields m) x0 x1:=
 tre (g:=fun J=>(bif x0 then
  some false
   else
  (jj J 0 5 0 (s64_5 x1) (e64 J m [1,1,1,1] [])))) (fun J=>by kernel_rfl) (by simp only[jj_eq,value_sound_j3_eq m];rfl)
theorem value_sound_j1_eq m x0 x1 x2:e64 jn m [1,1,1] [] (s64_1 x0 x1 x2)=value_sound_j1 m (value_sound m) (value_soundFields m) x0 x1 x2:=
 tre (g:=fun J=>(bif (Bool.not x0) then
  (bif ((Dt.I x2 1) !=0) then
  (jj J 0 4 0 (s64_2 true x2) (e64 J m w64_9 []))
  else
  (bif (Bool.not x1) then
  (jj J 0 4 0 (s64_2 (Bool.not ((ByteArray.toList (Dt.S x2 2))==[])) x2) (e64 J m w64_9 []))
  else
  (jj J 0 4 0 (s64_2 false x2) (e64 J m w64_9 []))))
   else
  (bif (Bool.not x1) then
  (jj J 0 4 0 (s64_2 (Bool.not ((ByteArray.toList (Dt.S x2 2))==[])) x2) (e64 J m w64_9 []))
  else
  (jj J 0 4 0 (s64_2 false x2) (e64 J m w64_9 []))))) (fun J=>by kernel_rfl) (by simp only[jj_eq,value_sound_j2_eq m];rfl)
theorem value_sound_j0_eq m x0 x1:e64 jn m [1,1] [] (s64_0 x0 x1)=value_sound_j0 m (value_sound m) (value_soundFields m) x0 x1:=
 tre (g:=fun J=>(bif ((Dt.I x1 0)==4) then
  (jj J 0 3 0 (s64_1 x0 true x1) (e64 J m [1,1,1] []))
   else
  (bif ((Dt.I x1 0)==7) then
  (jj J 0 3 0 (s64_1 x0 true x1) (e64 J m [1,1,1] []))
  else
  (jj J 0 3 0 (s64_1 x0 ((Dt.I x1 0)==8) x1) (e64 J m [1,1,1] []))))) (fun J=>by kernel_rfl) (by simp only[jj_eq,value_sound_j1_eq m];rfl)
theorem value_sound_eq m a0:e64 jn m [] [] ⟨[(.dat 26 a0)],[],0⟩=value_sound (m+1) a0:=
 tre (g:=fun J=>(bif ((Dt.I a0 0)==3) then
  (jj J 0 2 0 (s64_0 true a0) (e64 J m [1,1] []))
   else
  (bif ((Dt.I a0 0)==9) then
  (jj J 0 2 0 (s64_0 true a0) (e64 J m [1,1] []))
  else
  (jj J 0 2 0 (s64_0 ((Dt.I a0 0)==10) a0) (e64 J m [1,1] []))))) (fun J=>by kernel_rfl) (by simp only[jj_eq,value_sound_j0_eq m];rfl)
def w72_0:List Nat:=[1,1,0,1,0]
def w72_4:List Nat:=[1,1,0,1,0,0,1,1]
def w72_1:List Nat:=w72_4++[1]
def w72_2:List Nat:=w72_4++[0,0,1,1]
def w72_3:List Nat:=w72_4++[0,0,1,0,1]
noncomputable def e72 (J:Nat→Nat→Nat→St→Option Bool→Option Bool) (m:Nat) (p ms:List Nat) (σ:St):=evAt Tryz.prog env (ct m) J (m+1) 154 33 Tryz.f154 d17 p ms σ
noncomputable def l72 (J:Nat→Nat→Nat→St→Option Bool→Option Bool) (m:Nat) (p ms:List Nat) (M:Nat) (σ:St):=loopAt Tryz.prog env (ct m) J (m+1) 154 33 Tryz.f154 d17 p ms M σ
noncomputable def s72_5 (x0:List Dt) (x1 x2:Int) (x3:List Dt):St:=⟨tsOf [(3,(.row 0)),(7,(.dat 24 (.lst x0))),(8,(.dat 3 (.int x1))),(9,(.dat 3 (.int x2)))],[(.map 226 x3)],0⟩
noncomputable def s72_4 (x0:List Dt) (x1 x2:Int) (x3:List Dt) (x4:Dt):St:=⟨tsOf [(3,(.row 0)),(5,(.ptr 1 [] 0)),(7,(.dat 24 (.lst x0))),(8,(.dat 3 (.int x1))),(9,(.dat 3 (.int x2)))],[(.map 226 x3),(.box 66 (.dat 66 x4))],0⟩
noncomputable def s72_3 (x0:List Dt) (x1 x2:Int) (x3:Bool) (x4:List Dt) (x5:Dt):St:=⟨tsOf [(3,(.row 0)),(5,(.ptr 1 [] 0)),(7,(.dat 24 (.lst x0))),(8,(.dat 3 (.int x1))),(9,(.dat 3 (.int x2))),(28,(.dat 4 (.bool x3)))],[(.map 226 x4),(.box 66 (.dat 66 x5))],0⟩
noncomputable def s72_6:St:=⟨tsOf [],[],0⟩
abbrev H72_1 (m M1:Nat) (rec1:List Dt→Int→Int→List Dt→Option Bool):Prop:=∀x0 x1 x2 x3,l72 jn m w72_0 [] M1 (s72_5 x0 x1 x2 x3)=rec1 x0 x1 x2 x3
theorem value_soundFields_j5_eq m M1 rec1 (h1:H72_1 m M1 rec1) x0 x1 x2 x3:e72 jn m w72_1 [M1] (s72_5 x0 x1 x2 x3)=value_soundFields_j5 m (value_sound m) rec1 x0 x1 x2 x3:=
 tre (g:=fun J=>(jj J 1 3 M1 (s72_5 x0 x1 (IntKind.wrap .i64 (x2+1)) x3) (l72 J m w72_0 [] M1))) (fun J=>by kernel_rfl) (by simp only[jj_eq,h1];rfl)
theorem value_soundFields_j4_eq m M1 rec1 (h1:H72_1 m M1 rec1) x0 x1 x2 x3 x4:e72 jn m w72_2 [M1] (s72_4 x0 x1 x2 x3 x4)=value_soundFields_j4 m (value_sound m) rec1 x0 x1 x2 x3 x4:=
 tre (g:=fun J=>(jj J 0 8 0 (s72_5 x0 x1 x2 (mput x3 (Dt.S x4 0) (Dt.bool true))) (e72 J m w72_1 [M1]))) (fun J=>by kernel_rfl) (by simp only[jj_eq,value_soundFields_j5_eq m M1 rec1 h1];rfl)
theorem value_soundFields_j3_eq m M1 rec1 (h1:H72_1 m M1 rec1) x0 x1 x2 x3 x4 x5:e72 jn m w72_3 [M1] (s72_3 x0 x1 x2 x3 x4 x5)=value_soundFields_j3 m (value_sound m) rec1 x0 x1 x2 x3 x4 x5:=
 tre (g:=fun J=>(bif x3 then
  some false
   else
  (jj J 0 7 0 (s72_4 x0 x1 x2 x4 x5) (e72 J m w72_2 [M1])))) (fun J=>by kernel_rfl) (by simp only[jj_eq,value_soundFields_j4_eq m M1 rec1 h1];rfl)
theorem value_soundFields_j2_eq m M1 rec1 (h1:H72_1 m M1 rec1) x0 x1 x2 x3:e72 jn m w72_4 [M1] (s72_5 x0 x1 x2 x3)=value_soundFields_j2 m (value_sound m) rec1 x0 x1 x2 x3:=
 tre (g:=fun J=>((idx x0 x2).bind fun v0=>
  ((value_isName m (Dt.S v0 0)).bind fun r1=>
  (bif (Bool.not r1) then
  (jj J 0 6 0 (s72_3 x0 x1 x2 true x3 v0) (e72 J m w72_3 [M1]))
  else
  (bif (Dt.toBool (mgetD x3 (Dt.S v0 0) (Dt.bool false))) then
  (jj J 0 6 0 (s72_3 x0 x1 x2 true x3 v0) (e72 J m w72_3 [M1]))
  else
  ((value_sound m (Dt.fld v0 1)).bind fun r2=>
  (jj J 0 6 0 (s72_3 x0 x1 x2 (Bool.not r2) x3 v0) (e72 J m w72_3 [M1])))))))) (fun J=>by kernel_rfl) (by simp only[jj_eq,value_soundFields_j3_eq m M1 rec1 h1];rfl)
theorem value_soundFields_j6_eq m:e72 jn m [1,1,1] [] s72_6=value_soundFields_j6 m (value_sound m):=
 tre (g:=fun J=>some true) (fun J=>by kernel_rfl) (by rfl)
theorem value_soundFields_l1_eq m:∀M1 x0 x1 x2 x3,l72 jn m w72_0 [] M1 (s72_5 x0 x1 x2 x3)=value_soundFields_l1 m (value_sound m) M1 x0 x1 x2 x3
 |0,_,_,_,_=>rfl
 | M1+1,x0,x1,x2,x3=>
   trl (g:=fun J=>(bif (decide (x2<x1)) then
  (jj J 0 4 0 (s72_5 x0 x1 x2 x3) (e72 J m w72_4 [M1]))
   else
  (jj J 0 9 0 s72_6 (e72 J m [1,1,1] [])))) (fun J=>by kernel_rfl) (by simp only[jj_eq,value_soundFields_j2_eq m M1 (value_soundFields_l1 m (value_sound m) M1) (value_soundFields_l1_eq m M1),value_soundFields_j6_eq m];rfl)
theorem value_soundFields_j0_eq m x0 x1 x2 x3:e72 jn m [1,1,0,1] [] (s72_5 x0 x1 x2 x3)=value_soundFields_j0 m (value_sound m) x0 x1 x2 x3:=
 tre (g:=fun J=>(jj J 1 3 (Nat.succ m) (s72_5 x0 x1 x2 x3) (l72 J m w72_0 [] (Nat.succ m)))) (fun J=>by kernel_rfl) (by simp only[jj_eq,value_soundFields_l1_eq m];rfl)
theorem value_soundFields_eq m a0:e72 jn m [] [] ⟨[(.dat 24 (.lst a0))],[],0⟩=value_soundFields (m+1) a0:=
 tre (g:=fun J=>(jj J 0 3 0 (s72_5 a0 (List.length a0:Int) 0 []) (e72 J m [1,1,0,1] []))) (fun J=>by kernel_rfl) (by simp only[jj_eq,value_soundFields_j0_eq m];rfl)
noncomputable def e52 (J:Nat→Nat→Nat→St→Option Bool→Option Bool) (m:Nat) (p ms:List Nat) (σ:St):=evAt Tryz.prog env (ct m) J (m+1) 95 15 Tryz.f95 d17 p ms σ
noncomputable def l52 (J:Nat→Nat→Nat→St→Option Bool→Option Bool) (m:Nat) (p ms:List Nat) (M:Nat) (σ:St):=loopAt Tryz.prog env (ct m) J (m+1) 95 15 Tryz.f95 d17 p ms M σ
theorem value_Valid_eq m a0:e52 jn m [] [] ⟨[(.dat 26 a0)],[],0⟩=value_Valid (m+1) a0:=
 tre (g:=fun J=>((value_Nodes m a0).bind fun r0=>
  (bif (decide (r0≤1024)) then
  ((value_Depth m a0).bind fun r1=>
  (bif (decide (r1≤16)) then
  ((value_sound m a0).bind fun r2=>
  some r2)
  else
  some false))
  else
  some false))) (fun J=>by kernel_rfl) (by rfl)
def w44_10:List Nat:=[1,1,1,1,1]
def w44_8:List Nat:=[1,1,1,1,1,1]
def w44_6:List Nat:=w44_8++[1]
def w44_9:List Nat:=[1,1,1,1,1,0,1]
def w44_4:List Nat:=w44_6++[1]
def w44_7:List Nat:=w44_8++[0,1]
def w44_2:List Nat:=w44_4++[1]
def w44_5:List Nat:=w44_6++[0,1]
def w44_0:List Nat:=w44_2++[1]
def w44_3:List Nat:=w44_4++[0,1]
def w44_1:List Nat:=w44_2++[0,1]
noncomputable def e44 (J:Nat→Nat→Nat→St→Option Int→Option Int) (m:Nat) (p ms:List Nat) (σ:St):=evAt Tryz.prog env (ct m) J (m+1) 121 139 Tryz.f121 d10 p ms σ
noncomputable def l44 (J:Nat→Nat→Nat→St→Option Int→Option Int) (m:Nat) (p ms:List Nat) (M:Nat) (σ:St):=loopAt Tryz.prog env (ct m) J (m+1) 121 139 Tryz.f121 d10 p ms M σ
noncomputable def s44_15:St:=⟨tsOf [],[],0⟩
noncomputable def s44_14 (x0:Bool):St:=⟨tsOf [(138,(.dat 4 (.bool x0)))],[],0⟩
noncomputable def s44_13 (x0:Dt):St:=⟨tsOf [(1,(.ptr 0 [] 0))],[(.box 29 (.dat 29 x0))],0⟩
noncomputable def s44_12 (x0:Bool) (x1:Dt):St:=⟨tsOf [(1,(.ptr 0 [] 0)),(124,(.dat 4 (.bool x0)))],[(.box 29 (.dat 29 x1))],0⟩
noncomputable def s44_11 (x0 x1:Bool) (x2:Dt):St:=⟨tsOf [(1,(.ptr 0 [] 0)),(3,(.dat 4 (.bool x0))),(4,(.dat 4 (.bool x1)))],[(.box 29 (.dat 29 x2))],0⟩
noncomputable def s44_10 (x0 x1 x2:Bool) (x3:Dt):St:=⟨tsOf [(1,(.ptr 0 [] 0)),(3,(.dat 4 (.bool x0))),(4,(.dat 4 (.bool x1))),(96,(.dat 4 (.bool x2)))],[(.box 29 (.dat 29 x3))],0⟩
noncomputable def s44_8 (x0 x1 x2:Bool) (x3:Dt):St:=⟨tsOf [(1,(.ptr 0 [] 0)),(3,(.dat 4 (.bool x0))),(4,(.dat 4 (.bool x1))),(87,(.dat 4 (.bool x2)))],[(.box 29 (.dat 29 x3))],0⟩
noncomputable def s44_6 (x0 x1 x2:Bool) (x3:Dt):St:=⟨tsOf [(1,(.ptr 0 [] 0)),(3,(.dat 4 (.bool x0))),(4,(.dat 4 (.bool x1))),(69,(.dat 4 (.bool x2)))],[(.box 29 (.dat 29 x3))],0⟩
noncomputable def s44_4 (x0:Bool) (x1:Dt):St:=⟨tsOf [(1,(.ptr 0 [] 0)),(3,(.dat 4 (.bool x0)))],[(.box 29 (.dat 29 x1))],0⟩
noncomputable def s44_2 (x0:Bool) (x1:Dt):St:=⟨tsOf [(1,(.ptr 0 [] 0)),(34,(.dat 4 (.bool x0)))],[(.box 29 (.dat 29 x1))],0⟩
noncomputable def s44_0 (x0:Bool) (x1:Dt):St:=⟨tsOf [(1,(.ptr 0 [] 0)),(22,(.dat 4 (.bool x0)))],[(.box 29 (.dat 29 x1))],0⟩
theorem expr_checkNode_j15_eq m:e44 jn m w44_0 [] s44_15=expr_checkNode_j15 m:=
 tre (g:=fun J=>some 0) (fun J=>by kernel_rfl) (by rfl)
theorem expr_checkNode_j14_eq m x0:e44 jn m w44_1 [] (s44_14 x0)=expr_checkNode_j14 m x0:=
 tre (g:=fun J=>(bif x0 then
  some 4
   else
  (jj J 0 17 0 s44_15 (e44 J m w44_0 [])))) (fun J=>by kernel_rfl) (by simp only[jj_eq,expr_checkNode_j15_eq m];rfl)
theorem expr_checkNode_j13_eq m x0:e44 jn m w44_2 [] (s44_13 x0)=expr_checkNode_j13 m x0:=
 tre (g:=fun J=>(bif ((Dt.I x0 0) !=1) then
  ((expr_isZero m (Dt.fld x0 4)).bind fun r3=>
  (bif (Bool.not r3) then
  (jj J 0 16 0 (s44_14 true) (e44 J m w44_1 []))
  else
  (jj J 0 16 0 (s44_14 ((Dt.I x0 5) !=0)) (e44 J m w44_1 []))))
   else
  (jj J 0 16 0 (s44_14 ((Dt.I x0 5) !=0)) (e44 J m w44_1 [])))) (fun J=>by kernel_rfl) (by simp only[jj_eq,expr_checkNode_j14_eq m];rfl)
theorem expr_checkNode_j12_eq m x0 x1:e44 jn m w44_3 [] (s44_12 x0 x1)=expr_checkNode_j12 m x0 x1:=
 tre (g:=fun J=>(bif x0 then
  some 4
   else
  (jj J 0 15 0 (s44_13 x1) (e44 J m w44_2 [])))) (fun J=>by kernel_rfl) (by simp only[jj_eq,expr_checkNode_j13_eq m];rfl)
theorem expr_checkNode_j11_eq m x0 x1 x2:e44 jn m w44_4 [] (s44_11 x0 x1 x2)=expr_checkNode_j11 m x0 x1 x2:=
 tre (g:=fun J=>(bif (Bool.not x0) then
  (bif (decide (0<(List.length (Dt.L x2 1):Int))) then
  (jj J 0 14 0 (s44_12 true x2) (e44 J m w44_3 []))
  else
  (bif (Bool.not x1) then
  (bif (Bool.not ((ByteArray.toList (Dt.S x2 2))==[])) then
  (jj J 0 14 0 (s44_12 true x2) (e44 J m w44_3 []))
  else
  (bif ((Dt.I x2 0) !=34) then
  (jj J 0 14 0 (s44_12 (decide (0<(List.length (Dt.L x2 3):Int))) x2) (e44 J m w44_3 []))
  else
  (jj J 0 14 0 (s44_12 false x2) (e44 J m w44_3 []))))
  else
  (bif ((Dt.I x2 0) !=34) then
  (jj J 0 14 0 (s44_12 (decide (0<(List.length (Dt.L x2 3):Int))) x2) (e44 J m w44_3 []))
  else
  (jj J 0 14 0 (s44_12 false x2) (e44 J m w44_3 [])))))
   else
  (bif (Bool.not x1) then
  (bif (Bool.not ((ByteArray.toList (Dt.S x2 2))==[])) then
  (jj J 0 14 0 (s44_12 true x2) (e44 J m w44_3 []))
  else
  (bif ((Dt.I x2 0) !=34) then
  (jj J 0 14 0 (s44_12 (decide (0<(List.length (Dt.L x2 3):Int))) x2) (e44 J m w44_3 []))
  else
  (jj J 0 14 0 (s44_12 false x2) (e44 J m w44_3 []))))
  else
  (bif ((Dt.I x2 0) !=34) then
  (jj J 0 14 0 (s44_12 (decide (0<(List.length (Dt.L x2 3):Int))) x2) (e44 J m w44_3 []))
  else
  (jj J 0 14 0 (s44_12 false x2) (e44 J m w44_3 [])))))) (fun J=>by kernel_rfl) (by simp only[jj_eq,expr_checkNode_j12_eq m];rfl)
theorem expr_checkNode_j10_eq m x0 x1 x2 x3:e44 jn m w44_5 [] (s44_10 x0 x1 x2 x3)=expr_checkNode_j10 m x0 x1 x2 x3:=
 tre (g:=fun J=>(bif x2 then
  some 8
   else
  (jj J 0 13 0 (s44_11 x0 x1 x3) (e44 J m w44_4 [])))) (fun J=>by kernel_rfl) (by simp only[jj_eq,expr_checkNode_j11_eq m];rfl)
theorem expr_checkNode_j9_eq m x0 x1 x2:e44 jn m w44_6 [] (s44_11 x0 x1 x2)=expr_checkNode_j9 m x0 x1 x2:=
 tre (g:=fun J=>(bif ((Dt.I x2 0)==1) then
  ((value_Valid m (Dt.fld x2 4)).bind fun r2=>
  (jj J 0 12 0 (s44_10 x0 x1 (Bool.not r2) x2) (e44 J m w44_5 [])))
   else
  (jj J 0 12 0 (s44_10 x0 x1 false x2) (e44 J m w44_5 [])))) (fun J=>by kernel_rfl) (by simp only[jj_eq,expr_checkNode_j10_eq m];rfl)
theorem expr_checkNode_j8_eq m x0 x1 x2 x3:e44 jn m w44_7 [] (s44_8 x0 x1 x2 x3)=expr_checkNode_j8 m x0 x1 x2 x3:=
 tre (g:=fun J=>(bif x2 then
  some 9
   else
  (jj J 0 11 0 (s44_11 x0 x1 x3) (e44 J m w44_6 [])))) (fun J=>by kernel_rfl) (by simp only[jj_eq,expr_checkNode_j9_eq m];rfl)
theorem expr_checkNode_j7_eq m x0 x1 x2:e44 jn m w44_8 [] (s44_11 x0 x1 x2)=expr_checkNode_j7 m x0 x1 x2:=
 tre (g:=fun J=>(bif x1 then
  ((expr_isName m (Dt.S x2 2)).bind fun r1=>
  (bif (Bool.not r1) then
  (jj J 0 10 0 (s44_8 x0 x1 true x2) (e44 J m w44_7 []))
  else
  (bif ((Dt.I x2 0)==34) then
  ((expr_distinctNames m (Dt.L x2 3)).bind fun r4=>
  (jj J 0 10 0 (s44_8 x0 x1 (Bool.not r4) x2) (e44 J m w44_7 [])))
  else
  (jj J 0 10 0 (s44_8 x0 x1 false x2) (e44 J m w44_7 [])))))
   else
  (bif ((Dt.I x2 0)==34) then
  ((expr_distinctNames m (Dt.L x2 3)).bind fun r5=>
  (jj J 0 10 0 (s44_8 x0 x1 (Bool.not r5) x2) (e44 J m w44_7 [])))
  else
  (jj J 0 10 0 (s44_8 x0 x1 false x2) (e44 J m w44_7 []))))) (fun J=>by kernel_rfl) (by simp only[jj_eq,expr_checkNode_j8_eq m];rfl)
theorem expr_checkNode_j6_eq m x0 x1 x2 x3:e44 jn m w44_9 [] (s44_6 x0 x1 x2 x3)=expr_checkNode_j6 m x0 x1 x2 x3:=
 tre (g:=fun J=>(bif x2 then
  some 10
   else
  (jj J 0 9 0 (s44_11 x0 x1 x3) (e44 J m w44_8 [])))) (fun J=>by kernel_rfl) (by simp only[jj_eq,expr_checkNode_j7_eq m];rfl)
theorem expr_checkNode_j5_eq m x0 x1 x2:e44 jn m w44_10 [] (s44_11 x0 x1 x2)=expr_checkNode_j5 m x0 x1 x2:=
 tre (g:=fun J=>(bif x0 then
  ((path_Valid m (Dt.L x2 1)).bind fun r0=>
  (bif (Bool.not r0) then
  (bif ((Dt.I x2 0)==2) then
  (jj J 0 8 0 (s44_6 x0 x1 true x2) (e44 J m w44_9 []))
  else
  (jj J 0 8 0 (s44_6 x0 x1 (decide (0<(List.length (Dt.L x2 1):Int))) x2) (e44 J m w44_9 [])))
  else
  (jj J 0 8 0 (s44_6 x0 x1 false x2) (e44 J m w44_9 []))))
   else
  (jj J 0 8 0 (s44_6 x0 x1 false x2) (e44 J m w44_9 [])))) (fun J=>by kernel_rfl) (by simp only[jj_eq,expr_checkNode_j6_eq m];rfl)
theorem expr_checkNode_j4_eq m x0 x1:e44 jn m [1,1,1,1] [] (s44_4 x0 x1)=expr_checkNode_j4 m x0 x1:=
 tre (g:=fun J=>(bif ((Dt.I x1 0)==3) then
  (jj J 0 7 0 (s44_11 x0 true x1) (e44 J m w44_10 []))
   else
  ((expr_shape m (Dt.I x1 0)).bind fun r6=>
  (jj J 0 7 0 (s44_11 x0 (r6==3) x1) (e44 J m w44_10 []))))) (fun J=>by kernel_rfl) (by simp only[jj_eq,expr_checkNode_j5_eq m];rfl)
theorem expr_checkNode_j3_eq m x0:e44 jn m [1,1,1] [] (s44_13 x0)=expr_checkNode_j3 m x0:=
 tre (g:=fun J=>(bif ((Dt.I x0 0)==2) then
  (jj J 0 6 0 (s44_4 true x0) (e44 J m [1,1,1,1] []))
   else
  (jj J 0 6 0 (s44_4 ((Dt.I x0 0)==3) x0) (e44 J m [1,1,1,1] [])))) (fun J=>by kernel_rfl) (by simp only[jj_eq,expr_checkNode_j4_eq m];rfl)
theorem expr_checkNode_j2_eq m x0 x1:e44 jn m [1,1,0,1] [] (s44_2 x0 x1)=expr_checkNode_j2 m x0 x1:=
 tre (g:=fun J=>(bif x0 then
  some 11
   else
  (jj J 0 5 0 (s44_13 x1) (e44 J m [1,1,1] [])))) (fun J=>by kernel_rfl) (by simp only[jj_eq,expr_checkNode_j3_eq m];rfl)
theorem expr_checkNode_j1_eq m x0:e44 jn m [1,1] [] (s44_13 x0)=expr_checkNode_j1 m x0:=
 tre (g:=fun J=>(bif ((Dt.I x0 0)==34) then
  (jj J 0 4 0 (s44_2 ((List.length (Dt.L x0 6):Int) !=(List.length (Dt.L x0 3):Int)) x0) (e44 J m [1,1,0,1] []))
   else
  (jj J 0 4 0 (s44_2 false x0) (e44 J m [1,1,0,1] [])))) (fun J=>by kernel_rfl) (by simp only[jj_eq,expr_checkNode_j2_eq m];rfl)
theorem expr_checkNode_j0_eq m x0 x1:e44 jn m [1,0,1] [] (s44_0 x0 x1)=expr_checkNode_j0 m x0 x1:=
 tre (g:=fun J=>(bif x0 then
  some 11
   else
  (jj J 0 3 0 (s44_13 x1) (e44 J m [1,1] [])))) (fun J=>by kernel_rfl) (by simp only[jj_eq,expr_checkNode_j1_eq m];rfl)
theorem expr_checkNode_eq m a0:e44 jn m [] [] ⟨[(.dat 29 a0)],[],0⟩=expr_checkNode (m+1) a0:=
 tre (g:=fun J=>(bif (decide ((Dt.I a0 0)<1)) then
  (jj J 0 2 0 (s44_0 true a0) (e44 J m [1,0,1] []))
   else
  (bif (decide (37<(Dt.I a0 0))) then
  (jj J 0 2 0 (s44_0 true a0) (e44 J m [1,0,1] []))
  else
  ((expr_shape m (Dt.I a0 0)).bind fun r7=>
  ((expr_hasKids m r7 (List.length (Dt.L a0 6):Int)).bind fun r8=>
  (jj J 0 2 0 (s44_0 (Bool.not r8) a0) (e44 J m [1,0,1] []))))))) (fun J=>by kernel_rfl) (by simp only[jj_eq,expr_checkNode_j0_eq m];rfl)
def w43_3:List Nat:=[1,1,1,1,1]
def w43_4:List Nat:=[1,1,1,1,0,1]
def w43_0:List Nat:=w43_4++[0]
def w43_2:List Nat:=w43_0++[0,1,1]
def w43_1:List Nat:=w43_2++[1]
noncomputable def e43 (J:Nat→Nat→Nat→St→Option (Int×Int)→Option (Int×Int)) (m:Nat) (p ms:List Nat) (σ:St):=evAt Tryz.prog env (ct m) J (m+1) 96 45 Tryz.f96 d43 p ms σ
noncomputable def l43 (J:Nat→Nat→Nat→St→Option (Int×Int)→Option (Int×Int)) (m:Nat) (p ms:List Nat) (M:Nat) (σ:St):=loopAt Tryz.prog env (ct m) J (m+1) 96 45 Tryz.f96 d43 p ms M σ
noncomputable def s43_6 (x0:Int) (x1:List Dt) (x2 x3 x4:Int):St:=⟨tsOf [(1,(.dat 3 (.int x0))),(2,(.ptr 0 [] 0)),(30,(.dat 27 (.lst x1))),(31,(.dat 3 (.int x2))),(32,(.dat 3 (.int x3)))],[(.box 3 (.dat 3 (.int x4)))],1⟩
noncomputable def s43_7 (x0:Int):St:=⟨tsOf [],[(.box 3 (.dat 3 (.int x0)))],1⟩
noncomputable def s43_2 (x0 x1:Int) (x2:Dt):St:=⟨tsOf [(1,(.dat 3 (.int x0))),(2,(.ptr 0 [] 0)),(3,(.ptr 1 [] 0))],[(.box 3 (.dat 3 (.int x1))),(.box 29 (.dat 29 x2))],1⟩
noncomputable def s43_0 (x0:Int) (x1:Bool) (x2:Int) (x3:Dt):St:=⟨tsOf [(1,(.dat 3 (.int x0))),(2,(.ptr 0 [] 0)),(3,(.ptr 1 [] 0)),(18,(.dat 4 (.bool x1)))],[(.box 3 (.dat 3 (.int x2))),(.box 29 (.dat 29 x3))],1⟩
abbrev H43_4 (m M4:Nat) (rec4:Int→List Dt→Int→Int→Int→Option (Int×Int)):Prop:=∀x0 x1 x2 x3 x4,l43 jn m w43_0 [] M4 (s43_6 x0 x1 x2 x3 x4)=rec4 x0 x1 x2 x3 x4
theorem i43_j6_eq m M4 rec4 (h4:H43_4 m M4 rec4) x0 x1 x2 x3 x4:e43 jn m w43_1 [M4] (s43_6 x0 x1 x2 x3 x4)=i43_j6 m (i43 m) rec4 x0 x1 x2 x3 x4:=
 tre (g:=fun J=>(jj J 1 8 M4 (s43_6 x0 x1 x2 (IntKind.wrap .i64 (x3+1)) x4) (l43 J m w43_0 [] M4))) (fun J=>by kernel_rfl) (by simp only[jj_eq,h4];rfl)
theorem i43_j5_eq m M4 rec4 (h4:H43_4 m M4 rec4) x0 x1 x2 x3 x4:e43 jn m w43_2 [M4] (s43_6 x0 x1 x2 x3 x4)=i43_j5 m (i43 m) rec4 x0 x1 x2 x3 x4:=
 tre (g:=fun J=>((idx x1 x3).bind fun v1=>
  ((i43 m v1 (IntKind.wrap .i64 (x0+1)) x4).bind fun r2=>
  (bif (r2.1 !=0) then
  some (r2.1,r2.2)
  else
  (jj J 0 13 0 (s43_6 x0 x1 x2 x3 r2.2) (e43 J m w43_1 [M4])))))) (fun J=>by kernel_rfl) (by simp only[jj_eq,i43_j6_eq m M4 rec4 h4];rfl)
theorem i43_j7_eq m x0:e43 jn m w43_3 [] (s43_7 x0)=i43_j7 m (i43 m) x0:=
 tre (g:=fun J=>some (0,x0)) (fun J=>by kernel_rfl) (by rfl)
theorem i43_l4_eq m:∀M4 x0 x1 x2 x3 x4,l43 jn m w43_0 [] M4 (s43_6 x0 x1 x2 x3 x4)=i43_l4 m (i43 m) M4 x0 x1 x2 x3 x4
 |0,_,_,_,_,_=>rfl
 | M4+1,x0,x1,x2,x3,x4=>
   trl (g:=fun J=>(bif (decide (x3<x2)) then
  (jj J 0 9 0 (s43_6 x0 x1 x2 x3 x4) (e43 J m w43_2 [M4]))
   else
  (jj J 0 14 0 (s43_7 x4) (e43 J m w43_3 [])))) (fun J=>by kernel_rfl) (by simp only[jj_eq,i43_j5_eq m M4 (i43_l4 m (i43 m) M4) (i43_l4_eq m M4),i43_j7_eq m];rfl)
theorem i43_j3_eq m x0 x1 x2 x3 x4:e43 jn m w43_4 [] (s43_6 x0 x1 x2 x3 x4)=i43_j3 m (i43 m) x0 x1 x2 x3 x4:=
 tre (g:=fun J=>(jj J 1 8 (Nat.succ m) (s43_6 x0 x1 x2 x3 x4) (l43 J m w43_0 [] (Nat.succ m)))) (fun J=>by kernel_rfl) (by simp only[jj_eq,i43_l4_eq m];rfl)
theorem i43_j2_eq m x0 x1 x2:e43 jn m [1,1,1,1] [] (s43_2 x0 x1 x2)=i43_j2 m (i43 m) x0 x1 x2:=
 tre (g:=fun J=>(jj J 0 8 0 (s43_6 x0 (Dt.L x2 6) (List.length (Dt.L x2 6):Int) 0 x1) (e43 J m w43_4 []))) (fun J=>by kernel_rfl) (by simp only[jj_eq,i43_j3_eq m];rfl)
theorem i43_j1_eq m x0 x1 x2:e43 jn m [1,1] [] (s43_2 x0 x1 x2)=i43_j1 m (i43 m) x0 x1 x2:=
 tre (g:=fun J=>((expr_checkNode m x2).bind fun r0=>
  (bif (r0 !=0) then
  some (r0,(IntKind.wrap .i64 (x1+1)))
  else
  (jj J 0 7 0 (s43_2 x0 (IntKind.wrap .i64 (x1+1)) x2) (e43 J m [1,1,1,1] []))))) (fun J=>by kernel_rfl) (by simp only[jj_eq,i43_j2_eq m];rfl)
theorem i43_j0_eq m x0 x1 x2 x3:e43 jn m [1,0,1] [] (s43_0 x0 x1 x2 x3)=i43_j0 m (i43 m) x0 x1 x2 x3:=
 tre (g:=fun J=>(bif x1 then
  some (2,x2)
   else
  (jj J 0 3 0 (s43_2 x0 x2 x3) (e43 J m [1,1] [])))) (fun J=>by kernel_rfl) (by simp only[jj_eq,i43_j1_eq m];rfl)
theorem i43_eq m a0 a1 a2:e43 jn m [] [] ⟨[(.dat 29 a0),(.dat 3 (.int a1)),(.ptr 0 [] 0)],[(.box 3 (.dat 3 (.int a2)))],1⟩=i43 (m+1) a0 a1 a2:=
 tre (g:=fun J=>(bif (decide (16<a1)) then
  (jj J 0 2 0 (s43_0 a1 true a2 a0) (e43 J m [1,0,1] []))
   else
  (jj J 0 2 0 (s43_0 a1 (a2==256) a2 a0) (e43 J m [1,0,1] [])))) (fun J=>by kernel_rfl) (by simp only[jj_eq,i43_j0_eq m];rfl)
noncomputable def e32 (J:Nat→Nat→Nat→St→Option Int→Option Int) (m:Nat) (p ms:List Nat) (σ:St):=evAt Tryz.prog env (ct m) J (m+1) 55 6 Tryz.f55 d10 p ms σ
noncomputable def l32 (J:Nat→Nat→Nat→St→Option Int→Option Int) (m:Nat) (p ms:List Nat) (M:Nat) (σ:St):=loopAt Tryz.prog env (ct m) J (m+1) 55 6 Tryz.f55 d10 p ms M σ
theorem expr_Valid_eq m a0:e32 jn m [] [] ⟨[(.dat 29 a0)],[],0⟩=expr_Valid (m+1) a0:=
 tre (g:=fun J=>((i43 m a0 1 0).bind fun r0=>
  some r0.1)) (fun J=>by kernel_rfl) (by rfl)
def w42_11:List Nat:=[1,1,1,1,1]
def w42_12:List Nat:=[1,1,1,0,1]
def w42_9:List Nat:=[1,1,1,1,1,1]
def w42_7:List Nat:=w42_9++[1]
def w42_10:List Nat:=[1,1,1,1,1,0,1]
def w42_5:List Nat:=w42_7++[1]
def w42_8:List Nat:=w42_9++[0,1]
def w42_3:List Nat:=w42_5++[1]
def w42_6:List Nat:=w42_7++[0,1]
def w42_2:List Nat:=w42_3++[1]
def w42_4:List Nat:=w42_5++[0,1]
def w42_0:List Nat:=w42_2++[1]
def w42_1:List Nat:=w42_2++[0,1]
noncomputable def e42 (J:Nat→Nat→Nat→St→Option Int→Option Int) (m:Nat) (p ms:List Nat) (σ:St):=evAt Tryz.prog env (ct m) J (m+1) 94 128 Tryz.f94 d10 p ms σ
noncomputable def l42 (J:Nat→Nat→Nat→St→Option Int→Option Int) (m:Nat) (p ms:List Nat) (M:Nat) (σ:St):=loopAt Tryz.prog env (ct m) J (m+1) 94 128 Tryz.f94 d10 p ms M σ
noncomputable def s42_15 (x0:Dt):St:=⟨tsOf [(1,(.ptr 0 [] 0))],[(.box 63 (.dat 63 x0))],0⟩
noncomputable def s42_14 (x0:Bool) (x1:Dt):St:=⟨tsOf [(1,(.ptr 0 [] 0)),(116,(.dat 4 (.bool x0)))],[(.box 63 (.dat 63 x1))],0⟩
noncomputable def s42_12 (x0:Bool) (x1:Dt):St:=⟨tsOf [(1,(.ptr 0 [] 0)),(5,(.dat 4 (.bool x0)))],[(.box 63 (.dat 63 x1))],0⟩
noncomputable def s42_11 (x0 x1:Bool) (x2:Dt):St:=⟨tsOf [(1,(.ptr 0 [] 0)),(5,(.dat 4 (.bool x0))),(90,(.dat 4 (.bool x1)))],[(.box 63 (.dat 63 x2))],0⟩
noncomputable def s42_9 (x0 x1:Bool) (x2:Dt):St:=⟨tsOf [(1,(.ptr 0 [] 0)),(5,(.dat 4 (.bool x0))),(78,(.dat 4 (.bool x1)))],[(.box 63 (.dat 63 x2))],0⟩
noncomputable def s42_7 (x0 x1:Bool) (x2:Dt):St:=⟨tsOf [(1,(.ptr 0 [] 0)),(5,(.dat 4 (.bool x0))),(66,(.dat 4 (.bool x1)))],[(.box 63 (.dat 63 x2))],0⟩
noncomputable def s42_6 (x0 x1:Bool) (x2:Dt):St:=⟨tsOf [(1,(.ptr 0 [] 0)),(3,(.dat 4 (.bool x0))),(5,(.dat 4 (.bool x1)))],[(.box 63 (.dat 63 x2))],0⟩
noncomputable def s42_5 (x0 x1 x2:Bool) (x3:Dt):St:=⟨tsOf [(1,(.ptr 0 [] 0)),(3,(.dat 4 (.bool x0))),(5,(.dat 4 (.bool x1))),(51,(.dat 4 (.bool x2)))],[(.box 63 (.dat 63 x3))],0⟩
noncomputable def s42_3 (x0:Bool) (x1:Dt):St:=⟨tsOf [(1,(.ptr 0 [] 0)),(3,(.dat 4 (.bool x0)))],[(.box 63 (.dat 63 x1))],0⟩
noncomputable def s42_2 (x0 x1:Bool) (x2:Dt):St:=⟨tsOf [(1,(.ptr 0 [] 0)),(3,(.dat 4 (.bool x0))),(38,(.dat 4 (.bool x1)))],[(.box 63 (.dat 63 x2))],0⟩
noncomputable def s42_1 (x0 x1:Bool) (x2:Dt):St:=⟨tsOf [(1,(.ptr 0 [] 0)),(3,(.dat 4 (.bool x0))),(4,(.dat 4 (.bool x1)))],[(.box 63 (.dat 63 x2))],0⟩
theorem pipeline_validOut_j15_eq m x0:e42 jn m w42_0 [] (s42_15 x0)=pipeline_validOut_j15 m x0:=
 tre (g:=fun J=>(bif ((Dt.I x0 1)==24) then
  ((pipeline_unless m true 1).bind fun r2=>
  some r2)
   else
  ((pipeline_unless m (decide ((Dt.I x0 3)≤(Dt.I x0 4))) 1).bind fun r3=>
  some r3))) (fun J=>by kernel_rfl) (by rfl)
theorem pipeline_validOut_j14_eq m x0 x1:e42 jn m w42_1 [] (s42_14 x0 x1)=pipeline_validOut_j14 m x0 x1:=
 tre (g:=fun J=>(bif x0 then
  some 1
   else
  (jj J 0 20 0 (s42_15 x1) (e42 J m w42_0 [])))) (fun J=>by kernel_rfl) (by simp only[jj_eq,pipeline_validOut_j15_eq m];rfl)
theorem pipeline_validOut_j13_eq m x0:e42 jn m w42_2 [] (s42_15 x0)=pipeline_validOut_j13 m x0:=
 tre (g:=fun J=>(bif (decide ((Dt.I x0 3)<(-4096))) then
  (jj J 0 19 0 (s42_14 true x0) (e42 J m w42_1 []))
   else
  (bif (decide (4096<(Dt.I x0 3))) then
  (jj J 0 19 0 (s42_14 true x0) (e42 J m w42_1 []))
  else
  (bif (decide ((Dt.I x0 4)<(-4096))) then
  (jj J 0 19 0 (s42_14 true x0) (e42 J m w42_1 []))
  else
  (jj J 0 19 0 (s42_14 (decide (4096<(Dt.I x0 4))) x0) (e42 J m w42_1 [])))))) (fun J=>by kernel_rfl) (by simp only[jj_eq,pipeline_validOut_j14_eq m];rfl)
theorem pipeline_validOut_j12_eq m x0 x1:e42 jn m w42_3 [] (s42_12 x0 x1)=pipeline_validOut_j12 m x0 x1:=
 tre (g:=fun J=>(bif (Bool.not x0) then
  ((expr_Valid m (Dt.fld x1 2)).bind fun r1=>
  (bif (r1 !=0) then
  some r1
  else
  (jj J 0 18 0 (s42_15 x1) (e42 J m w42_2 []))))
   else
  (jj J 0 18 0 (s42_15 x1) (e42 J m w42_2 [])))) (fun J=>by kernel_rfl) (by simp only[jj_eq,pipeline_validOut_j13_eq m];rfl)
theorem pipeline_validOut_j11_eq m x0 x1 x2:e42 jn m w42_4 [] (s42_11 x0 x1 x2)=pipeline_validOut_j11 m x0 x1 x2:=
 tre (g:=fun J=>(bif x1 then
  some 21
   else
  (jj J 0 14 0 (s42_12 x0 x2) (e42 J m w42_3 [])))) (fun J=>by kernel_rfl) (by simp only[jj_eq,pipeline_validOut_j12_eq m];rfl)
theorem pipeline_validOut_j10_eq m x0 x1:e42 jn m w42_5 [] (s42_12 x0 x1)=pipeline_validOut_j10 m x0 x1:=
 tre (g:=fun J=>(bif (Dt.B x1 5) then
  (bif ((Dt.I x1 3) !=0) then
  (jj J 0 13 0 (s42_11 x0 true x1) (e42 J m w42_4 []))
  else
  (jj J 0 13 0 (s42_11 x0 ((Dt.I x1 4) !=0) x1) (e42 J m w42_4 [])))
   else
  (jj J 0 13 0 (s42_11 x0 false x1) (e42 J m w42_4 [])))) (fun J=>by kernel_rfl) (by simp only[jj_eq,pipeline_validOut_j11_eq m];rfl)
theorem pipeline_validOut_j9_eq m x0 x1 x2:e42 jn m w42_6 [] (s42_9 x0 x1 x2)=pipeline_validOut_j9 m x0 x1 x2:=
 tre (g:=fun J=>(bif x1 then
  some 21
   else
  (jj J 0 12 0 (s42_12 x0 x2) (e42 J m w42_5 [])))) (fun J=>by kernel_rfl) (by simp only[jj_eq,pipeline_validOut_j10_eq m];rfl)
theorem pipeline_validOut_j8_eq m x0 x1:e42 jn m w42_7 [] (s42_12 x0 x1)=pipeline_validOut_j8 m x0 x1:=
 tre (g:=fun J=>(bif ((Dt.I x1 1)==24) then
  (bif ((Dt.I x1 4) !=0) then
  (jj J 0 11 0 (s42_9 x0 true x1) (e42 J m w42_6 []))
  else
  (jj J 0 11 0 (s42_9 x0 (Dt.B x1 5) x1) (e42 J m w42_6 [])))
   else
  (jj J 0 11 0 (s42_9 x0 false x1) (e42 J m w42_6 [])))) (fun J=>by kernel_rfl) (by simp only[jj_eq,pipeline_validOut_j9_eq m];rfl)
theorem pipeline_validOut_j7_eq m x0 x1 x2:e42 jn m w42_8 [] (s42_7 x0 x1 x2)=pipeline_validOut_j7 m x0 x1 x2:=
 tre (g:=fun J=>(bif x1 then
  some 21
   else
  (jj J 0 10 0 (s42_12 x0 x2) (e42 J m w42_7 [])))) (fun J=>by kernel_rfl) (by simp only[jj_eq,pipeline_validOut_j8_eq m];rfl)
theorem pipeline_validOut_j6_eq m x0 x1 x2:e42 jn m w42_9 [] (s42_6 x0 x1 x2)=pipeline_validOut_j6 m x0 x1 x2:=
 tre (g:=fun J=>(bif x0 then
  (bif ((Dt.I x2 3) !=0) then
  (jj J 0 9 0 (s42_7 x1 true x2) (e42 J m w42_8 []))
  else
  (bif ((Dt.I x2 4) !=0) then
  (jj J 0 9 0 (s42_7 x1 true x2) (e42 J m w42_8 []))
  else
  (jj J 0 9 0 (s42_7 x1 (Dt.B x2 5) x2) (e42 J m w42_8 []))))
   else
  (jj J 0 9 0 (s42_7 x1 false x2) (e42 J m w42_8 [])))) (fun J=>by kernel_rfl) (by simp only[jj_eq,pipeline_validOut_j7_eq m];rfl)
theorem pipeline_validOut_j5_eq m x0 x1 x2 x3:e42 jn m w42_10 [] (s42_5 x0 x1 x2 x3)=pipeline_validOut_j5 m x0 x1 x2 x3:=
 tre (g:=fun J=>(bif x2 then
  some 21
   else
  (jj J 0 8 0 (s42_6 x0 x1 x3) (e42 J m w42_9 [])))) (fun J=>by kernel_rfl) (by simp only[jj_eq,pipeline_validOut_j6_eq m];rfl)
theorem pipeline_validOut_j4_eq m x0 x1 x2:e42 jn m w42_11 [] (s42_6 x0 x1 x2)=pipeline_validOut_j4 m x0 x1 x2:=
 tre (g:=fun J=>(bif x1 then
  ((pipeline_zeroExpr m (Dt.fld x2 2)).bind fun r0=>
  (jj J 0 7 0 (s42_5 x0 x1 (Bool.not r0) x2) (e42 J m w42_10 [])))
   else
  (jj J 0 7 0 (s42_5 x0 x1 false x2) (e42 J m w42_10 [])))) (fun J=>by kernel_rfl) (by simp only[jj_eq,pipeline_validOut_j5_eq m];rfl)
theorem pipeline_validOut_j3_eq m x0 x1:e42 jn m [1,1,1,1] [] (s42_3 x0 x1)=pipeline_validOut_j3 m x0 x1:=
 tre (g:=fun J=>(bif x0 then
  (jj J 0 6 0 (s42_6 x0 true x1) (e42 J m w42_11 []))
   else
  (jj J 0 6 0 (s42_6 x0 ((Dt.I x1 1)==2) x1) (e42 J m w42_11 [])))) (fun J=>by kernel_rfl) (by simp only[jj_eq,pipeline_validOut_j4_eq m];rfl)
theorem pipeline_validOut_j2_eq m x0 x1 x2:e42 jn m w42_12 [] (s42_2 x0 x1 x2)=pipeline_validOut_j2 m x0 x1 x2:=
 tre (g:=fun J=>(bif x1 then
  some 11
   else
  (jj J 0 5 0 (s42_3 x0 x2) (e42 J m [1,1,1,1] [])))) (fun J=>by kernel_rfl) (by simp only[jj_eq,pipeline_validOut_j3_eq m];rfl)
theorem pipeline_validOut_j1_eq m x0 x1 x2:e42 jn m [1,1,1] [] (s42_1 x0 x1 x2)=pipeline_validOut_j1 m x0 x1 x2:=
 tre (g:=fun J=>(bif (Bool.not x1) then
  (bif (Bool.not x0) then
  (jj J 0 4 0 (s42_2 x0 ((Dt.I x2 1) !=24) x2) (e42 J m w42_12 []))
  else
  (jj J 0 4 0 (s42_2 x0 false x2) (e42 J m w42_12 [])))
   else
  (jj J 0 4 0 (s42_2 x0 false x2) (e42 J m w42_12 [])))) (fun J=>by kernel_rfl) (by simp only[jj_eq,pipeline_validOut_j2_eq m];rfl)
theorem pipeline_validOut_j0_eq m x0 x1:e42 jn m [1,1] [] (s42_3 x0 x1)=pipeline_validOut_j0 m x0 x1:=
 tre (g:=fun J=>(bif (decide (1≤(Dt.I x1 1))) then
  (jj J 0 3 0 (s42_1 x0 (decide ((Dt.I x1 1)≤8)) x1) (e42 J m [1,1,1] []))
   else
  (jj J 0 3 0 (s42_1 x0 false x1) (e42 J m [1,1,1] [])))) (fun J=>by kernel_rfl) (by simp only[jj_eq,pipeline_validOut_j1_eq m];rfl)
theorem pipeline_validOut_eq m a0:e42 jn m [] [] ⟨[(.dat 63 a0)],[],0⟩=pipeline_validOut (m+1) a0:=
 tre (g:=fun J=>(bif ((Dt.I a0 1)==21) then
  (jj J 0 2 0 (s42_3 true a0) (e42 J m [1,1] []))
   else
  (bif ((Dt.I a0 1)==22) then
  (jj J 0 2 0 (s42_3 true a0) (e42 J m [1,1] []))
  else
  (jj J 0 2 0 (s42_3 ((Dt.I a0 1)==23) a0) (e42 J m [1,1] []))))) (fun J=>by kernel_rfl) (by simp only[jj_eq,pipeline_validOut_j0_eq m];rfl)
def w28_9:List Nat:=[1,1,1,1,1]
def w28_11:List Nat:=[1,1,1,0,1]
def w28_10:List Nat:=[1,1,1,1,0,1]
def w28_0:List Nat:=w28_10++[0]
def w28_8:List Nat:=w28_0++[0,1,1]
def w28_4:List Nat:=w28_8++[1]
def w28_7:List Nat:=w28_8++[0,0,1,1]
def w28_5:List Nat:=w28_7++[1]
def w28_6:List Nat:=w28_7++[0,1]
def w28_1:List Nat:=w28_6++[0]
def w28_3:List Nat:=w28_1++[0,1,1]
def w28_2:List Nat:=w28_3++[1]
noncomputable def e28 (J:Nat→Nat→Nat→St→Option Int→Option Int) (m:Nat) (p ms:List Nat) (σ:St):=evAt Tryz.prog env (ct m) J (m+1) 51 65 Tryz.f51 d10 p ms σ
noncomputable def l28 (J:Nat→Nat→Nat→St→Option Int→Option Int) (m:Nat) (p ms:List Nat) (M:Nat) (σ:St):=loopAt Tryz.prog env (ct m) J (m+1) 51 65 Tryz.f51 d10 p ms M σ
noncomputable def s28_11 (x0:List Dt) (x1 x2:Int) (x3:List Dt) (x4 x5:Int) (x6 x7:Dt):St:=⟨tsOf [(1,(.ptr 0 [] 0)),(6,(.ptr 1 [] 0)),(33,(.dat 31 (.lst x0))),(34,(.dat 3 (.int x1))),(35,(.dat 3 (.int x2))),(47,(.dat 31 (.lst x3))),(48,(.dat 3 (.int x4))),(49,(.dat 3 (.int x5)))],[(.box 33 (.dat 33 x6)),(.box 63 (.dat 63 x7))],0⟩
noncomputable def s28_13 (x0:List Dt) (x1 x2:Int) (x3:Dt):St:=⟨tsOf [(1,(.ptr 0 [] 0)),(33,(.dat 31 (.lst x0))),(34,(.dat 3 (.int x1))),(35,(.dat 3 (.int x2)))],[(.box 33 (.dat 33 x3))],0⟩
noncomputable def s28_12 (x0:List Dt) (x1 x2:Int) (x3 x4:Dt):St:=⟨tsOf [(1,(.ptr 0 [] 0)),(6,(.ptr 1 [] 0)),(33,(.dat 31 (.lst x0))),(34,(.dat 3 (.int x1))),(35,(.dat 3 (.int x2)))],[(.box 33 (.dat 33 x3)),(.box 63 (.dat 63 x4))],0⟩
noncomputable def s28_7 (x0:Int) (x1:List Dt) (x2 x3:Int) (x4 x5:Dt):St:=⟨tsOf [(1,(.ptr 0 [] 0)),(5,(.dat 3 (.int x0))),(6,(.ptr 1 [] 0)),(33,(.dat 31 (.lst x1))),(34,(.dat 3 (.int x2))),(35,(.dat 3 (.int x3)))],[(.box 33 (.dat 33 x4)),(.box 63 (.dat 63 x5))],0⟩
noncomputable def s28_14:St:=⟨tsOf [],[],0⟩
noncomputable def s28_3 (x0:Dt):St:=⟨tsOf [(1,(.ptr 0 [] 0))],[(.box 33 (.dat 33 x0))],0⟩
noncomputable def s28_2 (x0:Bool) (x1:Dt):St:=⟨tsOf [(1,(.ptr 0 [] 0)),(31,(.dat 4 (.bool x0)))],[(.box 33 (.dat 33 x1))],0⟩
abbrev H28_5 (m M5:Nat) (rec5:List Dt→Int→Int→Dt→Option Int):Prop:=∀x0 x1 x2 x3,l28 jn m w28_0 [] M5 (s28_13 x0 x1 x2 x3)=rec5 x0 x1 x2 x3
abbrev H28_9 (m M5 M9:Nat) (rec9:List Dt→Int→Int→List Dt→Int→Int→Dt→Dt→Option Int):Prop:=∀x0 x1 x2 x3 x4 x5 x6 x7,l28 jn m w28_1 [M5] M9 (s28_11 x0 x1 x2 x3 x4 x5 x6 x7)=rec9 x0 x1 x2 x3 x4 x5 x6 x7
theorem pipeline_validWindow_j11_eq m M5 rec5 (h5:H28_5 m M5 rec5) M9 rec9 (h9:H28_9 m M5 M9 rec9) x0 x1 x2 x3 x4 x5 x6 x7:e28 jn m w28_2 [M5,M9] (s28_11 x0 x1 x2 x3 x4 x5 x6 x7)=pipeline_validWindow_j11 m rec5 rec9 x0 x1 x2 x3 x4 x5 x6 x7:=
 tre (g:=fun J=>(jj J 1 15 M9 (s28_11 x0 x1 x2 x3 x4 (IntKind.wrap .i64 (x5+1)) x6 x7) (l28 J m w28_1 [M5] M9))) (fun J=>by kernel_rfl) (by simp only[jj_eq,h9];rfl)
theorem pipeline_validWindow_j10_eq m M5 rec5 (h5:H28_5 m M5 rec5) M9 rec9 (h9:H28_9 m M5 M9 rec9) x0 x1 x2 x3 x4 x5 x6 x7:e28 jn m w28_3 [M5,M9] (s28_11 x0 x1 x2 x3 x4 x5 x6 x7)=pipeline_validWindow_j10 m rec5 rec9 x0 x1 x2 x3 x4 x5 x6 x7:=
 tre (g:=fun J=>((idx x3 x5).bind fun v5=>
  (bif ((ByteArray.toList (Dt.S v5 0))==(ByteArray.toList (Dt.S x7 0))) then
  some 9
  else
  (jj J 0 19 0 (s28_11 x0 x1 x2 x3 x4 x5 x6 x7) (e28 J m w28_2 [M5,M9]))))) (fun J=>by kernel_rfl) (by simp only[jj_eq,pipeline_validWindow_j11_eq m M5 rec5 h5 M9 rec9 h9];rfl)
theorem pipeline_validWindow_j13_eq m M5 rec5 (h5:H28_5 m M5 rec5) x0 x1 x2 x3:e28 jn m w28_4 [M5] (s28_13 x0 x1 x2 x3)=pipeline_validWindow_j13 m rec5 x0 x1 x2 x3:=
 tre (g:=fun J=>(jj J 1 10 M5 (s28_13 x0 x1 (IntKind.wrap .i64 (x2+1)) x3) (l28 J m w28_0 [] M5))) (fun J=>by kernel_rfl) (by simp only[jj_eq,h5];rfl)
theorem pipeline_validWindow_j12_eq m M5 rec5 (h5:H28_5 m M5 rec5) x0 x1 x2 x3 x4:e28 jn m w28_5 [M5] (s28_12 x0 x1 x2 x3 x4)=pipeline_validWindow_j12 m rec5 x0 x1 x2 x3 x4:=
 tre (g:=fun J=>((pipeline_validOut m x4).bind fun r6=>
  (bif (r6 !=0) then
  some r6
  else
  (jj J 0 23 0 (s28_13 x0 x1 x2 x3) (e28 J m w28_4 [M5]))))) (fun J=>by kernel_rfl) (by simp only[jj_eq,pipeline_validWindow_j13_eq m M5 rec5 h5];rfl)
theorem pipeline_validWindow_l9_eq m M5 rec5 (h5:H28_5 m M5 rec5):∀M9 x0 x1 x2 x3 x4 x5 x6 x7,l28 jn m w28_1 [M5] M9 (s28_11 x0 x1 x2 x3 x4 x5 x6 x7)=pipeline_validWindow_l9 m rec5 M9 x0 x1 x2 x3 x4 x5 x6 x7
 |0,_,_,_,_,_,_,_,_=>rfl
 | M9+1,x0,x1,x2,x3,x4,x5,x6,x7=>
   trl (g:=fun J=>(bif (decide (x5<x4)) then
  (jj J 0 16 0 (s28_11 x0 x1 x2 x3 x4 x5 x6 x7) (e28 J m w28_3 [M5,M9]))
   else
  (jj J 0 20 0 (s28_12 x0 x1 x2 x6 x7) (e28 J m w28_5 [M5])))) (fun J=>by kernel_rfl) (by simp only[jj_eq,pipeline_validWindow_j10_eq m M5 rec5 h5 M9 (pipeline_validWindow_l9 m rec5 M9) (pipeline_validWindow_l9_eq m M5 rec5 h5 M9),pipeline_validWindow_j12_eq m M5 rec5 h5];rfl)
theorem pipeline_validWindow_j8_eq m M5 rec5 (h5:H28_5 m M5 rec5) x0 x1 x2 x3 x4 x5 x6 x7:e28 jn m w28_6 [M5] (s28_11 x0 x1 x2 x3 x4 x5 x6 x7)=pipeline_validWindow_j8 m rec5 x0 x1 x2 x3 x4 x5 x6 x7:=
 tre (g:=fun J=>(jj J 1 15 (Nat.succ m) (s28_11 x0 x1 x2 x3 x4 x5 x6 x7) (l28 J m w28_1 [M5] (Nat.succ m)))) (fun J=>by kernel_rfl) (by simp only[jj_eq,pipeline_validWindow_l9_eq m M5 rec5 h5];rfl)
theorem pipeline_validWindow_j7_eq m M5 rec5 (h5:H28_5 m M5 rec5) x0 x1 x2 x3 x4 x5:e28 jn m w28_7 [M5] (s28_7 x0 x1 x2 x3 x4 x5)=pipeline_validWindow_j7 m rec5 x0 x1 x2 x3 x4 x5:=
 tre (g:=fun J=>((cutL (Dt.L x4 2) 0 x0).bind fun v4=>
  (jj J 0 15 0 (s28_11 x1 x2 x3 v4 (List.length v4:Int) 0 x4 x5) (e28 J m w28_6 [M5])))) (fun J=>by kernel_rfl) (by simp only[jj_eq,pipeline_validWindow_j8_eq m M5 rec5 h5];rfl)
theorem pipeline_validWindow_j6_eq m M5 rec5 (h5:H28_5 m M5 rec5) x0 x1 x2 x3:e28 jn m w28_8 [M5] (s28_13 x0 x1 x2 x3)=pipeline_validWindow_j6 m rec5 x0 x1 x2 x3:=
 tre (g:=fun J=>((idx x0 x2).bind fun v2=>
  ((pipeline_isOutput m (Dt.S v2 0)).bind fun r3=>
  (bif (Bool.not r3) then
  some 9
  else
  (jj J 0 14 0 (s28_7 x2 x0 x1 x2 x3 v2) (e28 J m w28_7 [M5])))))) (fun J=>by kernel_rfl) (by simp only[jj_eq,pipeline_validWindow_j7_eq m M5 rec5 h5];rfl)
theorem pipeline_validWindow_j14_eq m:e28 jn m w28_9 [] s28_14=pipeline_validWindow_j14 m:=
 tre (g:=fun J=>some 0) (fun J=>by kernel_rfl) (by rfl)
theorem pipeline_validWindow_l5_eq m:∀M5 x0 x1 x2 x3,l28 jn m w28_0 [] M5 (s28_13 x0 x1 x2 x3)=pipeline_validWindow_l5 m M5 x0 x1 x2 x3
 |0,_,_,_,_=>rfl
 | M5+1,x0,x1,x2,x3=>
   trl (g:=fun J=>(bif (decide (x2<x1)) then
  (jj J 0 11 0 (s28_13 x0 x1 x2 x3) (e28 J m w28_8 [M5]))
   else
  (jj J 0 24 0 s28_14 (e28 J m w28_9 [])))) (fun J=>by kernel_rfl) (by simp only[jj_eq,pipeline_validWindow_j6_eq m M5 (pipeline_validWindow_l5 m M5) (pipeline_validWindow_l5_eq m M5),pipeline_validWindow_j14_eq m];rfl)
theorem pipeline_validWindow_j4_eq m x0 x1 x2 x3:e28 jn m w28_10 [] (s28_13 x0 x1 x2 x3)=pipeline_validWindow_j4 m x0 x1 x2 x3:=
 tre (g:=fun J=>(jj J 1 10 (Nat.succ m) (s28_13 x0 x1 x2 x3) (l28 J m w28_0 [] (Nat.succ m)))) (fun J=>by kernel_rfl) (by simp only[jj_eq,pipeline_validWindow_l5_eq m];rfl)
theorem pipeline_validWindow_j3_eq m x0:e28 jn m [1,1,1,1] [] (s28_3 x0)=pipeline_validWindow_j3 m x0:=
 tre (g:=fun J=>(jj J 0 10 0 (s28_13 (Dt.L x0 2) (List.length (Dt.L x0 2):Int) 0 x0) (e28 J m w28_10 []))) (fun J=>by kernel_rfl) (by simp only[jj_eq,pipeline_validWindow_j4_eq m];rfl)
theorem pipeline_validWindow_j2_eq m x0 x1:e28 jn m w28_11 [] (s28_2 x0 x1)=pipeline_validWindow_j2 m x0 x1:=
 tre (g:=fun J=>(bif x0 then
  some 21
   else
  (jj J 0 9 0 (s28_3 x1) (e28 J m [1,1,1,1] [])))) (fun J=>by kernel_rfl) (by simp only[jj_eq,pipeline_validWindow_j3_eq m];rfl)
theorem pipeline_validWindow_j1_eq m x0:e28 jn m [1,1,1] [] (s28_3 x0)=pipeline_validWindow_j1 m x0:=
 tre (g:=fun J=>(bif (decide ((List.length (Dt.L x0 2):Int)<1)) then
  (jj J 0 8 0 (s28_2 true x0) (e28 J m w28_11 []))
   else
  (jj J 0 8 0 (s28_2 (decide (32<(List.length (Dt.L x0 2):Int))) x0) (e28 J m w28_11 [])))) (fun J=>by kernel_rfl) (by simp only[jj_eq,pipeline_validWindow_j2_eq m];rfl)
theorem pipeline_validWindow_j0_eq m x0:e28 jn m [1,1] [] (s28_3 x0)=pipeline_validWindow_j0 m x0:=
 tre (g:=fun J=>((order_Valid m (Dt.L x0 1)).bind fun r1=>
  (bif (r1 !=0) then
  some r1
  else
  (jj J 0 7 0 (s28_3 x0) (e28 J m [1,1,1] []))))) (fun J=>by kernel_rfl) (by simp only[jj_eq,pipeline_validWindow_j1_eq m];rfl)
theorem pipeline_validWindow_eq m a0:e28 jn m [] [] ⟨[(.dat 33 a0)],[],0⟩=pipeline_validWindow (m+1) a0:=
 tre (g:=fun J=>((expr_Valid m (Dt.fld a0 0)).bind fun r0=>
  (bif (r0 !=0) then
  some r0
  else
  (jj J 0 4 0 (s28_3 a0) (e28 J m [1,1] []))))) (fun J=>by kernel_rfl) (by simp only[jj_eq,pipeline_validWindow_j0_eq m];rfl)
def w14_0:List Nat:=[1,0,1,0,1,1,1,1,1,1,1,0,1]
def w14_1:List Nat:=[1,0,1,0,1,1,1,1,1,1,1,1,1,1,1,1,1,0,1]
def w14_3:List Nat:=[1,0,1,0,1,1,1,1,1,1,1,1,1,1,1,1,1,1,1,1,1,1,1]
def w14_2:List Nat:=w14_3++[1,1,1,1,1,1,1,1]
noncomputable def e14 (J:Nat→Nat→Nat→St→Option Int→Option Int) (m:Nat) (p ms:List Nat) (σ:St):=evAt Tryz.prog env (ct m) J (m+1) 24 104 Tryz.f24 d10 p ms σ
noncomputable def l14 (J:Nat→Nat→Nat→St→Option Int→Option Int) (m:Nat) (p ms:List Nat) (M:Nat) (σ:St):=loopAt Tryz.prog env (ct m) J (m+1) 24 104 Tryz.f24 d10 p ms M σ
noncomputable def s14_0 (x0:Dt):St:=⟨tsOf [(1,(.ptr 0 [] 0))],[(.box 60 (.dat 60 x0))],0⟩
noncomputable def s14_4:St:=⟨tsOf [],[],0⟩
noncomputable def s14_3 (x0:Int) (x1:Bool) (x2:Dt):St:=⟨tsOf [(1,(.ptr 0 [] 0)),(4,(.dat 3 (.int x0))),(89,(.dat 4 (.bool x1)))],[(.box 60 (.dat 60 x2))],0⟩
noncomputable def s14_2 (x0:Int) (x1:Bool) (x2:Dt):St:=⟨tsOf [(1,(.ptr 0 [] 0)),(4,(.dat 3 (.int x0))),(66,(.dat 4 (.bool x1)))],[(.box 60 (.dat 60 x2))],0⟩
theorem pipeline_conditions_j0_eq m x0:e14 jn m w14_0 [] (s14_0 x0)=pipeline_conditions_j0 m x0:=
 tre (g:=fun J=>((order_Valid m (Dt.L x0 4)).bind fun r3=>
  some r3)) (fun J=>by kernel_rfl) (by rfl)
theorem pipeline_conditions_j1_eq m x0:e14 jn m w14_1 [] (s14_0 x0)=pipeline_conditions_j1 m x0:=
 tre (g:=fun J=>(bif ((ByteArray.toList (Dt.S x0 7))==[]) then
  ((pipeline_unless m true 9).bind fun r7=>
  some r7)
   else
  ((pipeline_isOutput m (Dt.S x0 7)).bind fun r8=>
  ((pipeline_unless m r8 9).bind fun r9=>
  some r9)))) (fun J=>by kernel_rfl) (by rfl)
theorem pipeline_conditions_j4_eq m:e14 jn m [1,1] [] s14_4=pipeline_conditions_j4 m:=
 tre (g:=fun J=>some 21) (fun J=>by kernel_rfl) (by rfl)
theorem pipeline_conditions_j3_eq m x0 x1 x2:e14 jn m w14_2 [] (s14_3 x0 x1 x2)=pipeline_conditions_j3 m x0 x1 x2:=
 tre (g:=fun J=>(bif x1 then
  ((expr_Valid m (Dt.fld x2 9)).bind fun r17=>
  some r17)
   else
  (bif (x0==17) then
  ((nearN x2).bind fun r18=>
  some r18)
  else
  (bif (x0==18) then
  ((mergeN (Dt.fld x2 15)).bind fun r19=>
  some r19)
  else
  (jj J 0 40 0 s14_4 (e14 J m [1,1] [])))))) (fun J=>by kernel_rfl) (by simp only[jj_eq,pipeline_conditions_j4_eq m];rfl)
theorem pipeline_conditions_j2_eq m x0 x1 x2:e14 jn m w14_3 [] (s14_2 x0 x1 x2)=pipeline_conditions_j2 m x0 x1 x2:=
 tre (g:=fun J=>(bif x1 then
  ((lookN (Dt.I x2 0) (Dt.fld x2 12)).bind fun r12=>
  some r12)
   else
  (bif (x0==11) then
  ((facetN (Dt.L x2 13)).bind fun r13=>
  some r13)
  else
  (bif (x0==12) then
  ((buckN x2).bind fun r14=>
  some r14)
  else
  (bif (x0==13) then
  ((pipeline_isOutput m (Dt.S x2 7)).bind fun r15=>
  ((pipeline_unless m r15 9).bind fun r16=>
  some r16))
  else
  (bif (x0==14) then
  (jj J 0 35 0 (s14_3 x0 (x0==14) x2) (e14 J m w14_2 []))
  else
  (jj J 0 35 0 (s14_3 x0 (x0==16) x2) (e14 J m w14_2 [])))))))) (fun J=>by kernel_rfl) (by simp only[jj_eq,pipeline_conditions_j3_eq m];rfl)
theorem pipeline_conditions_eq m a0:e14 jn m [] [] ⟨[(.dat 60 a0)],[],0⟩=pipeline_conditions (m+1) a0:=
 tre (g:=fun J=>(bif ((Dt.I a0 0)==1) then
  ((predN (Dt.fld a0 1)).bind fun r0=>
  some r0)
   else
  (bif ((Dt.I a0 0)==2) then
  ((projN (Dt.fld a0 2)).bind fun r1=>
  some r1)
  else
  (bif ((Dt.I a0 0)==3) then
  ((setsN (Dt.L a0 3)).bind fun r2=>
  some r2)
  else
  (bif ((Dt.I a0 0)==4) then
  (bif ((List.length (Dt.L a0 4):Int)==0) then
  some 21
  else
  (jj J 0 11 0 (s14_0 a0) (e14 J m w14_0 [])))
  else
  (bif ((Dt.I a0 0)==5) then
  ((pipeline_unless m (decide (0≤(Dt.I a0 5))) 1).bind fun r4=>
  some r4)
  else
  (bif ((Dt.I a0 0)==6) then
  ((pipeline_unless m (decide (1≤(Dt.I a0 5))) 1).bind fun r5=>
  some r5)
  else
  (bif ((Dt.I a0 0)==7) then
  ((path_Valid m (Dt.L a0 6)).bind fun r6=>
  (bif (Bool.not r6) then
  some 10
  else
  (jj J 0 19 0 (s14_0 a0) (e14 J m w14_1 []))))
  else
  (bif ((Dt.I a0 0)==8) then
  ((groupN (Dt.fld a0 10)).bind fun r10=>
  some r10)
  else
  (bif ((Dt.I a0 0)==9) then
  ((pipeline_validWindow m (Dt.fld a0 11)).bind fun r11=>
  some r11)
  else
  (bif ((Dt.I a0 0)==10) then
  (jj J 0 26 0 (s14_2 (Dt.I a0 0) ((Dt.I a0 0)==10) a0) (e14 J m w14_3 []))
  else
  (jj J 0 26 0 (s14_2 (Dt.I a0 0) ((Dt.I a0 0)==15) a0) (e14 J m w14_3 []))))))))))))) (fun J=>by kernel_rfl) (by simp only[jj_eq,pipeline_conditions_j0_eq m,pipeline_conditions_j1_eq m,pipeline_conditions_j2_eq m];rfl)
def w8_6:List Nat:=[1,0,1,0,0,1,1]
def w8_0:List Nat:=w8_6++[1]
def w8_4:List Nat:=w8_6++[0,0,1,1]
def w8_2:List Nat:=w8_4++[1]
def w8_5:List Nat:=w8_6++[0,0,1,0,1]
def w8_1:List Nat:=w8_2++[1]
def w8_3:List Nat:=w8_4++[0,1]
noncomputable def e8 (J:Nat→Nat→Nat→St→Option Int→Option Int) (m:Nat) (p ms:List Nat) (σ:St):=evAt Tryz.prog env (ct m) J (m+1) 12 46 Tryz.f12 d10 p ms σ
noncomputable def l8 (J:Nat→Nat→Nat→St→Option Int→Option Int) (m:Nat) (p ms:List Nat) (M:Nat) (σ:St):=loopAt Tryz.prog env (ct m) J (m+1) 12 46 Tryz.f12 d10 p ms M σ
noncomputable def s8_8 (x0:List Dt) (x1:Bool) (x2:List Dt) (x3 x4:Int):St:=⟨tsOf [(0,(.dat 53 (.lst x0))),(1,(.dat 4 (.bool x1))),(8,(.dat 53 (.lst x2))),(9,(.dat 3 (.int x3))),(10,(.dat 3 (.int x4)))],[],0⟩
noncomputable def s8_7 (x0:List Dt) (x1:Bool) (x2:List Dt) (x3 x4:Int) (x5:Dt):St:=⟨tsOf [(0,(.dat 53 (.lst x0))),(1,(.dat 4 (.bool x1))),(6,(.ptr 0 [] 0)),(8,(.dat 53 (.lst x2))),(9,(.dat 3 (.int x3))),(10,(.dat 3 (.int x4)))],[(.box 60 (.dat 60 x5))],0⟩
noncomputable def s8_5 (x0:List Dt) (x1:Bool) (x2:List Dt) (x3 x4:Int) (x5:Bool) (x6:Dt):St:=⟨tsOf [(0,(.dat 53 (.lst x0))),(1,(.dat 4 (.bool x1))),(6,(.ptr 0 [] 0)),(8,(.dat 53 (.lst x2))),(9,(.dat 3 (.int x3))),(10,(.dat 3 (.int x4))),(36,(.dat 4 (.bool x5)))],[(.box 60 (.dat 60 x6))],0⟩
noncomputable def s8_4 (x0:List Dt) (x1:Bool) (x2:Int) (x3:List Dt) (x4 x5:Int) (x6:Dt):St:=⟨tsOf [(0,(.dat 53 (.lst x0))),(1,(.dat 4 (.bool x1))),(5,(.dat 3 (.int x2))),(6,(.ptr 0 [] 0)),(8,(.dat 53 (.lst x3))),(9,(.dat 3 (.int x4))),(10,(.dat 3 (.int x5)))],[(.box 60 (.dat 60 x6))],0⟩
noncomputable def s8_3 (x0:List Dt) (x1:Bool) (x2:Int) (x3:List Dt) (x4 x5:Int) (x6:Bool) (x7:Dt):St:=⟨tsOf [(0,(.dat 53 (.lst x0))),(1,(.dat 4 (.bool x1))),(5,(.dat 3 (.int x2))),(6,(.ptr 0 [] 0)),(8,(.dat 53 (.lst x3))),(9,(.dat 3 (.int x4))),(10,(.dat 3 (.int x5))),(22,(.dat 4 (.bool x6)))],[(.box 60 (.dat 60 x7))],0⟩
noncomputable def s8_9:St:=⟨tsOf [],[],0⟩
abbrev H8_1 (m M1:Nat) (rec1:List Dt→Bool→List Dt→Int→Int→Option Int):Prop:=∀x0 x1 x2 x3 x4,l8 jn m [1,0,1,0] [] M1 (s8_8 x0 x1 x2 x3 x4)=rec1 x0 x1 x2 x3 x4
theorem pipeline_check_j8_eq m M1 rec1 (h1:H8_1 m M1 rec1) x0 x1 x2 x3 x4:e8 jn m w8_0 [M1] (s8_8 x0 x1 x2 x3 x4)=pipeline_check_j8 m rec1 x0 x1 x2 x3 x4:=
 tre (g:=fun J=>(jj J 1 2 M1 (s8_8 x0 x1 x2 x3 (IntKind.wrap .i64 (x4+1))) (l8 J m [1,0,1,0] [] M1))) (fun J=>by kernel_rfl) (by simp only[jj_eq,h1];rfl)
theorem pipeline_check_j7_eq m M1 rec1 (h1:H8_1 m M1 rec1) x0 x1 x2 x3 x4 x5:e8 jn m w8_1 [M1] (s8_7 x0 x1 x2 x3 x4 x5)=pipeline_check_j7 m rec1 x0 x1 x2 x3 x4 x5:=
 tre (g:=fun J=>((pipeline_conditions m x5).bind fun r2=>
  (bif (r2 !=0) then
  some r2
  else
  (jj J 0 13 0 (s8_8 x0 x1 x2 x3 x4) (e8 J m w8_0 [M1]))))) (fun J=>by kernel_rfl) (by simp only[jj_eq,pipeline_check_j8_eq m M1 rec1 h1];rfl)
theorem pipeline_check_j6_eq m M1 rec1 (h1:H8_1 m M1 rec1) x0 x1 x2 x3 x4 x5:e8 jn m w8_2 [M1] (s8_7 x0 x1 x2 x3 x4 x5)=pipeline_check_j6 m rec1 x0 x1 x2 x3 x4 x5:=
 tre (g:=fun J=>((usedC x5).bind fun r1=>
  (bif (Bool.not r1) then
  some 21
  else
  (jj J 0 10 0 (s8_7 x0 x1 x2 x3 x4 x5) (e8 J m w8_1 [M1]))))) (fun J=>by kernel_rfl) (by simp only[jj_eq,pipeline_check_j7_eq m M1 rec1 h1];rfl)
theorem pipeline_check_j5_eq m M1 rec1 (h1:H8_1 m M1 rec1) x0 x1 x2 x3 x4 x5 x6:e8 jn m w8_3 [M1] (s8_5 x0 x1 x2 x3 x4 x5 x6)=pipeline_check_j5 m rec1 x0 x1 x2 x3 x4 x5 x6:=
 tre (g:=fun J=>(bif x5 then
  some 21
   else
  (jj J 0 8 0 (s8_7 x0 x1 x2 x3 x4 x6) (e8 J m w8_2 [M1])))) (fun J=>by kernel_rfl) (by simp only[jj_eq,pipeline_check_j6_eq m M1 rec1 h1];rfl)
theorem pipeline_check_j4_eq m M1 rec1 (h1:H8_1 m M1 rec1) x0 x1 x2 x3 x4 x5 x6:e8 jn m w8_4 [M1] (s8_4 x0 x1 x2 x3 x4 x5 x6)=pipeline_check_j4 m rec1 x0 x1 x2 x3 x4 x5 x6:=
 tre (g:=fun J=>(bif ((Dt.I x6 0)==18) then
  (bif x1 then
  (jj J 0 7 0 (s8_5 x0 x1 x3 x4 x5 (Bool.not (x2==(IntKind.wrap .i64 ((List.length x0:Int)-1)))) x6) (e8 J m w8_3 [M1]))
  else
  (jj J 0 7 0 (s8_5 x0 x1 x3 x4 x5 true x6) (e8 J m w8_3 [M1])))
   else
  (jj J 0 7 0 (s8_5 x0 x1 x3 x4 x5 false x6) (e8 J m w8_3 [M1])))) (fun J=>by kernel_rfl) (by simp only[jj_eq,pipeline_check_j5_eq m M1 rec1 h1];rfl)
theorem pipeline_check_j3_eq m M1 rec1 (h1:H8_1 m M1 rec1) x0 x1 x2 x3 x4 x5 x6 x7:e8 jn m w8_5 [M1] (s8_3 x0 x1 x2 x3 x4 x5 x6 x7)=pipeline_check_j3 m rec1 x0 x1 x2 x3 x4 x5 x6 x7:=
 tre (g:=fun J=>(bif x6 then
  some 21
   else
  (jj J 0 6 0 (s8_4 x0 x1 x2 x3 x4 x5 x7) (e8 J m w8_4 [M1])))) (fun J=>by kernel_rfl) (by simp only[jj_eq,pipeline_check_j4_eq m M1 rec1 h1];rfl)
theorem pipeline_check_j2_eq m M1 rec1 (h1:H8_1 m M1 rec1) x0 x1 x2 x3 x4:e8 jn m w8_6 [M1] (s8_8 x0 x1 x2 x3 x4)=pipeline_check_j2 m rec1 x0 x1 x2 x3 x4:=
 tre (g:=fun J=>((idx x2 x4).bind fun v0=>
  (bif (decide ((Dt.I v0 0)<1)) then
  (jj J 0 5 0 (s8_3 x0 x1 x4 x2 x3 x4 true v0) (e8 J m w8_5 [M1]))
  else
  (jj J 0 5 0 (s8_3 x0 x1 x4 x2 x3 x4 (decide (18<(Dt.I v0 0))) v0) (e8 J m w8_5 [M1]))))) (fun J=>by kernel_rfl) (by simp only[jj_eq,pipeline_check_j3_eq m M1 rec1 h1];rfl)
theorem pipeline_check_j9_eq m:e8 jn m [1,1] [] s8_9=pipeline_check_j9 m:=
 tre (g:=fun J=>some 0) (fun J=>by kernel_rfl) (by rfl)
theorem pipeline_check_l1_eq m:∀M1 x0 x1 x2 x3 x4,l8 jn m [1,0,1,0] [] M1 (s8_8 x0 x1 x2 x3 x4)=pipeline_check_l1 m M1 x0 x1 x2 x3 x4
 |0,_,_,_,_,_=>rfl
 | M1+1,x0,x1,x2,x3,x4=>
   trl (g:=fun J=>(bif (decide (x4<x3)) then
  (jj J 0 3 0 (s8_8 x0 x1 x2 x3 x4) (e8 J m w8_6 [M1]))
   else
  (jj J 0 14 0 s8_9 (e8 J m [1,1] [])))) (fun J=>by kernel_rfl) (by simp only[jj_eq,pipeline_check_j2_eq m M1 (pipeline_check_l1 m M1) (pipeline_check_l1_eq m M1),pipeline_check_j9_eq m];rfl)
theorem pipeline_check_j0_eq m x0 x1 x2 x3 x4:e8 jn m [1,0,1] [] (s8_8 x0 x1 x2 x3 x4)=pipeline_check_j0 m x0 x1 x2 x3 x4:=
 tre (g:=fun J=>(jj J 1 2 (Nat.succ m) (s8_8 x0 x1 x2 x3 x4) (l8 J m [1,0,1,0] [] (Nat.succ m)))) (fun J=>by kernel_rfl) (by simp only[jj_eq,pipeline_check_l1_eq m];rfl)
theorem pipeline_check_eq m a0 a1:e8 jn m [] [] ⟨[(.dat 53 (.lst a0)),(.dat 4 (.bool a1))],[],0⟩=pipeline_check (m+1) a0 a1:=
 tre (g:=fun J=>(jj J 0 2 0 (s8_8 a0 a1 a0 (List.length a0:Int) 0) (e8 J m [1,0,1] []))) (fun J=>by kernel_rfl) (by simp only[jj_eq,pipeline_check_j0_eq m];rfl)
noncomputable def e4 (J:Nat→Nat→Nat→St→Option Int→Option Int) (m:Nat) (p ms:List Nat) (σ:St):=evAt Tryz.prog env (ct m) J (m+1) 7 8 Tryz.f7 d10 p ms σ
noncomputable def l4 (J:Nat→Nat→Nat→St→Option Int→Option Int) (m:Nat) (p ms:List Nat) (M:Nat) (σ:St):=loopAt Tryz.prog env (ct m) J (m+1) 7 8 Tryz.f7 d10 p ms M σ
noncomputable def s4_0 (x0:List Dt):St:=⟨tsOf [(0,(.dat 53 (.lst x0)))],[],0⟩
theorem pipeline_Valid_j0_eq m x0:e4 jn m [1,1,1] [] (s4_0 x0)=pipeline_Valid_j0 m x0:=
 tre (g:=fun J=>((pipeline_check m x0 true).bind fun r1=>
  some r1)) (fun J=>by kernel_rfl) (by rfl)
theorem pipeline_Valid_eq m a0:e4 jn m [] [] ⟨[(.dat 53 (.lst a0))],[],0⟩=pipeline_Valid (m+1) a0:=
 tre (g:=fun J=>((i6 m a0 1 0).bind fun r0=>
  (bif r0.1 then
  some 2
  else
  (jj J 0 4 0 (s4_0 a0) (e4 J m [1,1,1] []))))) (fun J=>by kernel_rfl) (by simp only[jj_eq,pipeline_Valid_j0_eq m];rfl)
noncomputable def e1 (J:Nat→Nat→Nat→St→Option Int→Option Int) (m:Nat) (p ms:List Nat) (σ:St):=evAt Tryz.prog env (ct m) J (m+1) 4 7 Tryz.f4 d10 p ms σ
noncomputable def l1 (J:Nat→Nat→Nat→St→Option Int→Option Int) (m:Nat) (p ms:List Nat) (M:Nat) (σ:St):=loopAt Tryz.prog env (ct m) J (m+1) 4 7 Tryz.f4 d10 p ms M σ
theorem window_Valid_eq m a0:e1 jn m [] [] ⟨[(.dat 33 a0)],[],0⟩=window_Valid (m+1) a0:=
 tre (g:=fun J=>((pipeline_Valid m [(Dt.agg [(Dt.int 9),kz51b50,kzf26c7,(Dt.lst []),(Dt.lst []),(Dt.int 0),(Dt.lst []),(Dt.str (ByteArray.mk (List.toArray []))),(Dt.bool false),kz6c2a1,kzb6b16,a0,kz26949,(Dt.lst []),(Dt.lst []),kz7372b,kzc83f1])]).bind fun r0=>
  some r0)) (fun J=>by kernel_rfl) (by rfl)
noncomputable def e0x (J:Nat→Nat→Nat→St→Option Bool→Option Bool) (m:Nat) (p ms:List Nat) (σ:St):=evAt Tryz.prog env (ct m) J (m+1) 3 11 Tryz.f3 d17 p ms σ
noncomputable def l0 (J:Nat→Nat→Nat→St→Option Bool→Option Bool) (m:Nat) (p ms:List Nat) (M:Nat) (σ:St):=loopAt Tryz.prog env (ct m) J (m+1) 3 11 Tryz.f3 d17 p ms M σ
theorem law34_WindowValids_eq m a0:e0x jn m [] [] ⟨[(.dat 33 a0)],[],0⟩=law34_WindowValids (m+1) a0:=
 tre (g:=fun J=>((window_Valid m a0).bind fun r0=>
  ((ref34_Valid m a0).bind fun r1=>
  (bif (r0==r1) then
  ((awakeC).bind fun r2=>
  some r2)
  else
  some false)))) (fun J=>by kernel_rfl) (by rfl)
end Go.Proofs.YtbailjcjlapenaaGreatDoor
