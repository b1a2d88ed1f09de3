/- Generated: each function's run in the abstract machine is its shallow function. -/
import Derived.Test.YtmejbpmceflcjaaDoorCt
import Derived.Test.YtmejbpmceflcjaaDoorAmEnv
import Derived.KernelRfl
set_option linter.unusedVariables false
set_option linter.unusedSimpArgs false
namespace Go.Proofs.YtmejbpmceflcjaaDoor
open Go.Am
set_option maxRecDepth 100000
def w9_7:List Nat:=[1,1,1,1,1]
def w9_9:List Nat:=[1,1,1,0,1]
def w9_0:List Nat:=[1,1,1,0,1,0]
def w9_8:List Nat:=[1,1,1,1,0,1]
def w9_3:List Nat:=w9_8++[0]
def w9_2:List Nat:=w9_0++[0,1]
def w9_1:List Nat:=w9_2++[1]
def w9_6:List Nat:=w9_3++[0,1]
def w9_4:List Nat:=w9_6++[1]
def w9_5:List Nat:=w9_6++[0,0,1]
noncomputable def e9 (J:Nat→Nat→Nat→St→Option Int→Option Int) (m:Nat) (p ms:List Nat) (σ:St):=evAt Tryd.prog env (ct m) J (m+1) 23 69 Tryd.f23 d9 p ms σ
noncomputable def l9 (J:Nat→Nat→Nat→St→Option Int→Option Int) (m:Nat) (p ms:List Nat) (M:Nat) (σ:St):=loopAt Tryd.prog env (ct m) J (m+1) 23 69 Tryd.f23 d9 p ms M σ
noncomputable def s9_5 (x0 x1 x2:Int) (x3:Dt):St:=⟨tsOf [(1,(.dat 3 (.int x0))),(2,(.dat 3 (.int x1))),(3,(.ptr 0 [] 0)),(7,(.dat 3 (.int x2)))],[(.box 27 (.dat 27 x3))],0⟩
noncomputable def s9_11 (x0 x1 x2:Int) (x3:Dt):St:=⟨tsOf [(1,(.dat 3 (.int x0))),(2,(.dat 3 (.int x1))),(3,(.ptr 0 [] 0)),(8,(.dat 3 (.int x2)))],[(.box 27 (.dat 27 x3))],0⟩
noncomputable def s9_12 (x0:Int):St:=⟨tsOf [(2,(.dat 3 (.int x0)))],[],0⟩
noncomputable def s9_6 (x0 x1:Int) (x2:Dt):St:=⟨tsOf [(1,(.dat 3 (.int x0))),(2,(.dat 3 (.int x1))),(3,(.ptr 0 [] 0))],[(.box 27 (.dat 27 x2))],0⟩
noncomputable def s9_0 (x0 x1:Int) (x2:Bool) (x3:Dt):St:=⟨tsOf [(1,(.dat 3 (.int x0))),(2,(.dat 3 (.int x1))),(3,(.ptr 0 [] 0)),(18,(.dat 4 (.bool x2)))],[(.box 27 (.dat 27 x3))],0⟩
abbrev H9_3 (m M3:Nat) (rec3:Int→Int→Int→Dt→Option Int):Prop:=∀x0 x1 x2 x3,l9 jn m w9_0 [] M3 (s9_5 x0 x1 x2 x3)=rec3 x0 x1 x2 x3
theorem ref02_count_j5_eq m M3 rec3 (h3:H9_3 m M3 rec3) x0 x1 x2 x3:e9 jn m w9_1 [M3] (s9_5 x0 x1 x2 x3)=ref02_count_j5 m (ref02_count m) rec3 x0 x1 x2 x3:=
 tre (g:=fun J=>(jj J 1 5 M3 (s9_5 x0 x1 (IntKind.wrap .i64 (x2+1)) x3) (l9 J m w9_0 [] M3))) (fun J=>by kernel_rfl) (by simp only[jj_eq,h3];rfl)
theorem ref02_count_j4_eq m M3 rec3 (h3:H9_3 m M3 rec3) x0 x1 x2 x3:e9 jn m w9_2 [M3] (s9_5 x0 x1 x2 x3)=ref02_count_j4 m (ref02_count m) rec3 x0 x1 x2 x3:=
 tre (g:=fun J=>((idx (Dt.L x3 3) x2).bind fun v0=>
  ((ref02_count m v0 (IntKind.wrap .i64 (x0+1)) x1).bind fun r1=>
  (jj J 0 6 0 (s9_5 x0 r1 x2 x3) (e9 J m w9_1 [M3]))))) (fun J=>by kernel_rfl) (by simp only[jj_eq,ref02_count_j5_eq m M3 rec3 h3];rfl)
abbrev H9_8 (m M8:Nat) (rec8:Int→Int→Int→Dt→Option Int):Prop:=∀x0 x1 x2 x3,l9 jn m w9_3 [] M8 (s9_11 x0 x1 x2 x3)=rec8 x0 x1 x2 x3
theorem ref02_count_j11_eq m M8 rec8 (h8:H9_8 m M8 rec8) x0 x1 x2 x3:e9 jn m w9_4 [M8] (s9_11 x0 x1 x2 x3)=ref02_count_j11 m (ref02_count m) rec8 x0 x1 x2 x3:=
 tre (g:=fun J=>(jj J 1 9 M8 (s9_11 x0 x1 (IntKind.wrap .i64 (x2+1)) x3) (l9 J m w9_3 [] M8))) (fun J=>by kernel_rfl) (by simp only[jj_eq,h8];rfl)
theorem ref02_count_j10_eq m M8 rec8 (h8:H9_8 m M8 rec8) x0 x1 x2 x3:e9 jn m w9_5 [M8] (s9_11 x0 x1 x2 x3)=ref02_count_j10 m (ref02_count m) rec8 x0 x1 x2 x3:=
 tre (g:=fun J=>((idx (Dt.L x3 4) x2).bind fun v3=>
  ((ref02_count m (Dt.fld v3 1) (IntKind.wrap .i64 (x0+1)) x1).bind fun r4=>
  (jj J 0 10 0 (s9_11 x0 r4 x2 x3) (e9 J m w9_4 [M8]))))) (fun J=>by kernel_rfl) (by simp only[jj_eq,ref02_count_j11_eq m M8 rec8 h8];rfl)
theorem ref02_count_j9_eq m M8 rec8 (h8:H9_8 m M8 rec8) x0 x1 x2 x3:e9 jn m w9_6 [M8] (s9_11 x0 x1 x2 x3)=ref02_count_j9 m (ref02_count m) rec8 x0 x1 x2 x3:=
 tre (g:=fun J=>((idx (Dt.L x3 4) x2).bind fun v2=>
  (bif (decide (200<(ByteArray.size (Dt.S v2 0):Int))) then
  some (-1)
  else
  (jj J 0 13 0 (s9_11 x0 x1 x2 x3) (e9 J m w9_5 [M8]))))) (fun J=>by kernel_rfl) (by simp only[jj_eq,ref02_count_j10_eq m M8 rec8 h8];rfl)
theorem ref02_count_j12_eq m x0:e9 jn m w9_7 [] (s9_12 x0)=ref02_count_j12 m (ref02_count m) x0:=
 tre (g:=fun J=>some x0) (fun J=>by kernel_rfl) (by rfl)
theorem ref02_count_l8_eq m:∀M8 x0 x1 x2 x3,l9 jn m w9_3 [] M8 (s9_11 x0 x1 x2 x3)=ref02_count_l8 m (ref02_count m) M8 x0 x1 x2 x3
 |0,_,_,_,_=>rfl
 | M8+1,x0,x1,x2,x3=>
   trl (g:=fun J=>(bif (decide (x2<(List.length (Dt.L x3 4):Int))) then
  (bif (decide (0≤x1)) then
  (jj J 0 11 0 (s9_11 x0 x1 x2 x3) (e9 J m w9_6 [M8]))
  else
  (jj J 0 14 0 (s9_12 x1) (e9 J m w9_7 [])))
   else
  (jj J 0 14 0 (s9_12 x1) (e9 J m w9_7 [])))) (fun J=>by kernel_rfl) (by simp only[jj_eq,ref02_count_j9_eq m M8 (ref02_count_l8 m (ref02_count m) M8) (ref02_count_l8_eq m M8),ref02_count_j12_eq m];rfl)
theorem ref02_count_j7_eq m x0 x1 x2 x3:e9 jn m w9_8 [] (s9_11 x0 x1 x2 x3)=ref02_count_j7 m (ref02_count m) x0 x1 x2 x3:=
 tre (g:=fun J=>(jj J 1 9 (Nat.succ m) (s9_11 x0 x1 x2 x3) (l9 J m w9_3 [] (Nat.succ m)))) (fun J=>by kernel_rfl) (by simp only[jj_eq,ref02_count_l8_eq m];rfl)
theorem ref02_count_j6_eq m x0 x1 x2:e9 jn m [1,1,1,1] [] (s9_6 x0 x1 x2)=ref02_count_j6 m (ref02_count m) x0 x1 x2:=
 tre (g:=fun J=>(jj J 0 9 0 (s9_11 x0 x1 0 x2) (e9 J m w9_8 []))) (fun J=>by kernel_rfl) (by simp only[jj_eq,ref02_count_j7_eq m];rfl)
theorem ref02_count_l3_eq m:∀M3 x0 x1 x2 x3,l9 jn m w9_0 [] M3 (s9_5 x0 x1 x2 x3)=ref02_count_l3 m (ref02_count m) M3 x0 x1 x2 x3
 |0,_,_,_,_=>rfl
 | M3+1,x0,x1,x2,x3=>
   trl (g:=fun J=>(bif (decide (x2<(List.length (Dt.L x3 3):Int))) then
  (bif (decide (0≤x1)) then
  (jj J 0 7 0 (s9_5 x0 x1 x2 x3) (e9 J m w9_2 [M3]))
  else
  (jj J 0 8 0 (s9_6 x0 x1 x3) (e9 J m [1,1,1,1] [])))
   else
  (jj J 0 8 0 (s9_6 x0 x1 x3) (e9 J m [1,1,1,1] [])))) (fun J=>by kernel_rfl) (by simp only[jj_eq,ref02_count_j4_eq m M3 (ref02_count_l3 m (ref02_count m) M3) (ref02_count_l3_eq m M3),ref02_count_j6_eq m];rfl)
theorem ref02_count_j2_eq m x0 x1 x2 x3:e9 jn m w9_9 [] (s9_5 x0 x1 x2 x3)=ref02_count_j2 m (ref02_count m) x0 x1 x2 x3:=
 tre (g:=fun J=>(jj J 1 5 (Nat.succ m) (s9_5 x0 x1 x2 x3) (l9 J m w9_0 [] (Nat.succ m)))) (fun J=>by kernel_rfl) (by simp only[jj_eq,ref02_count_l3_eq m];rfl)
theorem ref02_count_j1_eq m x0 x1 x2:e9 jn m [1,1,1] [] (s9_6 x0 x1 x2)=ref02_count_j1 m (ref02_count m) x0 x1 x2:=
 tre (g:=fun J=>(jj J 0 5 0 (s9_5 x0 x1 0 x2) (e9 J m w9_9 []))) (fun J=>by kernel_rfl) (by simp only[jj_eq,ref02_count_j2_eq m];rfl)
theorem ref02_count_j0_eq m x0 x1 x2 x3:e9 jn m [1,1,0,1] [] (s9_0 x0 x1 x2 x3)=ref02_count_j0 m (ref02_count m) x0 x1 x2 x3:=
 tre (g:=fun J=>(bif x2 then
  some (-1)
   else
  (jj J 0 4 0 (s9_6 x0 x1 x3) (e9 J m [1,1,1] [])))) (fun J=>by kernel_rfl) (by simp only[jj_eq,ref02_count_j1_eq m];rfl)
theorem ref02_count_eq m a0 a1 a2:e9 jn m [] [] ⟨[(.dat 27 a0),(.dat 3 (.int a1)),(.dat 3 (.int a2))],[],0⟩=ref02_count (m+1) a0 a1 a2:=
 tre (g:=fun J=>(bif (decide (40<a1)) then
  (jj J 0 3 0 (s9_0 a1 (IntKind.wrap .i64 (a2-1)) true a0) (e9 J m [1,1,0,1] []))
   else
  (jj J 0 3 0 (s9_0 a1 (IntKind.wrap .i64 (a2-1)) (decide (5000<(ByteArray.size (Dt.S a0 2):Int))) a0) (e9 J m [1,1,0,1] [])))) (fun J=>by kernel_rfl) (by simp only[jj_eq,ref02_count_j0_eq m];rfl)
noncomputable def e3 (J:Nat→Nat→Nat→St→Option Bool→Option Bool) (m:Nat) (p ms:List Nat) (σ:St):=evAt Tryd.prog env (ct m) J (m+1) 12 9 Tryd.f12 d3 p ms σ
noncomputable def l3 (J:Nat→Nat→Nat→St→Option Bool→Option Bool) (m:Nat) (p ms:List Nat) (M:Nat) (σ:St):=loopAt Tryd.prog env (ct m) J (m+1) 12 9 Tryd.f12 d3 p ms M σ
theorem ref02_Few_eq m a0 a1:e3 jn m [] [] ⟨[(.dat 27 a0),(.dat 3 (.int a1))],[],0⟩=ref02_Few (m+1) a0 a1:=
 tre (g:=fun J=>((ref02_count m a0 1 a1).bind fun r0=>
  some (decide (0≤r0)))) (fun J=>by kernel_rfl) (by rfl)
noncomputable def e13 (J:Nat→Nat→Nat→St→Option (List Dt)→Option (List Dt)) (m:Nat) (p ms:List Nat) (σ:St):=evAt Tryd.prog env (ct m) J (m+1) 64 10 Tryd.f64 d13 p ms σ
noncomputable def l13 (J:Nat→Nat→Nat→St→Option (List Dt)→Option (List Dt)) (m:Nat) (p ms:List Nat) (M:Nat) (σ:St):=loopAt Tryd.prog env (ct m) J (m+1) 64 10 Tryd.f64 d13 p ms M σ
noncomputable def s13_0 (x0:List Dt):St:=⟨tsOf [(0,(.row 1))],[.gone,(.row 42 x0)],1⟩
theorem i13_j0_eq m x0:e13 jn m [1,1] [] (s13_0 x0)=i13_j0 m x0:=
 tre (g:=fun J=>((app x0 [(Dt.int 102),(Dt.int 97),(Dt.int 108),(Dt.int 115),(Dt.int 101)]).bind fun v1=>
  some v1)) (fun J=>by kernel_rfl) (by rfl)
theorem i13_eq m a0 a1:e13 jn m [] [] ⟨[(.row 0),(.dat 4 (.bool a0))],[(.row 42 a1)],1⟩=i13 (m+1) a0 a1:=
 tre (g:=fun J=>(bif a0 then
  ((app a1 [(Dt.int 116),(Dt.int 114),(Dt.int 117),(Dt.int 101)]).bind fun v0=>
  some v0)
   else
  (jj J 0 3 0 (s13_0 a1) (e13 J m [1,1] [])))) (fun J=>by kernel_rfl) (by simp only[jj_eq,i13_j0_eq m];rfl)
noncomputable def e12 (J:Nat→Nat→Nat→St→Option (List Dt)→Option (List Dt)) (m:Nat) (p ms:List Nat) (σ:St):=evAt Tryd.prog env (ct m) J (m+1) 43 8 Tryd.f43 d13 p ms σ
noncomputable def l12 (J:Nat→Nat→Nat→St→Option (List Dt)→Option (List Dt)) (m:Nat) (p ms:List Nat) (M:Nat) (σ:St):=loopAt Tryd.prog env (ct m) J (m+1) 43 8 Tryd.f43 d13 p ms M σ
theorem i12_eq m a0 a1:e12 jn m [] [] ⟨[(.row 0),(.dat 4 (.bool a0))],[(.row 42 a1)],1⟩=i12 (m+1) a0 a1:=
 tre (g:=fun J=>((i13 m a0 a1).bind fun r0=>
  some r0)) (fun J=>by kernel_rfl) (by rfl)
def w15_0:List Nat:=[1,1,0,1,0]
def w15_4:List Nat:=[1,1,0,1,0,0,1,1]
def w15_1:List Nat:=w15_4++[1]
def w15_3:List Nat:=w15_4++[0,0,1,1,0,1]
def w15_2:List Nat:=w15_3++[1,1,1,1,1,1,1,1]
noncomputable def e15 (J:Nat→Nat→Nat→St→Option ByteArray→Option ByteArray) (m:Nat) (p ms:List Nat) (σ:St):=evAt Tryd.prog env (ct m) J (m+1) 8 68 Tryd.f8 d15 p ms σ
noncomputable def l15 (J:Nat→Nat→Nat→St→Option ByteArray→Option ByteArray) (m:Nat) (p ms:List Nat) (M:Nat) (σ:St):=loopAt Tryd.prog env (ct m) J (m+1) 8 68 Tryd.f8 d15 p ms M σ
noncomputable def s15_4 (x0:ByteArray) (x1 x2:Int) (x3:List Dt):St:=⟨tsOf [(0,(.dat 9 (.str x0))),(3,(.row 0)),(8,(.dat 3 (.int x1))),(9,(.dat 3 (.int x2)))],[(.row 42 x3)],0⟩
noncomputable def s15_5 (x0:ByteArray) (x1 x2 x3:Int) (x4:Bool) (x5:List Dt):St:=⟨tsOf [(0,(.dat 9 (.str x0))),(3,(.row 0)),(5,(.dat 5 (.int x1))),(8,(.dat 3 (.int x2))),(9,(.dat 3 (.int x3))),(45,(.dat 4 (.bool x4)))],[(.row 42 x5)],0⟩
noncomputable def s15_3 (x0:ByteArray) (x1 x2 x3:Int) (x4:Bool) (x5:List Dt):St:=⟨tsOf [(0,(.dat 9 (.str x0))),(3,(.row 0)),(5,(.dat 5 (.int x1))),(8,(.dat 3 (.int x2))),(9,(.dat 3 (.int x3))),(19,(.dat 4 (.bool x4)))],[(.row 42 x5)],0⟩
noncomputable def s15_6 (x0:List Dt):St:=⟨tsOf [(3,(.row 0))],[(.row 42 x0)],0⟩
abbrev H15_1 (m M1:Nat) (rec1:ByteArray→Int→Int→List Dt→Option ByteArray):Prop:=∀x0 x1 x2 x3,l15 jn m w15_0 [] M1 (s15_4 x0 x1 x2 x3)=rec1 x0 x1 x2 x3
theorem notation_Quote_j4_eq m M1 rec1 (h1:H15_1 m M1 rec1) x0 x1 x2 x3:e15 jn m w15_1 [M1] (s15_4 x0 x1 x2 x3)=notation_Quote_j4 m rec1 x0 x1 x2 x3:=
 tre (g:=fun J=>(jj J 1 3 M1 (s15_4 x0 x1 (IntKind.wrap .i64 (x2+1)) x3) (l15 J m w15_0 [] M1))) (fun J=>by kernel_rfl) (by simp only[jj_eq,h1];rfl)
theorem notation_Quote_j5_eq m M1 rec1 (h1:H15_1 m M1 rec1) x0 x1 x2 x3 x4 x5:e15 jn m w15_2 [M1] (s15_5 x0 x1 x2 x3 x4 x5)=notation_Quote_j5 m rec1 x0 x1 x2 x3 x4 x5:=
 tre (g:=fun J=>(bif x4 then
  ((app x5 [(Dt.int 92),(Dt.int 117),(Dt.int 48),(Dt.int 48)]).bind fun v5=>
  ((idxS (ByteArray.mk (List.toArray [48,49,50,51,52,53,54,55,56,57,97,98,99,100,101,102])) (shrI IntKind.u8 x1 4)).bind fun v6=>
  ((idxS (ByteArray.mk (List.toArray [48,49,50,51,52,53,54,55,56,57,97,98,99,100,101,102])) (andI IntKind.u8 x1 15)).bind fun v7=>
  ((app v5 [(Dt.int v6),(Dt.int v7)]).bind fun v8=>
  (jj J 0 18 0 (s15_4 x0 x2 x3 v8) (e15 J m w15_1 [M1]))))))
   else
  ((app x5 [(Dt.int x1)]).bind fun v9=>
  (jj J 0 18 0 (s15_4 x0 x2 x3 v9) (e15 J m w15_1 [M1]))))) (fun J=>by kernel_rfl) (by simp only[jj_eq,notation_Quote_j4_eq m M1 rec1 h1];rfl)
theorem notation_Quote_j3_eq m M1 rec1 (h1:H15_1 m M1 rec1) x0 x1 x2 x3 x4 x5:e15 jn m w15_3 [M1] (s15_3 x0 x1 x2 x3 x4 x5)=notation_Quote_j3 m rec1 x0 x1 x2 x3 x4 x5:=
 tre (g:=fun J=>(bif x4 then
  ((app x5 [(Dt.int 92),(Dt.int x1)]).bind fun v1=>
  (jj J 0 18 0 (s15_4 x0 x2 x3 v1) (e15 J m w15_1 [M1])))
   else
  (bif (x1==10) then
  ((app x5 [(Dt.int 92),(Dt.int 110)]).bind fun v2=>
  (jj J 0 18 0 (s15_4 x0 x2 x3 v2) (e15 J m w15_1 [M1])))
  else
  (bif (x1==13) then
  ((app x5 [(Dt.int 92),(Dt.int 114)]).bind fun v3=>
  (jj J 0 18 0 (s15_4 x0 x2 x3 v3) (e15 J m w15_1 [M1])))
  else
  (bif (x1==9) then
  ((app x5 [(Dt.int 92),(Dt.int 116)]).bind fun v4=>
  (jj J 0 18 0 (s15_4 x0 x2 x3 v4) (e15 J m w15_1 [M1])))
  else
  (bif (decide (x1<32)) then
  (jj J 0 16 0 (s15_5 x0 x1 x2 x3 true x5) (e15 J m w15_2 [M1]))
  else
  (jj J 0 16 0 (s15_5 x0 x1 x2 x3 (x1==127) x5) (e15 J m w15_2 [M1])))))))) (fun J=>by kernel_rfl) (by simp only[jj_eq,notation_Quote_j4_eq m M1 rec1 h1,notation_Quote_j5_eq m M1 rec1 h1];rfl)
theorem notation_Quote_j2_eq m M1 rec1 (h1:H15_1 m M1 rec1) x0 x1 x2 x3:e15 jn m w15_4 [M1] (s15_4 x0 x1 x2 x3)=notation_Quote_j2 m rec1 x0 x1 x2 x3:=
 tre (g:=fun J=>((idxS x0 x2).bind fun v0=>
  (bif (v0==34) then
  (jj J 0 8 0 (s15_3 x0 v0 x1 x2 true x3) (e15 J m w15_3 [M1]))
  else
  (jj J 0 8 0 (s15_3 x0 v0 x1 x2 (v0==92) x3) (e15 J m w15_3 [M1]))))) (fun J=>by kernel_rfl) (by simp only[jj_eq,notation_Quote_j3_eq m M1 rec1 h1];rfl)
theorem notation_Quote_j6_eq m x0:e15 jn m [1,1,1] [] (s15_6 x0)=notation_Quote_j6 m x0:=
 tre (g:=fun J=>((app x0 [(Dt.int 34)]).bind fun v10=>
  ((bif (Nat.ble (List.length v10) 137438953472) then(Option.some (strOfNums (List.map Dt.toInt v10))) else(Option.none)).bind fun v11=>
  some v11))) (fun J=>by kernel_rfl) (by rfl)
theorem notation_Quote_l1_eq m:∀M1 x0 x1 x2 x3,l15 jn m w15_0 [] M1 (s15_4 x0 x1 x2 x3)=notation_Quote_l1 m M1 x0 x1 x2 x3
 |0,_,_,_,_=>rfl
 | M1+1,x0,x1,x2,x3=>
   trl (g:=fun J=>(bif (decide (x2<x1)) then
  (jj J 0 4 0 (s15_4 x0 x1 x2 x3) (e15 J m w15_4 [M1]))
   else
  (jj J 0 19 0 (s15_6 x3) (e15 J m [1,1,1] [])))) (fun J=>by kernel_rfl) (by simp only[jj_eq,notation_Quote_j2_eq m M1 (notation_Quote_l1 m M1) (notation_Quote_l1_eq m M1),notation_Quote_j6_eq m];rfl)
theorem notation_Quote_j0_eq m x0 x1 x2 x3:e15 jn m [1,1,0,1] [] (s15_4 x0 x1 x2 x3)=notation_Quote_j0 m x0 x1 x2 x3:=
 tre (g:=fun J=>(jj J 1 3 (Nat.succ m) (s15_4 x0 x1 x2 x3) (l15 J m w15_0 [] (Nat.succ m)))) (fun J=>by kernel_rfl) (by simp only[jj_eq,notation_Quote_l1_eq m];rfl)
theorem notation_Quote_eq m a0:e15 jn m [] [] ⟨[(.dat 9 (.str a0))],[],0⟩=notation_Quote (m+1) a0:=
 tre (g:=fun J=>(jj J 0 3 0 (s15_4 a0 (ByteArray.size a0:Int) 0 [(Dt.int 34)]) (e15 J m [1,1,0,1] []))) (fun J=>by kernel_rfl) (by simp only[jj_eq,notation_Quote_j0_eq m];rfl)
def w16_1:List Nat:=[1,0,1,0,0,1,1]
def w16_0:List Nat:=w16_1++[1]
noncomputable def e16 (J:Nat→Nat→Nat→St→Option (List Dt)→Option (List Dt)) (m:Nat) (p ms:List Nat) (σ:St):=evAt Tryd.prog env (ct m) J (m+1) 45 26 Tryd.f45 d13 p ms σ
noncomputable def l16 (J:Nat→Nat→Nat→St→Option (List Dt)→Option (List Dt)) (m:Nat) (p ms:List Nat) (M:Nat) (σ:St):=loopAt Tryd.prog env (ct m) J (m+1) 45 26 Tryd.f45 d13 p ms M σ
noncomputable def s16_3 (x0:ByteArray) (x1 x2:Int) (x3:List Dt):St:=⟨tsOf [(0,(.row 1)),(1,(.dat 9 (.str x0))),(7,(.dat 3 (.int x1))),(8,(.dat 3 (.int x2)))],[.gone,(.row 42 x3)],1⟩
noncomputable def s16_4 (x0:List Dt):St:=⟨tsOf [(0,(.row 1))],[.gone,(.row 42 x0)],1⟩
abbrev H16_1 (m M1:Nat) (rec1:ByteArray→Int→Int→List Dt→Option (List Dt)):Prop:=∀x0 x1 x2 x3,l16 jn m [1,0,1,0] [] M1 (s16_3 x0 x1 x2 x3)=rec1 x0 x1 x2 x3
theorem i16_j3_eq m M1 rec1 (h1:H16_1 m M1 rec1) x0 x1 x2 x3:e16 jn m w16_0 [M1] (s16_3 x0 x1 x2 x3)=i16_j3 m rec1 x0 x1 x2 x3:=
 tre (g:=fun J=>(jj J 1 2 M1 (s16_3 x0 x1 (IntKind.wrap .i64 (x2+1)) x3) (l16 J m [1,0,1,0] [] M1))) (fun J=>by kernel_rfl) (by simp only[jj_eq,h1];rfl)
theorem i16_j2_eq m M1 rec1 (h1:H16_1 m M1 rec1) x0 x1 x2 x3:e16 jn m w16_1 [M1] (s16_3 x0 x1 x2 x3)=i16_j2 m rec1 x0 x1 x2 x3:=
 tre (g:=fun J=>((idxS x0 x2).bind fun v0=>
  ((idxS (ByteArray.mk (List.toArray [48,49,50,51,52,53,54,55,56,57,97,98,99,100,101,102])) (shrI IntKind.u8 v0 4)).bind fun v1=>
  ((idxS x0 x2).bind fun v2=>
  ((idxS (ByteArray.mk (List.toArray [48,49,50,51,52,53,54,55,56,57,97,98,99,100,101,102])) (andI IntKind.u8 v2 15)).bind fun v3=>
  ((app x3 [(Dt.int v1),(Dt.int v3)]).bind fun v4=>
  (jj J 0 5 0 (s16_3 x0 x1 x2 v4) (e16 J m w16_0 [M1])))))))) (fun J=>by kernel_rfl) (by simp only[jj_eq,i16_j3_eq m M1 rec1 h1];rfl)
theorem i16_j4_eq m x0:e16 jn m [1,1] [] (s16_4 x0)=i16_j4 m x0:=
 tre (g:=fun J=>some x0) (fun J=>by kernel_rfl) (by rfl)
theorem i16_l1_eq m:∀M1 x0 x1 x2 x3,l16 jn m [1,0,1,0] [] M1 (s16_3 x0 x1 x2 x3)=i16_l1 m M1 x0 x1 x2 x3
 |0,_,_,_,_=>rfl
 | M1+1,x0,x1,x2,x3=>
   trl (g:=fun J=>(bif (decide (x2<x1)) then
  (jj J 0 3 0 (s16_3 x0 x1 x2 x3) (e16 J m w16_1 [M1]))
   else
  (jj J 0 6 0 (s16_4 x3) (e16 J m [1,1] [])))) (fun J=>by kernel_rfl) (by simp only[jj_eq,i16_j2_eq m M1 (i16_l1 m M1) (i16_l1_eq m M1),i16_j4_eq m];rfl)
theorem i16_j0_eq m x0 x1 x2 x3:e16 jn m [1,0,1] [] (s16_3 x0 x1 x2 x3)=i16_j0 m x0 x1 x2 x3:=
 tre (g:=fun J=>(jj J 1 2 (Nat.succ m) (s16_3 x0 x1 x2 x3) (l16 J m [1,0,1,0] [] (Nat.succ m)))) (fun J=>by kernel_rfl) (by simp only[jj_eq,i16_l1_eq m];rfl)
theorem i16_eq m a0 a1:e16 jn m [] [] ⟨[(.row 0),(.dat 9 (.str a0))],[(.row 42 a1)],1⟩=i16 (m+1) a0 a1:=
 tre (g:=fun J=>(jj J 0 2 0 (s16_3 a0 (ByteArray.size a0:Int) 0 a1) (e16 J m [1,0,1] []))) (fun J=>by kernel_rfl) (by simp only[jj_eq,i16_j0_eq m];rfl)
noncomputable def e24 (J:Nat→Nat→Nat→St→Option (Int×Dt)→Option (Int×Dt)) (m:Nat) (p ms:List Nat) (σ:St):=evAt Tryd.prog env (ct m) J (m+1) 28 23 Tryd.f28 d24 p ms σ
noncomputable def l24 (J:Nat→Nat→Nat→St→Option (Int×Dt)→Option (Int×Dt)) (m:Nat) (p ms:List Nat) (M:Nat) (σ:St):=loopAt Tryd.prog env (ct m) J (m+1) 28 23 Tryd.f28 d24 p ms M σ
noncomputable def s24_0 (x0:Dt):St:=⟨tsOf [(0,(.ptr 0 [] 0))],[(.box 45 (.dat 45 x0))],1⟩
theorem i24_j0_eq m x0:e24 jn m [1,1] [] (s24_0 x0)=i24_j0 m x0:=
 tre (g:=fun J=>((idxS (Dt.S x0 0) (Dt.I x0 1)).bind fun v0=>
  some ((IntKind.wrap .i64 v0),x0))) (fun J=>by kernel_rfl) (by rfl)
theorem i24_eq m a0:e24 jn m [] [] ⟨[(.ptr 0 [] 0)],[(.box 45 (.dat 45 a0))],1⟩=i24 (m+1) a0:=
 tre (g:=fun J=>(bif ((Dt.I a0 1)==(ByteArray.size (Dt.S a0 0):Int)) then
  some ((-1),a0)
   else
  (jj J 0 3 0 (s24_0 a0) (e24 J m [1,1] [])))) (fun J=>by kernel_rfl) (by simp only[jj_eq,i24_j0_eq m];rfl)
def w23_0:List Nat:=[0,0,0,1,0,1]
noncomputable def e23 (J:Nat→Nat→Nat→St→Option Dt→Option Dt) (m:Nat) (p ms:List Nat) (σ:St):=evAt Tryd.prog env (ct m) J (m+1) 17 16 Tryd.f17 d23 p ms σ
noncomputable def l23 (J:Nat→Nat→Nat→St→Option Dt→Option Dt) (m:Nat) (p ms:List Nat) (M:Nat) (σ:St):=loopAt Tryd.prog env (ct m) J (m+1) 17 16 Tryd.f17 d23 p ms M σ
noncomputable def s23_1 (x0:Bool) (x1:Dt):St:=⟨tsOf [(0,(.ptr 0 [] 0)),(4,(.dat 4 (.bool x0)))],[(.box 45 (.dat 45 x1))],1⟩
noncomputable def s23_0 (x0:Dt):St:=⟨tsOf [(0,(.ptr 0 [] 0))],[(.box 45 (.dat 45 x0))],1⟩
abbrev H23_0 (m M0:Nat) (rec0:Dt→Option Dt):Prop:=∀x0,l23 jn m [0] [] M0 (s23_0 x0)=rec0 x0
theorem i23_j1_eq m M0 rec0 (h0:H23_0 m M0 rec0) x0 x1:e23 jn m w23_0 [M0] (s23_1 x0 x1)=i23_j1 m rec0 x0 x1:=
 tre (g:=fun J=>(bif x0 then
  (jj J 1 0 M0 (s23_0 (Dt.agg [(Dt.str (Dt.S x1 0)),(Dt.int (IntKind.wrap .i64 ((Dt.I x1 1)+1))),(Dt.int (Dt.I x1 2)),(Dt.int (Dt.I x1 3)),(Dt.int (Dt.I x1 4))])) (l23 J m [0] [] M0))
   else
  some x1)) (fun J=>by kernel_rfl) (by simp only[jj_eq,h0];rfl)
theorem i23_l0_eq m:∀M0 x0,l23 jn m [0] [] M0 (s23_0 x0)=i23_l0 m M0 x0
 |0,_=>rfl
 | M0+1,x0=>
   trl (g:=fun J=>((i24 m x0).bind fun r0=>
  (bif (r0.1==9) then
  (jj J 0 5 0 (s23_1 (r0.1==9) r0.2) (e23 J m w23_0 [M0]))
  else
  (bif (r0.1==10) then
  (jj J 0 5 0 (s23_1 (r0.1==10) r0.2) (e23 J m w23_0 [M0]))
  else
  (bif (r0.1==13) then
  (jj J 0 5 0 (s23_1 (r0.1==13) r0.2) (e23 J m w23_0 [M0]))
  else
  (jj J 0 5 0 (s23_1 (r0.1==32) r0.2) (e23 J m w23_0 [M0]))))))) (fun J=>by kernel_rfl) (by simp only[jj_eq,i23_j1_eq m M0 (i23_l0 m M0) (i23_l0_eq m M0)];rfl)
theorem i23_eq m a0:e23 jn m [] [] ⟨[(.ptr 0 [] 0)],[(.box 45 (.dat 45 a0))],1⟩=i23 (m+1) a0:=
 tre (g:=fun J=>(jj J 1 0 (Nat.succ m) (s23_0 a0) (l23 J m [0] [] (Nat.succ m)))) (fun J=>by kernel_rfl) (by simp only[jj_eq,i23_l0_eq m];rfl)
noncomputable def e27 (J:Nat→Nat→Nat→St→Option (Bool×Dt)→Option (Bool×Dt)) (m:Nat) (p ms:List Nat) (σ:St):=evAt Tryd.prog env (ct m) J (m+1) 19 15 Tryd.f19 d27 p ms σ
noncomputable def l27 (J:Nat→Nat→Nat→St→Option (Bool×Dt)→Option (Bool×Dt)) (m:Nat) (p ms:List Nat) (M:Nat) (σ:St):=loopAt Tryd.prog env (ct m) J (m+1) 19 15 Tryd.f19 d27 p ms M σ
theorem i27_eq m a0 a1 a2:e27 jn m [] [] ⟨[(.ptr 0 [] 0),(.dat 28 (.int a0)),(.dat 3 (.int a1))],[(.box 45 (.dat 45 a2))],1⟩=i27 (m+1) a0 a1 a2:=
 tre (g:=fun J=>some (false,(Dt.agg [(Dt.str (Dt.S a2 0)),(Dt.int (Dt.I a2 1)),(Dt.int (Dt.I a2 2)),(Dt.int a0),(Dt.int a1)]))) (fun J=>by kernel_rfl) (by rfl)
noncomputable def e26 (J:Nat→Nat→Nat→St→Option (Bool×Dt)→Option (Bool×Dt)) (m:Nat) (p ms:List Nat) (σ:St):=evAt Tryd.prog env (ct m) J (m+1) 29 26 Tryd.f29 d27 p ms σ
noncomputable def l26 (J:Nat→Nat→Nat→St→Option (Bool×Dt)→Option (Bool×Dt)) (m:Nat) (p ms:List Nat) (M:Nat) (σ:St):=loopAt Tryd.prog env (ct m) J (m+1) 29 26 Tryd.f29 d27 p ms M σ
noncomputable def s26_1 (x0:Dt):St:=⟨tsOf [(0,(.ptr 0 [] 0))],[(.box 45 (.dat 45 x0))],1⟩
noncomputable def s26_0 (x0:Int) (x1:Bool) (x2:Dt):St:=⟨tsOf [(0,(.ptr 0 [] 0)),(2,(.dat 3 (.int x0))),(15,(.dat 4 (.bool x1)))],[(.box 45 (.dat 45 x2))],1⟩
theorem i26_j1_eq m x0:e26 jn m [1,1] [] (s26_1 x0)=i26_j1 m x0:=
 tre (g:=fun J=>some (true,(Dt.agg [(Dt.str (Dt.S x0 0)),(Dt.int (Dt.I x0 1)),(Dt.int (IntKind.wrap .i64 ((Dt.I x0 2)+1))),(Dt.int (Dt.I x0 3)),(Dt.int (Dt.I x0 4))]))) (fun J=>by kernel_rfl) (by rfl)
theorem i26_j0_eq m x0 x1 x2:e26 jn m [1,0,1] [] (s26_0 x0 x1 x2)=i26_j0 m x0 x1 x2:=
 tre (g:=fun J=>(bif x1 then
  ((i27 m 2 x0 x2).bind fun r0=>
  some (r0.1,r0.2))
   else
  (jj J 0 3 0 (s26_1 x2) (e26 J m [1,1] [])))) (fun J=>by kernel_rfl) (by simp only[jj_eq,i26_j1_eq m];rfl)
theorem i26_eq m a0 a1 a2:e26 jn m [] [] ⟨[(.ptr 0 [] 0),(.dat 3 (.int a0)),(.dat 3 (.int a1))],[(.box 45 (.dat 45 a2))],1⟩=i26 (m+1) a0 a1 a2:=
 tre (g:=fun J=>(bif (decide (16<a0)) then
  (jj J 0 2 0 (s26_0 a1 true a2) (e26 J m [1,0,1] []))
   else
  (jj J 0 2 0 (s26_0 a1 ((Dt.I a2 2)==1024) a2) (e26 J m [1,0,1] [])))) (fun J=>by kernel_rfl) (by simp only[jj_eq,i26_j0_eq m];rfl)
def w31_0:List Nat:=[1,1,0,1,0]
def w31_8:List Nat:=[1,1,0,1,0,0,1,1]
def w31_1:List Nat:=w31_8++[1]
def w31_4:List Nat:=w31_8++[0,0,1,1,1,1]
def w31_2:List Nat:=w31_4++[1]
def w31_3:List Nat:=w31_4++[0,1]
def w31_7:List Nat:=w31_8++[0,0,1,1,1,0,0,1]
def w31_6:List Nat:=w31_7++[1,1]
def w31_5:List Nat:=w31_6++[1,1]
noncomputable def e31 (J:Nat→Nat→Nat→St→Option (Int×Bool×Dt)→Option (Int×Bool×Dt)) (m:Nat) (p ms:List Nat) (σ:St):=evAt Tryd.prog env (ct m) J (m+1) 78 76 Tryd.f78 d31 p ms σ
noncomputable def l31 (J:Nat→Nat→Nat→St→Option (Int×Bool×Dt)→Option (Int×Bool×Dt)) (m:Nat) (p ms:List Nat) (M:Nat) (σ:St):=loopAt Tryd.prog env (ct m) J (m+1) 78 76 Tryd.f78 d31 p ms M σ
noncomputable def s31_7 (x0 x1:Int) (x2:Dt):St:=⟨tsOf [(0,(.ptr 0 [] 0)),(4,(.dat 21 (.int x0))),(8,(.dat 3 (.int x1)))],[(.box 45 (.dat 45 x2))],1⟩
noncomputable def s31_6 (x0 x1 x2:Int) (x3:Dt):St:=⟨tsOf [(0,(.ptr 0 [] 0)),(4,(.dat 21 (.int x0))),(7,(.dat 3 (.int x1))),(8,(.dat 3 (.int x2)))],[(.box 45 (.dat 45 x3))],1⟩
noncomputable def s31_5 (x0 x1 x2:Int) (x3:Bool) (x4:Dt):St:=⟨tsOf [(0,(.ptr 0 [] 0)),(4,(.dat 21 (.int x0))),(7,(.dat 3 (.int x1))),(8,(.dat 3 (.int x2))),(55,(.dat 4 (.bool x3)))],[(.box 45 (.dat 45 x4))],1⟩
noncomputable def s31_4 (x0 x1 x2 x3:Int) (x4:Dt):St:=⟨tsOf [(0,(.ptr 0 [] 0)),(4,(.dat 21 (.int x0))),(5,(.dat 3 (.int x1))),(7,(.dat 3 (.int x2))),(8,(.dat 3 (.int x3)))],[(.box 45 (.dat 45 x4))],1⟩
noncomputable def s31_9 (x0 x1 x2 x3 x4:Int) (x5:Bool) (x6:Dt):St:=⟨tsOf [(0,(.ptr 0 [] 0)),(4,(.dat 21 (.int x0))),(5,(.dat 3 (.int x1))),(6,(.dat 3 (.int x2))),(7,(.dat 3 (.int x3))),(8,(.dat 3 (.int x4))),(32,(.dat 4 (.bool x5)))],[(.box 45 (.dat 45 x6))],1⟩
noncomputable def s31_8 (x0 x1 x2 x3 x4:Int) (x5:Bool) (x6:Dt):St:=⟨tsOf [(0,(.ptr 0 [] 0)),(4,(.dat 21 (.int x0))),(5,(.dat 3 (.int x1))),(6,(.dat 3 (.int x2))),(7,(.dat 3 (.int x3))),(8,(.dat 3 (.int x4))),(22,(.dat 4 (.bool x5)))],[(.box 45 (.dat 45 x6))],1⟩
noncomputable def s31_3 (x0 x1 x2 x3 x4:Int) (x5:Bool) (x6:Dt):St:=⟨tsOf [(0,(.ptr 0 [] 0)),(4,(.dat 21 (.int x0))),(5,(.dat 3 (.int x1))),(6,(.dat 3 (.int x2))),(7,(.dat 3 (.int x3))),(8,(.dat 3 (.int x4))),(13,(.dat 4 (.bool x5)))],[(.box 45 (.dat 45 x6))],1⟩
noncomputable def s31_10 (x0:Int) (x1:Dt):St:=⟨tsOf [(4,(.dat 21 (.int x0)))],[(.box 45 (.dat 45 x1))],1⟩
abbrev H31_1 (m M1:Nat) (rec1:Int→Int→Dt→Option (Int×Bool×Dt)):Prop:=∀x0 x1 x2,l31 jn m w31_0 [] M1 (s31_7 x0 x1 x2)=rec1 x0 x1 x2
theorem i31_j7_eq m M1 rec1 (h1:H31_1 m M1 rec1) x0 x1 x2:e31 jn m w31_1 [M1] (s31_7 x0 x1 x2)=i31_j7 m rec1 x0 x1 x2:=
 tre (g:=fun J=>(jj J 1 3 M1 (s31_7 x0 (IntKind.wrap .i64 (x1+1)) x2) (l31 J m w31_0 [] M1))) (fun J=>by kernel_rfl) (by simp only[jj_eq,h1];rfl)
theorem i31_j6_eq m M1 rec1 (h1:H31_1 m M1 rec1) x0 x1 x2 x3:e31 jn m w31_2 [M1] (s31_6 x0 x1 x2 x3)=i31_j6 m rec1 x0 x1 x2 x3:=
 tre (g:=fun J=>(jj J 0 17 0 (s31_7 (orI IntKind.i32 (shlI IntKind.i32 x0 4) (IntKind.wrap IntKind.i32 x1)) x2 (Dt.agg [(Dt.str (Dt.S x3 0)),(Dt.int (IntKind.wrap .i64 ((Dt.I x3 1)+1))),(Dt.int (Dt.I x3 2)),(Dt.int (Dt.I x3 3)),(Dt.int (Dt.I x3 4))])) (e31 J m w31_1 [M1]))) (fun J=>by kernel_rfl) (by simp only[jj_eq,i31_j7_eq m M1 rec1 h1];rfl)
theorem i31_j5_eq m M1 rec1 (h1:H31_1 m M1 rec1) x0 x1 x2 x3 x4:e31 jn m w31_3 [M1] (s31_5 x0 x1 x2 x3 x4)=i31_j5 m rec1 x0 x1 x2 x3 x4:=
 tre (g:=fun J=>(bif x3 then
  ((i27 m 4 (Dt.I x4 1) x4).bind fun r1=>
  some (0,r1.1,r1.2))
   else
  (jj J 0 15 0 (s31_6 x0 x1 x2 x4) (e31 J m w31_2 [M1])))) (fun J=>by kernel_rfl) (by simp only[jj_eq,i31_j6_eq m M1 rec1 h1];rfl)
theorem i31_j4_eq m M1 rec1 (h1:H31_1 m M1 rec1) x0 x1 x2 x3 x4:e31 jn m w31_4 [M1] (s31_4 x0 x1 x2 x3 x4)=i31_j4 m rec1 x0 x1 x2 x3 x4:=
 tre (g:=fun J=>(bif (decide (x2<0)) then
  (jj J 0 14 0 (s31_5 x0 x2 x3 true x4) (e31 J m w31_3 [M1]))
   else
  (bif (x1==1) then
  (bif (x0==13) then
  (jj J 0 14 0 (s31_5 x0 x2 x3 (decide (8≤x2)) x4) (e31 J m w31_3 [M1]))
  else
  (jj J 0 14 0 (s31_5 x0 x2 x3 false x4) (e31 J m w31_3 [M1])))
  else
  (jj J 0 14 0 (s31_5 x0 x2 x3 false x4) (e31 J m w31_3 [M1]))))) (fun J=>by kernel_rfl) (by simp only[jj_eq,i31_j5_eq m M1 rec1 h1];rfl)
theorem i31_j9_eq m M1 rec1 (h1:H31_1 m M1 rec1) x0 x1 x2 x3 x4 x5 x6:e31 jn m w31_5 [M1] (s31_9 x0 x1 x2 x3 x4 x5 x6)=i31_j9 m rec1 x0 x1 x2 x3 x4 x5 x6:=
 tre (g:=fun J=>(bif x5 then
  (jj J 0 13 0 (s31_4 x0 x1 (IntKind.wrap .i64 ((IntKind.wrap .i64 (x2-65))+10)) x4 x6) (e31 J m w31_4 [M1]))
   else
  (jj J 0 13 0 (s31_4 x0 x1 x3 x4 x6) (e31 J m w31_4 [M1])))) (fun J=>by kernel_rfl) (by simp only[jj_eq,i31_j4_eq m M1 rec1 h1];rfl)
theorem i31_j8_eq m M1 rec1 (h1:H31_1 m M1 rec1) x0 x1 x2 x3 x4 x5 x6:e31 jn m w31_6 [M1] (s31_8 x0 x1 x2 x3 x4 x5 x6)=i31_j8 m rec1 x0 x1 x2 x3 x4 x5 x6:=
 tre (g:=fun J=>(bif x5 then
  (jj J 0 13 0 (s31_4 x0 x1 (IntKind.wrap .i64 ((IntKind.wrap .i64 (x2-97))+10)) x4 x6) (e31 J m w31_4 [M1]))
   else
  (bif (decide (65≤x2)) then
  (jj J 0 12 0 (s31_9 x0 x1 x2 x3 x4 (decide (x2≤70)) x6) (e31 J m w31_5 [M1]))
  else
  (jj J 0 12 0 (s31_9 x0 x1 x2 x3 x4 false x6) (e31 J m w31_5 [M1]))))) (fun J=>by kernel_rfl) (by simp only[jj_eq,i31_j4_eq m M1 rec1 h1,i31_j9_eq m M1 rec1 h1];rfl)
theorem i31_j3_eq m M1 rec1 (h1:H31_1 m M1 rec1) x0 x1 x2 x3 x4 x5 x6:e31 jn m w31_7 [M1] (s31_3 x0 x1 x2 x3 x4 x5 x6)=i31_j3 m rec1 x0 x1 x2 x3 x4 x5 x6:=
 tre (g:=fun J=>(bif x5 then
  (jj J 0 13 0 (s31_4 x0 x1 (IntKind.wrap .i64 (x2-48)) x4 x6) (e31 J m w31_4 [M1]))
   else
  (bif (decide (97≤x2)) then
  (jj J 0 10 0 (s31_8 x0 x1 x2 x3 x4 (decide (x2≤102)) x6) (e31 J m w31_6 [M1]))
  else
  (jj J 0 10 0 (s31_8 x0 x1 x2 x3 x4 false x6) (e31 J m w31_6 [M1]))))) (fun J=>by kernel_rfl) (by simp only[jj_eq,i31_j4_eq m M1 rec1 h1,i31_j8_eq m M1 rec1 h1];rfl)
theorem i31_j2_eq m M1 rec1 (h1:H31_1 m M1 rec1) x0 x1 x2:e31 jn m w31_8 [M1] (s31_7 x0 x1 x2)=i31_j2 m rec1 x0 x1 x2:=
 tre (g:=fun J=>((i24 m x2).bind fun r0=>
  (bif (decide (48≤r0.1)) then
  (jj J 0 8 0 (s31_3 x0 x1 r0.1 (-1) x1 (decide (r0.1≤57)) r0.2) (e31 J m w31_7 [M1]))
  else
  (jj J 0 8 0 (s31_3 x0 x1 r0.1 (-1) x1 false r0.2) (e31 J m w31_7 [M1]))))) (fun J=>by kernel_rfl) (by simp only[jj_eq,i31_j3_eq m M1 rec1 h1];rfl)
theorem i31_j10_eq m x0 x1:e31 jn m [1,1,1] [] (s31_10 x0 x1)=i31_j10 m x0 x1:=
 tre (g:=fun J=>some (x0,true,x1)) (fun J=>by kernel_rfl) (by rfl)
theorem i31_l1_eq m:∀M1 x0 x1 x2,l31 jn m w31_0 [] M1 (s31_7 x0 x1 x2)=i31_l1 m M1 x0 x1 x2
 |0,_,_,_=>rfl
 | M1+1,x0,x1,x2=>
   trl (g:=fun J=>(bif (decide (x1<4)) then
  (jj J 0 4 0 (s31_7 x0 x1 x2) (e31 J m w31_8 [M1]))
   else
  (jj J 0 18 0 (s31_10 x0 x2) (e31 J m [1,1,1] [])))) (fun J=>by kernel_rfl) (by simp only[jj_eq,i31_j2_eq m M1 (i31_l1 m M1) (i31_l1_eq m M1),i31_j10_eq m];rfl)
theorem i31_j0_eq m x0 x1 x2:e31 jn m [1,1,0,1] [] (s31_7 x0 x1 x2)=i31_j0 m x0 x1 x2:=
 tre (g:=fun J=>(jj J 1 3 (Nat.succ m) (s31_7 x0 x1 x2) (l31 J m w31_0 [] (Nat.succ m)))) (fun J=>by kernel_rfl) (by simp only[jj_eq,i31_l1_eq m];rfl)
theorem i31_eq m a0:e31 jn m [] [] ⟨[(.ptr 0 [] 0)],[(.box 45 (.dat 45 a0))],1⟩=i31 (m+1) a0:=
 tre (g:=fun J=>(jj J 0 3 0 (s31_7 0 0 a0) (e31 J m [1,1,0,1] []))) (fun J=>by kernel_rfl) (by simp only[jj_eq,i31_j0_eq m];rfl)
def w30_0:List Nat:=[1,1,1,0,1,0,1]
noncomputable def e30 (J:Nat→Nat→Nat→St→Option (Int×Bool×Dt)→Option (Int×Bool×Dt)) (m:Nat) (p ms:List Nat) (σ:St):=evAt Tryd.prog env (ct m) J (m+1) 66 52 Tryd.f66 d31 p ms σ
noncomputable def l30 (J:Nat→Nat→Nat→St→Option (Int×Bool×Dt)→Option (Int×Bool×Dt)) (m:Nat) (p ms:List Nat) (M:Nat) (σ:St):=loopAt Tryd.prog env (ct m) J (m+1) 66 52 Tryd.f66 d31 p ms M σ
noncomputable def s30_1 (x0:Int) (x1:Dt):St:=⟨tsOf [(0,(.ptr 0 [] 0)),(5,(.dat 21 (.int x0)))],[(.box 45 (.dat 45 x1))],1⟩
noncomputable def s30_0 (x0 x1:Int) (x2:Bool) (x3:Dt):St:=⟨tsOf [(0,(.ptr 0 [] 0)),(5,(.dat 21 (.int x0))),(10,(.dat 3 (.int x1))),(17,(.dat 4 (.bool x2)))],[(.box 45 (.dat 45 x3))],1⟩
theorem i30_j1_eq m x0 x1:e30 jn m [1,1,1,1] [] (s30_1 x0 x1)=i30_j1 m x0 x1:=
 tre (g:=fun J=>some (x0,true,(Dt.agg [(Dt.str (Dt.S x1 0)),(Dt.int (IntKind.wrap .i64 ((Dt.I x1 1)+1))),(Dt.int (Dt.I x1 2)),(Dt.int (Dt.I x1 3)),(Dt.int (Dt.I x1 4))]))) (fun J=>by kernel_rfl) (by rfl)
theorem i30_j0_eq m x0 x1 x2 x3:e30 jn m w30_0 [] (s30_0 x0 x1 x2 x3)=i30_j0 m x0 x1 x2 x3:=
 tre (g:=fun J=>(bif x2 then
  (jj J 0 21 0 (s30_1 x0 x3) (e30 J m [1,1,1,1] []))
   else
  (bif (x1==98) then
  (jj J 0 21 0 (s30_1 8 x3) (e30 J m [1,1,1,1] []))
  else
  (bif (x1==102) then
  (jj J 0 21 0 (s30_1 12 x3) (e30 J m [1,1,1,1] []))
  else
  (bif (x1==110) then
  (jj J 0 21 0 (s30_1 10 x3) (e30 J m [1,1,1,1] []))
  else
  (bif (x1==114) then
  (jj J 0 21 0 (s30_1 13 x3) (e30 J m [1,1,1,1] []))
  else
  (bif (x1==116) then
  (jj J 0 21 0 (s30_1 9 x3) (e30 J m [1,1,1,1] []))
  else
  (bif (x1==117) then
  ((i31 m (Dt.agg [(Dt.str (Dt.S x3 0)),(Dt.int (IntKind.wrap .i64 ((Dt.I x3 1)+1))),(Dt.int (Dt.I x3 2)),(Dt.int (Dt.I x3 3)),(Dt.int (Dt.I x3 4))])).bind fun r1=>
  some (r1.1,r1.2.1,r1.2.2))
  else
  ((i27 m 4 (Dt.I x3 1) x3).bind fun r2=>
  some (0,r2.1,r2.2)))))))))) (fun J=>by kernel_rfl) (by simp only[jj_eq,i30_j1_eq m];rfl)
theorem i30_eq m a0:e30 jn m [] [] ⟨[(.ptr 0 [] 0)],[(.box 45 (.dat 45 a0))],1⟩=i30 (m+1) a0:=
 tre (g:=fun J=>((i24 m a0).bind fun r0=>
  (bif (r0.1==34) then
  (jj J 0 8 0 (s30_0 (IntKind.wrap IntKind.i32 r0.1) r0.1 (r0.1==34) r0.2) (e30 J m w30_0 []))
  else
  (bif (r0.1==92) then
  (jj J 0 8 0 (s30_0 (IntKind.wrap IntKind.i32 r0.1) r0.1 (r0.1==92) r0.2) (e30 J m w30_0 []))
  else
  (jj J 0 8 0 (s30_0 (IntKind.wrap IntKind.i32 r0.1) r0.1 (r0.1==47) r0.2) (e30 J m w30_0 [])))))) (fun J=>by kernel_rfl) (by simp only[jj_eq,i30_j0_eq m];rfl)
def w33_1:List Nat:=[1,1,0,1,1,1]
def w33_0:List Nat:=w33_1++[1,1]
noncomputable def e33 (J:Nat→Nat→Nat→St→Option (List Dt)→Option (List Dt)) (m:Nat) (p ms:List Nat) (σ:St):=evAt Tryd.prog env (ct m) J (m+1) 79 78 Tryd.f79 d13 p ms σ
noncomputable def l33 (J:Nat→Nat→Nat→St→Option (List Dt)→Option (List Dt)) (m:Nat) (p ms:List Nat) (M:Nat) (σ:St):=loopAt Tryd.prog env (ct m) J (m+1) 79 78 Tryd.f79 d13 p ms M σ
noncomputable def s33_1 (x0:Int) (x1:Bool) (x2:List Dt):St:=⟨tsOf [(0,(.row 1)),(1,(.dat 21 (.int x0))),(50,(.dat 4 (.bool x1)))],[.gone,(.row 42 x2)],1⟩
noncomputable def s33_0 (x0 x1:Int) (x2:Bool) (x3:List Dt):St:=⟨tsOf [(0,(.row 1)),(1,(.dat 21 (.int x0))),(5,(.dat 91 (.int x1))),(25,(.dat 4 (.bool x2)))],[.gone,(.row 42 x3)],1⟩
theorem i33_j1_eq m x0 x1 x2:e33 jn m w33_0 [] (s33_1 x0 x1 x2)=i33_j1 m x0 x1 x2:=
 tre (g:=fun J=>(bif x1 then
  ((app x2 [(Dt.int (orI IntKind.u8 240 (IntKind.wrap IntKind.u8 (shrI IntKind.i32 x0 18)))),(Dt.int (orI IntKind.u8 128 (andI IntKind.u8 (IntKind.wrap IntKind.u8 (shrI IntKind.i32 x0 12)) 63))),(Dt.int (orI IntKind.u8 128 (andI IntKind.u8 (IntKind.wrap IntKind.u8 (shrI IntKind.i32 x0 6)) 63))),(Dt.int (orI IntKind.u8 128 (andI IntKind.u8 (IntKind.wrap IntKind.u8 x0) 63)))]).bind fun v2=>
  some v2)
   else
  ((app x2 [(Dt.int 239),(Dt.int 191),(Dt.int 189)]).bind fun v3=>
  some v3))) (fun J=>by kernel_rfl) (by rfl)
theorem i33_j0_eq m x0 x1 x2 x3:e33 jn m w33_1 [] (s33_0 x0 x1 x2 x3)=i33_j0 m x0 x1 x2 x3:=
 tre (g:=fun J=>(bif x2 then
  ((app x3 [(Dt.int (orI IntKind.u8 224 (IntKind.wrap IntKind.u8 (shrI IntKind.i32 x0 12)))),(Dt.int (orI IntKind.u8 128 (andI IntKind.u8 (IntKind.wrap IntKind.u8 (shrI IntKind.i32 x0 6)) 63))),(Dt.int (orI IntKind.u8 128 (andI IntKind.u8 (IntKind.wrap IntKind.u8 x0) 63)))]).bind fun v1=>
  some v1)
   else
  (bif (decide (65535<x1)) then
  (jj J 0 9 0 (s33_1 x0 (decide (x1≤1114111)) x3) (e33 J m w33_0 []))
  else
  (jj J 0 9 0 (s33_1 x0 false x3) (e33 J m w33_0 []))))) (fun J=>by kernel_rfl) (by simp only[jj_eq,i33_j1_eq m];rfl)
theorem i33_eq m a0 a1:e33 jn m [] [] ⟨[(.row 0),(.dat 21 (.int a0))],[(.row 42 a1)],1⟩=i33 (m+1) a0 a1:=
 tre (g:=fun J=>(bif (decide ((IntKind.wrap IntKind.u32 a0)≤2047)) then
  ((app a1 [(Dt.int (orI IntKind.u8 192 (IntKind.wrap IntKind.u8 (shrI IntKind.i32 a0 6)))),(Dt.int (orI IntKind.u8 128 (andI IntKind.u8 (IntKind.wrap IntKind.u8 a0) 63)))]).bind fun v0=>
  some v0)
   else
  (bif (decide ((IntKind.wrap IntKind.u32 a0)<55296)) then
  (jj J 0 7 0 (s33_0 a0 (IntKind.wrap IntKind.u32 a0) (decide ((IntKind.wrap IntKind.u32 a0)<55296)) a1) (e33 J m w33_1 []))
  else
  (bif (decide (57343<(IntKind.wrap IntKind.u32 a0))) then
  (jj J 0 7 0 (s33_0 a0 (IntKind.wrap IntKind.u32 a0) (decide ((IntKind.wrap IntKind.u32 a0)≤65535)) a1) (e33 J m w33_1 []))
  else
  (jj J 0 7 0 (s33_0 a0 (IntKind.wrap IntKind.u32 a0) false a1) (e33 J m w33_1 [])))))) (fun J=>by kernel_rfl) (by simp only[jj_eq,i33_j0_eq m];rfl)
noncomputable def e32 (J:Nat→Nat→Nat→St→Option (List Dt)→Option (List Dt)) (m:Nat) (p ms:List Nat) (σ:St):=evAt Tryd.prog env (ct m) J (m+1) 67 16 Tryd.f67 d13 p ms σ
noncomputable def l32 (J:Nat→Nat→Nat→St→Option (List Dt)→Option (List Dt)) (m:Nat) (p ms:List Nat) (M:Nat) (σ:St):=loopAt Tryd.prog env (ct m) J (m+1) 67 16 Tryd.f67 d13 p ms M σ
noncomputable def s32_0 (x0:Int) (x1:List Dt):St:=⟨tsOf [(0,(.row 1)),(1,(.dat 21 (.int x0)))],[.gone,(.row 42 x1)],1⟩
theorem i32_j0_eq m x0 x1:e32 jn m [1,1] [] (s32_0 x0 x1)=i32_j0 m x0 x1:=
 tre (g:=fun J=>((i33 m x0 x1).bind fun r1=>
  some r1)) (fun J=>by kernel_rfl) (by rfl)
theorem i32_eq m a0 a1:e32 jn m [] [] ⟨[(.row 0),(.dat 21 (.int a0))],[(.row 42 a1)],1⟩=i32 (m+1) a0 a1:=
 tre (g:=fun J=>(bif (decide ((IntKind.wrap IntKind.u32 a0)≤127)) then
  ((app a1 [(Dt.int (IntKind.wrap IntKind.u8 a0))]).bind fun v0=>
  some v0)
   else
  (jj J 0 3 0 (s32_0 a0 a1) (e32 J m [1,1] [])))) (fun J=>by kernel_rfl) (by simp only[jj_eq,i32_j0_eq m];rfl)
def w29_3:List Nat:=[1,0,1,1,1]
def w29_0:List Nat:=[1,0,1,1,1,1]
def w29_1:List Nat:=[1,0,1,1,1,0,0]
def w29_2:List Nat:=w29_1++[0,0,1,0,1,1,1,1,1,0,1,1,1]
noncomputable def e29 (J:Nat→Nat→Nat→St→Option (ByteArray×Bool×Dt)→Option (ByteArray×Bool×Dt)) (m:Nat) (p ms:List Nat) (σ:St):=evAt Tryd.prog env (ct m) J (m+1) 49 70 Tryd.f49 d29 p ms σ
noncomputable def l29 (J:Nat→Nat→Nat→St→Option (ByteArray×Bool×Dt)→Option (ByteArray×Bool×Dt)) (m:Nat) (p ms:List Nat) (M:Nat) (σ:St):=loopAt Tryd.prog env (ct m) J (m+1) 49 70 Tryd.f49 d29 p ms M σ
noncomputable def s29_2 (x0:Dt) (x1:List Dt):St:=⟨tsOf [(4,(.row 1))],[(.box 45 (.dat 45 x0)),(.row 42 x1)],1⟩
noncomputable def s29_3 (x0:Int) (x1:Dt) (x2:List Dt):St:=⟨tsOf [(0,(.ptr 0 [] 0)),(4,(.row 1)),(6,(.dat 21 (.int x0)))],[(.box 45 (.dat 45 x1)),(.row 42 x2)],1⟩
noncomputable def s29_1 (x0:Dt) (x1:List Dt):St:=⟨tsOf [(0,(.ptr 0 [] 0)),(4,(.row 1))],[(.box 45 (.dat 45 x0)),(.row 42 x1)],1⟩
theorem i29_j2_eq m x0 x1:e29 jn m w29_0 [] (s29_2 x0 x1)=i29_j2 m x0 x1:=
 tre (g:=fun J=>((bif (Nat.ble (List.length x1) 137438953472) then(Option.some (strOfNums (List.map Dt.toInt x1))) else(Option.none)).bind fun v1=>
  some (v1,true,x0))) (fun J=>by kernel_rfl) (by rfl)
abbrev H29_1 (m M1:Nat) (rec1:Dt→List Dt→Option (ByteArray×Bool×Dt)):Prop:=∀x0 x1,l29 jn m w29_1 [] M1 (s29_1 x0 x1)=rec1 x0 x1
theorem i29_j3_eq m M1 rec1 (h1:H29_1 m M1 rec1) x0 x1 x2:e29 jn m w29_2 [M1] (s29_3 x0 x1 x2)=i29_j3 m rec1 x0 x1 x2:=
 tre (g:=fun J=>((i32 m x0 x2).bind fun r4=>
  (jj J 1 3 M1 (s29_1 x1 r4) (l29 J m w29_1 [] M1)))) (fun J=>by kernel_rfl) (by simp only[jj_eq,h1];rfl)
theorem i29_l1_eq m:∀M1 x0 x1,l29 jn m w29_1 [] M1 (s29_1 x0 x1)=i29_l1 m M1 x0 x1
 |0,_,_=>rfl
 | M1+1,x0,x1=>
   trl (g:=fun J=>((i24 m x0).bind fun r0=>
  (bif (r0.1==34) then
  (jj J 0 16 0 (s29_2 (Dt.agg [(Dt.str (Dt.S r0.2 0)),(Dt.int (IntKind.wrap .i64 ((Dt.I r0.2 1)+1))),(Dt.int (Dt.I r0.2 2)),(Dt.int (Dt.I r0.2 3)),(Dt.int (Dt.I r0.2 4))]) x1) (e29 J m w29_0 []))
  else
  (bif (decide (r0.1<32)) then
  ((i27 m 4 (Dt.I r0.2 1) r0.2).bind fun r2=>
  some ((ByteArray.mk (List.toArray [])),r2.1,r2.2))
  else
  (bif (r0.1==92) then
  ((i30 m (Dt.agg [(Dt.str (Dt.S r0.2 0)),(Dt.int (IntKind.wrap .i64 ((Dt.I r0.2 1)+1))),(Dt.int (Dt.I r0.2 2)),(Dt.int (Dt.I r0.2 3)),(Dt.int (Dt.I r0.2 4))])).bind fun r3=>
  (bif (Bool.not r3.2.1) then
  some ((ByteArray.mk (List.toArray [])),false,r3.2.2)
  else
  (jj J 0 15 0 (s29_3 r3.1 r3.2.2 x1) (e29 J m w29_2 [M1]))))
  else
  ((app x1 [(Dt.int (IntKind.wrap IntKind.u8 r0.1))]).bind fun v5=>
  (jj J 1 3 M1 (s29_1 (Dt.agg [(Dt.str (Dt.S r0.2 0)),(Dt.int (IntKind.wrap .i64 ((Dt.I r0.2 1)+1))),(Dt.int (Dt.I r0.2 2)),(Dt.int (Dt.I r0.2 3)),(Dt.int (Dt.I r0.2 4))]) v5) (l29 J m w29_1 [] M1)))))))) (fun J=>by kernel_rfl) (by simp only[jj_eq,i29_j2_eq m,i29_j3_eq m M1 (i29_l1 m M1) (i29_l1_eq m M1),i29_l1_eq m M1];rfl)
theorem i29_j0_eq m x0 x1:e29 jn m w29_3 [] (s29_1 x0 x1)=i29_j0 m x0 x1:=
 tre (g:=fun J=>(jj J 1 3 (Nat.succ m) (s29_1 x0 x1) (l29 J m w29_1 [] (Nat.succ m)))) (fun J=>by kernel_rfl) (by simp only[jj_eq,i29_l1_eq m];rfl)
theorem i29_eq m a0:e29 jn m [] [] ⟨[(.ptr 0 [] 0)],[(.box 45 (.dat 45 a0))],1⟩=i29 (m+1) a0:=
 tre (g:=fun J=>(jj J 0 3 0 (s29_1 (Dt.agg [(Dt.str (Dt.S a0 0)),(Dt.int (IntKind.wrap .i64 ((Dt.I a0 1)+1))),(Dt.int (Dt.I a0 2)),(Dt.int (Dt.I a0 3)),(Dt.int (Dt.I a0 4))]) []) (e29 J m w29_3 []))) (fun J=>by kernel_rfl) (by simp only[jj_eq,i29_j0_eq m];rfl)
def w28_1:List Nat:=[1,1,1,1,1]
def w28_0:List Nat:=[1,1,1,1,1,1]
noncomputable def e28 (J:Nat→Nat→Nat→St→Option (Dt×Bool×Dt)→Option (Dt×Bool×Dt)) (m:Nat) (p ms:List Nat) (σ:St):=evAt Tryd.prog env (ct m) J (m+1) 30 35 Tryd.f30 d28 p ms σ
noncomputable def l28 (J:Nat→Nat→Nat→St→Option (Dt×Bool×Dt)→Option (Dt×Bool×Dt)) (m:Nat) (p ms:List Nat) (M:Nat) (σ:St):=loopAt Tryd.prog env (ct m) J (m+1) 30 35 Tryd.f30 d28 p ms M σ
noncomputable def s28_2 (x0:ByteArray) (x1 x2:Dt):St:=⟨tsOf [(2,(.ptr 1 [] 0)),(5,(.dat 9 (.str x0)))],[(.box 45 (.dat 45 x1)),(.box 27 (.dat 27 x2))],1⟩
noncomputable def s28_1 (x0:Int) (x1:ByteArray) (x2 x3:Dt):St:=⟨tsOf [(0,(.ptr 0 [] 0)),(2,(.ptr 1 [] 0)),(4,(.dat 3 (.int x0))),(5,(.dat 9 (.str x1)))],[(.box 45 (.dat 45 x2)),(.box 27 (.dat 27 x3))],1⟩
theorem i28_j2_eq m x0 x1 x2:e28 jn m w28_0 [] (s28_2 x0 x1 x2)=i28_j2 m x0 x1 x2:=
 tre (g:=fun J=>some ((Dt.agg [(Dt.int 4),(Dt.int 0),(Dt.str x0),(Dt.lst []),(Dt.lst [])]),true,x1)) (fun J=>by kernel_rfl) (by rfl)
theorem i28_j1_eq m x0 x1 x2 x3:e28 jn m w28_1 [] (s28_1 x0 x1 x2 x3)=i28_j1 m x0 x1 x2 x3:=
 tre (g:=fun J=>((utf8_ValidString x1).bind fun r2=>
  (bif (Bool.not r2) then
  ((i27 m 4 x0 x2).bind fun r3=>
  some (kza2373,r3.1,r3.2))
  else
  (jj J 0 9 0 (s28_2 x1 x2 x3) (e28 J m w28_0 []))))) (fun J=>by kernel_rfl) (by simp only[jj_eq,i28_j2_eq m];rfl)
theorem i28_j0_eq m x0 x1 x2 x3:e28 jn m [1,1,1,1] [] (s28_1 x0 x1 x2 x3)=i28_j0 m x0 x1 x2 x3:=
 tre (g:=fun J=>(bif (decide (4096<(ByteArray.size x1:Int))) then
  ((i27 m 2 x0 x2).bind fun r1=>
  some (kza2373,r1.1,r1.2))
   else
  (jj J 0 7 0 (s28_1 x0 x1 x2 x3) (e28 J m w28_1 [])))) (fun J=>by kernel_rfl) (by simp only[jj_eq,i28_j1_eq m];rfl)
theorem i28_eq m a0:e28 jn m [] [] ⟨[(.ptr 0 [] 0)],[(.box 45 (.dat 45 a0))],1⟩=i28 (m+1) a0:=
 tre (g:=fun J=>((i29 m a0).bind fun r0=>
  (bif (Bool.not r0.2.1) then
  some (kza2373,false,r0.2.2)
  else
  (jj J 0 5 0 (s28_1 (Dt.I a0 1) r0.1 r0.2.2 kza2373) (e28 J m [1,1,1,1] []))))) (fun J=>by kernel_rfl) (by simp only[jj_eq,i28_j0_eq m];rfl)
def w38_2:List Nat:=[1,0,1,0,0,1,1]
def w38_0:List Nat:=w38_2++[1]
def w38_1:List Nat:=w38_2++[0,0,1,1]
noncomputable def e38 (J:Nat→Nat→Nat→St→Option Bool→Option Bool) (m:Nat) (p ms:List Nat) (σ:St):=evAt Tryd.prog env (ct m) J (m+1) 61 22 Tryd.f61 d3 p ms σ
noncomputable def l38 (J:Nat→Nat→Nat→St→Option Bool→Option Bool) (m:Nat) (p ms:List Nat) (M:Nat) (σ:St):=loopAt Tryd.prog env (ct m) J (m+1) 61 22 Tryd.f61 d3 p ms M σ
noncomputable def s38_4 (x0:ByteArray) (x1 x2:Int):St:=⟨tsOf [(0,(.dat 9 (.str x0))),(5,(.dat 3 (.int x1))),(6,(.dat 3 (.int x2)))],[],0⟩
noncomputable def s38_3 (x0:ByteArray) (x1 x2:Int) (x3:Bool):St:=⟨tsOf [(0,(.dat 9 (.str x0))),(5,(.dat 3 (.int x1))),(6,(.dat 3 (.int x2))),(18,(.dat 4 (.bool x3)))],[],0⟩
noncomputable def s38_5 (x0:ByteArray):St:=⟨tsOf [(0,(.dat 9 (.str x0)))],[],0⟩
abbrev H38_1 (m M1:Nat) (rec1:ByteArray→Int→Int→Option Bool):Prop:=∀x0 x1 x2,l38 jn m [1,0,1,0] [] M1 (s38_4 x0 x1 x2)=rec1 x0 x1 x2
theorem notation_isField_j4_eq m M1 rec1 (h1:H38_1 m M1 rec1) x0 x1 x2:e38 jn m w38_0 [M1] (s38_4 x0 x1 x2)=notation_isField_j4 m rec1 x0 x1 x2:=
 tre (g:=fun J=>(jj J 1 2 M1 (s38_4 x0 x1 (IntKind.wrap .i64 (x2+1))) (l38 J m [1,0,1,0] [] M1))) (fun J=>by kernel_rfl) (by simp only[jj_eq,h1];rfl)
theorem notation_isField_j3_eq m M1 rec1 (h1:H38_1 m M1 rec1) x0 x1 x2 x3:e38 jn m w38_1 [M1] (s38_3 x0 x1 x2 x3)=notation_isField_j3 m rec1 x0 x1 x2 x3:=
 tre (g:=fun J=>(bif x3 then
  some false
   else
  (jj J 0 6 0 (s38_4 x0 x1 x2) (e38 J m w38_0 [M1])))) (fun J=>by kernel_rfl) (by simp only[jj_eq,notation_isField_j4_eq m M1 rec1 h1];rfl)
theorem notation_isField_j2_eq m M1 rec1 (h1:H38_1 m M1 rec1) x0 x1 x2:e38 jn m w38_2 [M1] (s38_4 x0 x1 x2)=notation_isField_j2 m rec1 x0 x1 x2:=
 tre (g:=fun J=>((idxS x0 x2).bind fun v0=>
  (bif (decide (v0<32)) then
  (jj J 0 5 0 (s38_3 x0 x1 x2 true) (e38 J m w38_1 [M1]))
  else
  ((idxS x0 x2).bind fun v1=>
  (jj J 0 5 0 (s38_3 x0 x1 x2 (decide (126<v1))) (e38 J m w38_1 [M1])))))) (fun J=>by kernel_rfl) (by simp only[jj_eq,notation_isField_j3_eq m M1 rec1 h1];rfl)
theorem notation_isField_j5_eq m x0:e38 jn m [1,1] [] (s38_5 x0)=notation_isField_j5 m x0:=
 tre (g:=fun J=>some (Bool.not ((ByteArray.toList x0)==[]))) (fun J=>by kernel_rfl) (by rfl)
theorem notation_isField_l1_eq m:∀M1 x0 x1 x2,l38 jn m [1,0,1,0] [] M1 (s38_4 x0 x1 x2)=notation_isField_l1 m M1 x0 x1 x2
 |0,_,_,_=>rfl
 | M1+1,x0,x1,x2=>
   trl (g:=fun J=>(bif (decide (x2<x1)) then
  (jj J 0 3 0 (s38_4 x0 x1 x2) (e38 J m w38_2 [M1]))
   else
  (jj J 0 7 0 (s38_5 x0) (e38 J m [1,1] [])))) (fun J=>by kernel_rfl) (by simp only[jj_eq,notation_isField_j2_eq m M1 (notation_isField_l1 m M1) (notation_isField_l1_eq m M1),notation_isField_j5_eq m];rfl)
theorem notation_isField_j0_eq m x0 x1 x2:e38 jn m [1,0,1] [] (s38_4 x0 x1 x2)=notation_isField_j0 m x0 x1 x2:=
 tre (g:=fun J=>(jj J 1 2 (Nat.succ m) (s38_4 x0 x1 x2) (l38 J m [1,0,1,0] [] (Nat.succ m)))) (fun J=>by kernel_rfl) (by simp only[jj_eq,notation_isField_l1_eq m];rfl)
theorem notation_isField_eq m a0:e38 jn m [] [] ⟨[(.dat 9 (.str a0))],[],0⟩=notation_isField (m+1) a0:=
 tre (g:=fun J=>(jj J 0 2 0 (s38_4 a0 (ByteArray.size a0:Int) 0) (e38 J m [1,0,1] []))) (fun J=>by kernel_rfl) (by simp only[jj_eq,notation_isField_j0_eq m];rfl)
def w37_4:List Nat:=[1,1,1,1,1]
def w37_3:List Nat:=[1,1,1,1,1,1]
def w37_1:List Nat:=w37_3++[1]
def w37_2:List Nat:=w37_3++[0,1]
def w37_0:List Nat:=w37_1++[1,1]
noncomputable def e37 (J:Nat→Nat→Nat→St→Option (ByteArray×Bool×Dt×List Dt)→Option (ByteArray×Bool×Dt×List Dt)) (m:Nat) (p ms:List Nat) (σ:St):=evAt Tryd.prog env (ct m) J (m+1) 51 64 Tryd.f51 d37 p ms σ
noncomputable def l37 (J:Nat→Nat→Nat→St→Option (ByteArray×Bool×Dt×List Dt)→Option (ByteArray×Bool×Dt×List Dt)) (m:Nat) (p ms:List Nat) (M:Nat) (σ:St):=loopAt Tryd.prog env (ct m) J (m+1) 51 64 Tryd.f51 d37 p ms M σ
noncomputable def s37_5 (x0:ByteArray) (x1:Dt) (x2:List Dt):St:=⟨tsOf [(0,(.ptr 0 [] 0)),(7,(.dat 9 (.str x0)))],[(.box 45 (.dat 45 x1)),(.map 68 x2)],2⟩
noncomputable def s37_3 (x0:Int) (x1:ByteArray) (x2:Bool) (x3:Dt) (x4:List Dt):St:=⟨tsOf [(0,(.ptr 0 [] 0)),(6,(.dat 3 (.int x0))),(7,(.dat 9 (.str x1))),(39,(.dat 4 (.bool x2)))],[(.box 45 (.dat 45 x3)),(.map 68 x4)],2⟩
noncomputable def s37_2 (x0:Int) (x1:ByteArray) (x2:Dt) (x3:List Dt):St:=⟨tsOf [(0,(.ptr 0 [] 0)),(1,(.row 1)),(6,(.dat 3 (.int x0))),(7,(.dat 9 (.str x1)))],[(.box 45 (.dat 45 x2)),(.map 68 x3)],2⟩
noncomputable def s37_0 (x0:Int) (x1:Dt) (x2:List Dt):St:=⟨tsOf [(0,(.ptr 0 [] 0)),(1,(.row 1)),(6,(.dat 3 (.int x0)))],[(.box 45 (.dat 45 x1)),(.map 68 x2)],2⟩
theorem i37_j5_eq m x0 x1 x2:e37 jn m w37_0 [] (s37_5 x0 x1 x2)=i37_j5 m x0 x1 x2:=
 tre (g:=fun J=>((i23 m (Dt.agg [(Dt.str (Dt.S x1 0)),(Dt.int (IntKind.wrap .i64 ((Dt.I x1 1)+1))),(Dt.int (Dt.I x1 2)),(Dt.int (Dt.I x1 3)),(Dt.int (Dt.I x1 4))])).bind fun r9=>
  some (x0,true,r9,x2))) (fun J=>by kernel_rfl) (by rfl)
theorem i37_j4_eq m x0 x1 x2:e37 jn m w37_1 [] (s37_5 x0 x1 x2)=i37_j4 m x0 x1 x2:=
 tre (g:=fun J=>((i23 m x1).bind fun r6=>
  ((i24 m r6).bind fun r7=>
  (bif (r7.1 !=58) then
  ((i27 m 4 (Dt.I r7.2 1) r7.2).bind fun r8=>
  some ((ByteArray.mk (List.toArray [])),r8.1,r8.2,x2))
  else
  (jj J 0 14 0 (s37_5 x0 r7.2 x2) (e37 J m w37_0 [])))))) (fun J=>by kernel_rfl) (by simp only[jj_eq,i37_j5_eq m];rfl)
theorem i37_j3_eq m x0 x1 x2 x3 x4:e37 jn m w37_2 [] (s37_3 x0 x1 x2 x3 x4)=i37_j3 m x0 x1 x2 x3 x4:=
 tre (g:=fun J=>(bif x2 then
  ((i27 m 4 x0 x3).bind fun r5=>
  some ((ByteArray.mk (List.toArray [])),r5.1,r5.2,x4))
   else
  (jj J 0 11 0 (s37_5 x1 x3 x4) (e37 J m w37_1 [])))) (fun J=>by kernel_rfl) (by simp only[jj_eq,i37_j4_eq m];rfl)
theorem i37_j2_eq m x0 x1 x2 x3:e37 jn m w37_3 [] (s37_2 x0 x1 x2 x3)=i37_j2 m x0 x1 x2 x3:=
 tre (g:=fun J=>((notation_isField m x1).bind fun r4=>
  (bif (Bool.not r4) then
  (jj J 0 10 0 (s37_3 x0 x1 true x2 x3) (e37 J m w37_2 []))
  else
  (jj J 0 10 0 (s37_3 x0 x1 (Dt.toBool (mgetD x3 x1 (Dt.bool false))) x2 x3) (e37 J m w37_2 []))))) (fun J=>by kernel_rfl) (by simp only[jj_eq,i37_j3_eq m];rfl)
theorem i37_j1_eq m x0 x1 x2 x3:e37 jn m w37_4 [] (s37_2 x0 x1 x2 x3)=i37_j1 m x0 x1 x2 x3:=
 tre (g:=fun J=>(bif (decide (128<(ByteArray.size x1:Int))) then
  ((i27 m 2 x0 x2).bind fun r3=>
  some ((ByteArray.mk (List.toArray [])),r3.1,r3.2,x3))
   else
  (jj J 0 9 0 (s37_2 x0 x1 x2 x3) (e37 J m w37_3 [])))) (fun J=>by kernel_rfl) (by simp only[jj_eq,i37_j2_eq m];rfl)
theorem i37_j0_eq m x0 x1 x2:e37 jn m [1,1,1] [] (s37_0 x0 x1 x2)=i37_j0 m x0 x1 x2:=
 tre (g:=fun J=>((i29 m x1).bind fun r2=>
  (bif (Bool.not r2.2.1) then
  some ((ByteArray.mk (List.toArray [])),false,r2.2.2,x2)
  else
  (jj J 0 7 0 (s37_2 x0 r2.1 r2.2.2 x2) (e37 J m w37_4 []))))) (fun J=>by kernel_rfl) (by simp only[jj_eq,i37_j1_eq m];rfl)
theorem i37_eq m a0 a1:e37 jn m [] [] ⟨[(.ptr 0 [] 0),(.row 1)],[(.box 45 (.dat 45 a0)),(.map 68 a1)],2⟩=i37 (m+1) a0 a1:=
 tre (g:=fun J=>((i24 m a0).bind fun r0=>
  (bif (r0.1 !=34) then
  ((i27 m 4 (Dt.I a0 1) r0.2).bind fun r1=>
  some ((ByteArray.mk (List.toArray [])),r1.1,r1.2,a1))
  else
  (jj J 0 4 0 (s37_0 (Dt.I a0 1) r0.2 a1) (e37 J m [1,1,1] []))))) (fun J=>by kernel_rfl) (by simp only[jj_eq,i37_j0_eq m];rfl)
def w39_0:List Nat:=[1,0,1,0,1]
noncomputable def e39 (J:Nat→Nat→Nat→St→Option Bool→Option Bool) (m:Nat) (p ms:List Nat) (σ:St):=evAt Tryd.prog env (ct m) J (m+1) 52 10 Tryd.f52 d3 p ms σ
noncomputable def l39 (J:Nat→Nat→Nat→St→Option Bool→Option Bool) (m:Nat) (p ms:List Nat) (M:Nat) (σ:St):=loopAt Tryd.prog env (ct m) J (m+1) 52 10 Tryd.f52 d3 p ms M σ
noncomputable def s39_1:St:=⟨tsOf [],[],0⟩
noncomputable def s39_0 (x0:Bool):St:=⟨tsOf [(4,(.dat 4 (.bool x0)))],[],0⟩
theorem notation_isSpecial_j1_eq m:e39 jn m [1,1] [] s39_1=notation_isSpecial_j1 m:=
 tre (g:=fun J=>some false) (fun J=>by kernel_rfl) (by rfl)
theorem notation_isSpecial_j0_eq m x0:e39 jn m w39_0 [] (s39_0 x0)=notation_isSpecial_j0 m x0:=
 tre (g:=fun J=>(bif x0 then
  some true
   else
  (jj J 0 8 0 s39_1 (e39 J m [1,1] [])))) (fun J=>by kernel_rfl) (by simp only[jj_eq,notation_isSpecial_j1_eq m];rfl)
theorem notation_isSpecial_eq m a0:e39 jn m [] [] ⟨[(.dat 9 (.str a0))],[],0⟩=notation_isSpecial (m+1) a0:=
 tre (g:=fun J=>(bif ((ByteArray.toList a0)==[36,105,100]) then
  (jj J 0 7 0 (s39_0 ((ByteArray.toList a0)==[36,105,100])) (e39 J m w39_0 []))
   else
  (bif ((ByteArray.toList a0)==[36,98,121,116,101,115]) then
  (jj J 0 7 0 (s39_0 ((ByteArray.toList a0)==[36,98,121,116,101,115])) (e39 J m w39_0 []))
  else
  (bif ((ByteArray.toList a0)==[36,116,105,109,101]) then
  (jj J 0 7 0 (s39_0 ((ByteArray.toList a0)==[36,116,105,109,101])) (e39 J m w39_0 []))
  else
  (bif ((ByteArray.toList a0)==[36,109,105,110]) then
  (jj J 0 7 0 (s39_0 ((ByteArray.toList a0)==[36,109,105,110])) (e39 J m w39_0 []))
  else
  (jj J 0 7 0 (s39_0 ((ByteArray.toList a0)==[36,109,97,120])) (e39 J m w39_0 []))))))) (fun J=>by kernel_rfl) (by simp only[jj_eq,notation_isSpecial_j0_eq m];rfl)
def w41_7:List Nat:=[1,1,1,0,1]
def w41_0:List Nat:=[1,1,1,0,1,0]
def w41_6:List Nat:=w41_0++[0,1,1]
def w41_1:List Nat:=w41_6++[1]
def w41_3:List Nat:=w41_6++[0,0,1,1,1]
def w41_2:List Nat:=w41_3++[1]
def w41_5:List Nat:=w41_6++[0,0,1,1,0,1,0,1]
def w41_4:List Nat:=w41_5++[1,1]
noncomputable def e41 (J:Nat→Nat→Nat→St→Option (ByteArray×Bool)→Option (ByteArray×Bool)) (m:Nat) (p ms:List Nat) (σ:St):=evAt Tryd.prog env (ct m) J (m+1) 69 72 Tryd.f69 d41 p ms σ
noncomputable def l41 (J:Nat→Nat→Nat→St→Option (ByteArray×Bool)→Option (ByteArray×Bool)) (m:Nat) (p ms:List Nat) (M:Nat) (σ:St):=loopAt Tryd.prog env (ct m) J (m+1) 69 72 Tryd.f69 d41 p ms M σ
noncomputable def s41_8 (x0 x1:Int) (x2:Dt) (x3:List Dt):St:=⟨tsOf [(1,(.ptr 0 [] 0)),(4,(.row 1)),(25,(.dat 3 (.int x0))),(26,(.dat 3 (.int x1)))],[(.box 27 (.dat 27 x2)),(.row 42 x3)],0⟩
noncomputable def s41_7 (x0 x1 x2 x3:Int) (x4:Dt) (x5:List Dt):St:=⟨tsOf [(1,(.ptr 0 [] 0)),(4,(.row 1)),(5,(.dat 3 (.int x0))),(6,(.dat 3 (.int x1))),(25,(.dat 3 (.int x2))),(26,(.dat 3 (.int x3)))],[(.box 27 (.dat 27 x4)),(.row 42 x5)],0⟩
noncomputable def s41_9 (x0 x1 x2 x3 x4:Int) (x5:Bool) (x6:Dt) (x7:List Dt):St:=⟨tsOf [(1,(.ptr 0 [] 0)),(4,(.row 1)),(5,(.dat 3 (.int x0))),(6,(.dat 3 (.int x1))),(7,(.dat 5 (.int x2))),(25,(.dat 3 (.int x3))),(26,(.dat 3 (.int x4))),(43,(.dat 4 (.bool x5)))],[(.box 27 (.dat 27 x6)),(.row 42 x7)],0⟩
noncomputable def s41_5 (x0 x1 x2 x3 x4:Int) (x5:Bool) (x6:Dt) (x7:List Dt):St:=⟨tsOf [(1,(.ptr 0 [] 0)),(4,(.row 1)),(5,(.dat 3 (.int x0))),(6,(.dat 3 (.int x1))),(7,(.dat 5 (.int x2))),(25,(.dat 3 (.int x3))),(26,(.dat 3 (.int x4))),(33,(.dat 4 (.bool x5)))],[(.box 27 (.dat 27 x6)),(.row 42 x7)],0⟩
noncomputable def s41_10 (x0:List Dt):St:=⟨tsOf [(4,(.row 0))],[(.row 42 x0)],0⟩
noncomputable def s41_1 (x0:Dt):St:=⟨tsOf [(1,(.ptr 0 [] 0))],[(.box 27 (.dat 27 x0))],0⟩
noncomputable def s41_0 (x0:Bool) (x1:Dt):St:=⟨tsOf [(1,(.ptr 0 [] 0)),(17,(.dat 4 (.bool x0)))],[(.box 27 (.dat 27 x1))],0⟩
abbrev H41_3 (m M3:Nat) (rec3:Int→Int→Dt→List Dt→Option (ByteArray×Bool)):Prop:=∀x0 x1 x2 x3,l41 jn m w41_0 [] M3 (s41_8 x0 x1 x2 x3)=rec3 x0 x1 x2 x3
theorem notation_fromHex_j8_eq m M3 rec3 (h3:H41_3 m M3 rec3) x0 x1 x2 x3:e41 jn m w41_1 [M3] (s41_8 x0 x1 x2 x3)=notation_fromHex_j8 m rec3 x0 x1 x2 x3:=
 tre (g:=fun J=>(jj J 1 5 M3 (s41_8 x0 (IntKind.wrap .i64 (x1+1)) x2 x3) (l41 J m w41_0 [] M3))) (fun J=>by kernel_rfl) (by simp only[jj_eq,h3];rfl)
theorem notation_fromHex_j7_eq m M3 rec3 (h3:H41_3 m M3 rec3) x0 x1 x2 x3 x4 x5:e41 jn m w41_2 [M3] (s41_7 x0 x1 x2 x3 x4 x5)=notation_fromHex_j7 m rec3 x0 x1 x2 x3 x4 x5:=
 tre (g:=fun J=>((inL x5 (IntKind.wrap .i64 (Int.tdiv x0 2))).bind fun v2=>
  ((x5[(Int.toNat (IntKind.wrap .i64 (Int.tdiv x0 2)))]?).bind fun v3=>
  ((inL x5 (IntKind.wrap .i64 (Int.tdiv x0 2))).bind fun v4=>
  ((x5[(Int.toNat (IntKind.wrap .i64 (Int.tdiv x0 2)))]?).bind fun v5=>
  (jj J 0 16 0 (s41_8 x2 x3 x4 (List.set x5 (Int.toNat (IntKind.wrap .i64 (Int.tdiv x0 2))) (Dt.int (orI IntKind.u8 (shlI IntKind.u8 (Dt.toInt v3) 4) (IntKind.wrap IntKind.u8 x1))))) (e41 J m w41_1 [M3]))))))) (fun J=>by kernel_rfl) (by simp only[jj_eq,notation_fromHex_j8_eq m M3 rec3 h3];rfl)
theorem notation_fromHex_j6_eq m M3 rec3 (h3:H41_3 m M3 rec3) x0 x1 x2 x3 x4 x5:e41 jn m w41_3 [M3] (s41_7 x0 x1 x2 x3 x4 x5)=notation_fromHex_j6 m rec3 x0 x1 x2 x3 x4 x5:=
 tre (g:=fun J=>(bif (decide (x1<0)) then
  some ((ByteArray.mk (List.toArray [])),false)
   else
  (jj J 0 15 0 (s41_7 x0 x1 x2 x3 x4 x5) (e41 J m w41_2 [M3])))) (fun J=>by kernel_rfl) (by simp only[jj_eq,notation_fromHex_j7_eq m M3 rec3 h3];rfl)
theorem notation_fromHex_j9_eq m M3 rec3 (h3:H41_3 m M3 rec3) x0 x1 x2 x3 x4 x5 x6 x7:e41 jn m w41_4 [M3] (s41_9 x0 x1 x2 x3 x4 x5 x6 x7)=notation_fromHex_j9 m rec3 x0 x1 x2 x3 x4 x5 x6 x7:=
 tre (g:=fun J=>(bif x5 then
  (jj J 0 13 0 (s41_7 x0 (IntKind.wrap .i64 ((IntKind.wrap .i64 (IntKind.wrap IntKind.u8 (x2-97)))+10)) x3 x4 x6 x7) (e41 J m w41_3 [M3]))
   else
  (jj J 0 13 0 (s41_7 x0 x1 x3 x4 x6 x7) (e41 J m w41_3 [M3])))) (fun J=>by kernel_rfl) (by simp only[jj_eq,notation_fromHex_j6_eq m M3 rec3 h3];rfl)
theorem notation_fromHex_j5_eq m M3 rec3 (h3:H41_3 m M3 rec3) x0 x1 x2 x3 x4 x5 x6 x7:e41 jn m w41_5 [M3] (s41_5 x0 x1 x2 x3 x4 x5 x6 x7)=notation_fromHex_j5 m rec3 x0 x1 x2 x3 x4 x5 x6 x7:=
 tre (g:=fun J=>(bif x5 then
  (jj J 0 13 0 (s41_7 x0 (IntKind.wrap .i64 (IntKind.wrap IntKind.u8 (x2-48))) x3 x4 x6 x7) (e41 J m w41_3 [M3]))
   else
  (bif (decide (97≤x2)) then
  (jj J 0 12 0 (s41_9 x0 x1 x2 x3 x4 (decide (x2≤102)) x6 x7) (e41 J m w41_4 [M3]))
  else
  (jj J 0 12 0 (s41_9 x0 x1 x2 x3 x4 false x6 x7) (e41 J m w41_4 [M3]))))) (fun J=>by kernel_rfl) (by simp only[jj_eq,notation_fromHex_j6_eq m M3 rec3 h3,notation_fromHex_j9_eq m M3 rec3 h3];rfl)
theorem notation_fromHex_j4_eq m M3 rec3 (h3:H41_3 m M3 rec3) x0 x1 x2 x3:e41 jn m w41_6 [M3] (s41_8 x0 x1 x2 x3)=notation_fromHex_j4 m rec3 x0 x1 x2 x3:=
 tre (g:=fun J=>((idxS (Dt.S x2 2) x1).bind fun v1=>
  (bif (decide (48≤v1)) then
  (jj J 0 10 0 (s41_5 x1 (-1) v1 x0 x1 (decide (v1≤57)) x2 x3) (e41 J m w41_5 [M3]))
  else
  (jj J 0 10 0 (s41_5 x1 (-1) v1 x0 x1 false x2 x3) (e41 J m w41_5 [M3]))))) (fun J=>by kernel_rfl) (by simp only[jj_eq,notation_fromHex_j5_eq m M3 rec3 h3];rfl)
theorem notation_fromHex_j10_eq m x0:e41 jn m [1,1,1,1] [] (s41_10 x0)=notation_fromHex_j10 m x0:=
 tre (g:=fun J=>((bif (Nat.ble (List.length x0) 137438953472) then(Option.some (strOfNums (List.map Dt.toInt x0))) else(Option.none)).bind fun v6=>
  some (v6,true))) (fun J=>by kernel_rfl) (by rfl)
theorem notation_fromHex_l3_eq m:∀M3 x0 x1 x2 x3,l41 jn m w41_0 [] M3 (s41_8 x0 x1 x2 x3)=notation_fromHex_l3 m M3 x0 x1 x2 x3
 |0,_,_,_,_=>rfl
 | M3+1,x0,x1,x2,x3=>
   trl (g:=fun J=>(bif (decide (x1<x0)) then
  (jj J 0 6 0 (s41_8 x0 x1 x2 x3) (e41 J m w41_6 [M3]))
   else
  (jj J 0 17 0 (s41_10 x3) (e41 J m [1,1,1,1] [])))) (fun J=>by kernel_rfl) (by simp only[jj_eq,notation_fromHex_j4_eq m M3 (notation_fromHex_l3 m M3) (notation_fromHex_l3_eq m M3),notation_fromHex_j10_eq m];rfl)
theorem notation_fromHex_j2_eq m x0 x1 x2 x3:e41 jn m w41_7 [] (s41_8 x0 x1 x2 x3)=notation_fromHex_j2 m x0 x1 x2 x3:=
 tre (g:=fun J=>(jj J 1 5 (Nat.succ m) (s41_8 x0 x1 x2 x3) (l41 J m w41_0 [] (Nat.succ m)))) (fun J=>by kernel_rfl) (by simp only[jj_eq,notation_fromHex_l3_eq m];rfl)
theorem notation_fromHex_j1_eq m x0:e41 jn m [1,1] [] (s41_1 x0)=notation_fromHex_j1 m x0:=
 tre (g:=fun J=>((mkL (IntKind.wrap .i64 (Int.tdiv (ByteArray.size (Dt.S x0 2):Int) 2)) (IntKind.wrap .i64 (Int.tdiv (ByteArray.size (Dt.S x0 2):Int) 2)) (Dt.int 0)).bind fun v0=>
  (jj J 0 5 0 (s41_8 (ByteArray.size (Dt.S x0 2):Int) 0 x0 v0) (e41 J m w41_7 [])))) (fun J=>by kernel_rfl) (by simp only[jj_eq,notation_fromHex_j2_eq m];rfl)
theorem notation_fromHex_j0_eq m x0 x1:e41 jn m [1,0,1] [] (s41_0 x0 x1)=notation_fromHex_j0 m x0 x1:=
 tre (g:=fun J=>(bif x0 then
  some ((ByteArray.mk (List.toArray [])),false)
   else
  (jj J 0 3 0 (s41_1 x1) (e41 J m [1,1] [])))) (fun J=>by kernel_rfl) (by simp only[jj_eq,notation_fromHex_j1_eq m];rfl)
theorem notation_fromHex_eq m a0:e41 jn m [] [] ⟨[(.dat 27 a0)],[],0⟩=notation_fromHex (m+1) a0:=
 tre (g:=fun J=>(bif ((Dt.I a0 0) !=4) then
  (jj J 0 2 0 (s41_0 true a0) (e41 J m [1,0,1] []))
   else
  (jj J 0 2 0 (s41_0 ((Int.tmod (ByteArray.size (Dt.S a0 2):Int) 2) !=0) a0) (e41 J m [1,0,1] [])))) (fun J=>by kernel_rfl) (by simp only[jj_eq,notation_fromHex_j0_eq m];rfl)
def w19_0:List Nat:=[1,1,1,1,1]
noncomputable def e19 (J:Nat→Nat→Nat→St→Option (Dt×Bool)→Option (Dt×Bool)) (m:Nat) (p ms:List Nat) (σ:St):=evAt Tryd.prog env (ct m) J (m+1) 53 80 Tryd.f53 d19 p ms σ
noncomputable def l19 (J:Nat→Nat→Nat→St→Option (Dt×Bool)→Option (Dt×Bool)) (m:Nat) (p ms:List Nat) (M:Nat) (σ:St):=loopAt Tryd.prog env (ct m) J (m+1) 53 80 Tryd.f53 d19 p ms M σ
noncomputable def s19_1 (x0:Dt):St:=⟨tsOf [(2,(.ptr 0 [] 0))],[(.box 27 (.dat 27 x0))],0⟩
noncomputable def s19_0 (x0:List Dt) (x1:Dt):St:=⟨tsOf [(0,(.dat 25 (.lst x0))),(2,(.ptr 0 [] 0))],[(.box 27 (.dat 27 x1))],0⟩
theorem notation_special_j1_eq m x0:e19 jn m w19_0 [] (s19_1 x0)=notation_special_j1 m x0:=
 tre (g:=fun J=>some (kza2373,false)) (fun J=>by kernel_rfl) (by rfl)
theorem notation_special_j0_eq m x0 x1:e19 jn m [1,1] [] (s19_0 x0 x1)=notation_special_j0 m x0 x1:=
 tre (g:=fun J=>((idx x0 0).bind fun v0=>
  ((idx x0 0).bind fun v1=>
  (bif ((ByteArray.toList (Dt.S v1 0))==[36,105,100]) then
  ((notation_fromHex m (Dt.fld v0 1)).bind fun r2=>
  (bif r2.2 then
  some ((Dt.agg [(Dt.int 8),(Dt.int 0),(Dt.str r2.1),(Dt.lst []),(Dt.lst [])]),((ByteArray.size r2.1:Int)==12))
  else
  some ((Dt.agg [(Dt.int 8),(Dt.int 0),(Dt.str r2.1),(Dt.lst []),(Dt.lst [])]),false)))
  else
  (bif ((ByteArray.toList (Dt.S v1 0))==[36,98,121,116,101,115]) then
  ((notation_fromHex m (Dt.fld v0 1)).bind fun r3=>
  some ((Dt.agg [(Dt.int 7),(Dt.int 0),(Dt.str r3.1),(Dt.lst []),(Dt.lst [])]),r3.2))
  else
  (bif ((ByteArray.toList (Dt.S v1 0))==[36,116,105,109,101]) then
  (bif ((Dt.I (Dt.fld v0 1) 0)==3) then
  some ((Dt.agg [(Dt.int 10),(Dt.int (Dt.I (Dt.fld v0 1) 1)),(Dt.str (ByteArray.mk (List.toArray []))),(Dt.lst []),(Dt.lst [])]),(decide (0≤(Dt.I (Dt.fld v0 1) 1))))
  else
  some ((Dt.agg [(Dt.int 10),(Dt.int (Dt.I (Dt.fld v0 1) 1)),(Dt.str (ByteArray.mk (List.toArray []))),(Dt.lst []),(Dt.lst [])]),false))
  else
  (bif ((ByteArray.toList (Dt.S v1 0))==[36,109,105,110]) then
  (bif ((Dt.I (Dt.fld v0 1) 0)==3) then
  some (kz2ef54,((Dt.I (Dt.fld v0 1) 1)==1))
  else
  some (kz2ef54,false))
  else
  (bif ((ByteArray.toList (Dt.S v1 0))==[36,109,97,120]) then
  (bif ((Dt.I (Dt.fld v0 1) 0)==3) then
  some (kzedecf,((Dt.I (Dt.fld v0 1) 1)==1))
  else
  some (kzedecf,false))
  else
  (jj J 0 18 0 (s19_1 x1) (e19 J m w19_0 [])))))))))) (fun J=>by kernel_rfl) (by simp only[jj_eq,notation_special_j1_eq m];rfl)
theorem notation_special_eq m a0:e19 jn m [] [] ⟨[(.dat 25 (.lst a0))],[],0⟩=notation_special (m+1) a0:=
 tre (g:=fun J=>(bif ((List.length a0:Int) !=1) then
  some (kza2373,false)
   else
  (jj J 0 3 0 (s19_0 a0 kza2373) (e19 J m [1,1] [])))) (fun J=>by kernel_rfl) (by simp only[jj_eq,notation_special_j0_eq m];rfl)
def w11_0:List Nat:=[1,0,1,0,1,1,1,1,1,1,1,1,1,1,1,1,1,1,1,1,1,0,1]
noncomputable def e11 (J:Nat→Nat→Nat→St→Option (Int×List Dt)→Option (Int×List Dt)) (m:Nat) (p ms:List Nat) (σ:St):=evAt Tryd.prog env (ct m) J (m+1) 25 87 Tryd.f25 d11 p ms σ
noncomputable def l11 (J:Nat→Nat→Nat→St→Option (Int×List Dt)→Option (Int×List Dt)) (m:Nat) (p ms:List Nat) (M:Nat) (σ:St):=loopAt Tryd.prog env (ct m) J (m+1) 25 87 Tryd.f25 d11 p ms M σ
noncomputable def s11_0 (x0:List Dt):St:=⟨tsOf [(0,(.row 1))],[.gone,(.row 42 x0)],1⟩
noncomputable def s11_1 (x0:List Dt) (x1:Dt):St:=⟨tsOf [(0,(.row 1)),(3,(.ptr 2 [] 0))],[.gone,(.row 42 x0),(.box 27 (.dat 27 x1))],1⟩
theorem i11_j0_eq m x0:e11 jn m [1,1] [] (s11_0 x0)=i11_j0 m (i17 m) (i18 m) x0:=
 tre (g:=fun J=>some (0,x0)) (fun J=>by kernel_rfl) (by rfl)
theorem i11_j1_eq m x0 x1:e11 jn m w11_0 [] (s11_1 x0 x1)=i11_j1 m (i17 m) (i18 m) x0 x1:=
 tre (g:=fun J=>((app x0 [(Dt.int 123),(Dt.int 34),(Dt.int 36),(Dt.int 98),(Dt.int 121),(Dt.int 116),(Dt.int 101),(Dt.int 115),(Dt.int 34),(Dt.int 58),(Dt.int 34)]).bind fun v13=>
  ((i16 m (Dt.S x1 2) v13).bind fun r14=>
  ((app r14 [(Dt.int 34),(Dt.int 125)]).bind fun v15=>
  (jj J 0 27 0 (s11_0 v15) (e11 J m [1,1] [])))))) (fun J=>by kernel_rfl) (by simp only[jj_eq,i11_j0_eq m];rfl)
theorem i11_eq m a0 a1:e11 jn m [] [] ⟨[(.row 0),(.dat 27 a0)],[(.row 42 a1)],1⟩=i11 (m+1) a0 a1:=
 tre (g:=fun J=>(bif ((Dt.I a0 0)==1) then
  ((app a1 [(Dt.int 123),(Dt.int 34),(Dt.int 36),(Dt.int 109),(Dt.int 105),(Dt.int 110),(Dt.int 34),(Dt.int 58),(Dt.int 49),(Dt.int 125)]).bind fun v0=>
  (jj J 0 27 0 (s11_0 v0) (e11 J m [1,1] [])))
   else
  (bif ((Dt.I a0 0)==11) then
  ((app a1 [(Dt.int 123),(Dt.int 34),(Dt.int 36),(Dt.int 109),(Dt.int 97),(Dt.int 120),(Dt.int 34),(Dt.int 58),(Dt.int 49),(Dt.int 125)]).bind fun v1=>
  (jj J 0 27 0 (s11_0 v1) (e11 J m [1,1] [])))
  else
  (bif ((Dt.I a0 0)==2) then
  ((app a1 [(Dt.int 110),(Dt.int 117),(Dt.int 108),(Dt.int 108)]).bind fun v2=>
  (jj J 0 27 0 (s11_0 v2) (e11 J m [1,1] [])))
  else
  (bif ((Dt.I a0 0)==9) then
  ((i12 m ((Dt.I a0 1)==1) a1).bind fun r3=>
  (jj J 0 27 0 (s11_0 r3) (e11 J m [1,1] [])))
  else
  (bif ((Dt.I a0 0)==3) then
  ((strconv_AppendInt (Dt.I a0 1) 10 a1).bind fun r4=>
  (jj J 0 27 0 (s11_0 r4) (e11 J m [1,1] [])))
  else
  (bif ((Dt.I a0 0)==10) then
  ((app a1 [(Dt.int 123),(Dt.int 34),(Dt.int 36),(Dt.int 116),(Dt.int 105),(Dt.int 109),(Dt.int 101),(Dt.int 34),(Dt.int 58)]).bind fun v5=>
  ((strconv_AppendInt (Dt.I a0 1) 10 v5).bind fun r6=>
  ((app r6 [(Dt.int 125)]).bind fun v7=>
  (jj J 0 27 0 (s11_0 v7) (e11 J m [1,1] [])))))
  else
  (bif ((Dt.I a0 0)==4) then
  ((notation_Quote m (Dt.S a0 2)).bind fun r8=>
  ((app a1 (List.map (fun b=>(Dt.int ((UInt8.toNat b):Int))) (Array.toList (ByteArray.data (Dt.toStr (Dt.str r8)))))).bind fun v9=>
  (jj J 0 27 0 (s11_0 v9) (e11 J m [1,1] []))))
  else
  (bif ((Dt.I a0 0)==8) then
  ((app a1 [(Dt.int 123),(Dt.int 34),(Dt.int 36),(Dt.int 105),(Dt.int 100),(Dt.int 34),(Dt.int 58),(Dt.int 34)]).bind fun v10=>
  ((i16 m (Dt.S a0 2) v10).bind fun r11=>
  ((app r11 [(Dt.int 34),(Dt.int 125)]).bind fun v12=>
  (jj J 0 27 0 (s11_0 v12) (e11 J m [1,1] [])))))
  else
  (bif ((Dt.I a0 0)==7) then
  (bif (decide (2048<(ByteArray.size (Dt.S a0 2):Int))) then
  some (2,[])
  else
  (jj J 0 22 0 (s11_1 a1 a0) (e11 J m w11_0 [])))
  else
  (bif ((Dt.I a0 0)==6) then
  ((i17 m (Dt.L a0 3) a1).bind fun r16=>
  some (r16.1,r16.2))
  else
  (bif ((Dt.I a0 0)==5) then
  ((i18 m (Dt.L a0 4) a1).bind fun r17=>
  some (r17.1,r17.2))
  else
  (jj J 0 27 0 (s11_0 a1) (e11 J m [1,1] [])))))))))))))) (fun J=>by kernel_rfl) (by simp only[jj_eq,i11_j0_eq m,i11_j1_eq m];rfl)
def w17_0:List Nat:=[1,1,0,1,0]
def w17_3:List Nat:=[1,1,0,1,0,0,1,1]
def w17_1:List Nat:=w17_3++[1]
def w17_2:List Nat:=w17_3++[0,0,1,1]
noncomputable def e17 (J:Nat→Nat→Nat→St→Option (Int×List Dt)→Option (Int×List Dt)) (m:Nat) (p ms:List Nat) (σ:St):=evAt Tryd.prog env (ct m) J (m+1) 46 37 Tryd.f46 d11 p ms σ
noncomputable def l17 (J:Nat→Nat→Nat→St→Option (Int×List Dt)→Option (Int×List Dt)) (m:Nat) (p ms:List Nat) (M:Nat) (σ:St):=loopAt Tryd.prog env (ct m) J (m+1) 46 37 Tryd.f46 d11 p ms M σ
noncomputable def s17_4 (x0:List Dt) (x1 x2:Int) (x3:List Dt):St:=⟨tsOf [(0,(.row 1)),(12,(.dat 24 (.lst x0))),(13,(.dat 3 (.int x1))),(14,(.dat 3 (.int x2)))],[.gone,(.row 42 x3)],1⟩
noncomputable def s17_3 (x0:List Dt) (x1 x2:Int) (x3:List Dt) (x4:Dt):St:=⟨tsOf [(0,(.row 1)),(7,(.ptr 2 [] 0)),(12,(.dat 24 (.lst x0))),(13,(.dat 3 (.int x1))),(14,(.dat 3 (.int x2)))],[.gone,(.row 42 x3),(.box 27 (.dat 27 x4))],1⟩
noncomputable def s17_5 (x0:List Dt):St:=⟨tsOf [(0,(.row 1))],[.gone,(.row 42 x0)],1⟩
abbrev H17_1 (m M1:Nat) (rec1:List Dt→Int→Int→List Dt→Option (Int×List Dt)):Prop:=∀x0 x1 x2 x3,l17 jn m w17_0 [] M1 (s17_4 x0 x1 x2 x3)=rec1 x0 x1 x2 x3
theorem i17_j4_eq m M1 rec1 (h1:H17_1 m M1 rec1) x0 x1 x2 x3:e17 jn m w17_1 [M1] (s17_4 x0 x1 x2 x3)=i17_j4 m (i11 m) rec1 x0 x1 x2 x3:=
 tre (g:=fun J=>(jj J 1 3 M1 (s17_4 x0 x1 (IntKind.wrap .i64 (x2+1)) x3) (l17 J m w17_0 [] M1))) (fun J=>by kernel_rfl) (by simp only[jj_eq,h1];rfl)
theorem i17_j3_eq m M1 rec1 (h1:H17_1 m M1 rec1) x0 x1 x2 x3 x4:e17 jn m w17_2 [M1] (s17_3 x0 x1 x2 x3 x4)=i17_j3 m (i11 m) rec1 x0 x1 x2 x3 x4:=
 tre (g:=fun J=>((i11 m x4 x3).bind fun r3=>
  (bif (r3.1 !=0) then
  some (r3.1,[])
  else
  (jj J 0 11 0 (s17_4 x0 x1 x2 r3.2) (e17 J m w17_1 [M1]))))) (fun J=>by kernel_rfl) (by simp only[jj_eq,i17_j4_eq m M1 rec1 h1];rfl)
theorem i17_j2_eq m M1 rec1 (h1:H17_1 m M1 rec1) x0 x1 x2 x3:e17 jn m w17_3 [M1] (s17_4 x0 x1 x2 x3)=i17_j2 m (i11 m) rec1 x0 x1 x2 x3:=
 tre (g:=fun J=>((idx x0 x2).bind fun v1=>
  (bif (decide (0<x2)) then
  ((app x3 [(Dt.int 44)]).bind fun v2=>
  (jj J 0 7 0 (s17_3 x0 x1 x2 v2 v1) (e17 J m w17_2 [M1])))
  else
  (jj J 0 7 0 (s17_3 x0 x1 x2 x3 v1) (e17 J m w17_2 [M1]))))) (fun J=>by kernel_rfl) (by simp only[jj_eq,i17_j3_eq m M1 rec1 h1];rfl)
theorem i17_j5_eq m x0:e17 jn m [1,1,1] [] (s17_5 x0)=i17_j5 m (i11 m) x0:=
 tre (g:=fun J=>((app x0 [(Dt.int 93)]).bind fun v4=>
  some (0,v4))) (fun J=>by kernel_rfl) (by rfl)
theorem i17_l1_eq m:∀M1 x0 x1 x2 x3,l17 jn m w17_0 [] M1 (s17_4 x0 x1 x2 x3)=i17_l1 m (i11 m) M1 x0 x1 x2 x3
 |0,_,_,_,_=>rfl
 | M1+1,x0,x1,x2,x3=>
   trl (g:=fun J=>(bif (decide (x2<x1)) then
  (jj J 0 4 0 (s17_4 x0 x1 x2 x3) (e17 J m w17_3 [M1]))
   else
  (jj J 0 12 0 (s17_5 x3) (e17 J m [1,1,1] [])))) (fun J=>by kernel_rfl) (by simp only[jj_eq,i17_j2_eq m M1 (i17_l1 m (i11 m) M1) (i17_l1_eq m M1),i17_j5_eq m];rfl)
theorem i17_j0_eq m x0 x1 x2 x3:e17 jn m [1,1,0,1] [] (s17_4 x0 x1 x2 x3)=i17_j0 m (i11 m) x0 x1 x2 x3:=
 tre (g:=fun J=>(jj J 1 3 (Nat.succ m) (s17_4 x0 x1 x2 x3) (l17 J m w17_0 [] (Nat.succ m)))) (fun J=>by kernel_rfl) (by simp only[jj_eq,i17_l1_eq m];rfl)
theorem i17_eq m a0 a1:e17 jn m [] [] ⟨[(.row 0),(.dat 24 (.lst a0))],[(.row 42 a1)],1⟩=i17 (m+1) a0 a1:=
 tre (g:=fun J=>((app a1 [(Dt.int 91)]).bind fun v0=>
  (jj J 0 3 0 (s17_4 a0 (List.length a0:Int) 0 v0) (e17 J m [1,1,0,1] [])))) (fun J=>by kernel_rfl) (by simp only[jj_eq,i17_j0_eq m];rfl)
def w18_4:List Nat:=[1,1,1,0,1]
def w18_0:List Nat:=[1,1,1,0,1,0]
def w18_3:List Nat:=w18_0++[0,1,1]
def w18_1:List Nat:=w18_3++[1]
def w18_2:List Nat:=w18_3++[0,0,1,1]
noncomputable def e18 (J:Nat→Nat→Nat→St→Option (Int×List Dt)→Option (Int×List Dt)) (m:Nat) (p ms:List Nat) (σ:St):=evAt Tryd.prog env (ct m) J (m+1) 47 53 Tryd.f47 d11 p ms σ
noncomputable def l18 (J:Nat→Nat→Nat→St→Option (Int×List Dt)→Option (Int×List Dt)) (m:Nat) (p ms:List Nat) (M:Nat) (σ:St):=loopAt Tryd.prog env (ct m) J (m+1) 47 53 Tryd.f47 d11 p ms M σ
noncomputable def s18_5 (x0:List Dt) (x1 x2:Int) (x3:List Dt):St:=⟨tsOf [(0,(.row 1)),(20,(.dat 25 (.lst x0))),(21,(.dat 3 (.int x1))),(22,(.dat 3 (.int x2)))],[.gone,(.row 42 x3)],1⟩
noncomputable def s18_4 (x0:List Dt) (x1 x2:Int) (x3:List Dt) (x4:Dt):St:=⟨tsOf [(0,(.row 1)),(9,(.ptr 2 [] 0)),(20,(.dat 25 (.lst x0))),(21,(.dat 3 (.int x1))),(22,(.dat 3 (.int x2)))],[.gone,(.row 42 x3),(.box 41 (.dat 41 x4))],1⟩
noncomputable def s18_6 (x0:List Dt):St:=⟨tsOf [(0,(.row 1))],[.gone,(.row 42 x0)],1⟩
noncomputable def s18_0 (x0 x1:List Dt):St:=⟨tsOf [(0,(.row 1)),(1,(.dat 25 (.lst x0)))],[.gone,(.row 42 x1)],1⟩
abbrev H18_2 (m M2:Nat) (rec2:List Dt→Int→Int→List Dt→Option (Int×List Dt)):Prop:=∀x0 x1 x2 x3,l18 jn m w18_0 [] M2 (s18_5 x0 x1 x2 x3)=rec2 x0 x1 x2 x3
theorem i18_j5_eq m M2 rec2 (h2:H18_2 m M2 rec2) x0 x1 x2 x3:e18 jn m w18_1 [M2] (s18_5 x0 x1 x2 x3)=i18_j5 m (i11 m) rec2 x0 x1 x2 x3:=
 tre (g:=fun J=>(jj J 1 6 M2 (s18_5 x0 x1 (IntKind.wrap .i64 (x2+1)) x3) (l18 J m w18_0 [] M2))) (fun J=>by kernel_rfl) (by simp only[jj_eq,h2];rfl)
theorem i18_j4_eq m M2 rec2 (h2:H18_2 m M2 rec2) x0 x1 x2 x3 x4:e18 jn m w18_2 [M2] (s18_4 x0 x1 x2 x3 x4)=i18_j4 m (i11 m) rec2 x0 x1 x2 x3 x4:=
 tre (g:=fun J=>((notation_Quote m (Dt.S x4 0)).bind fun r4=>
  ((app x3 (List.map (fun b=>(Dt.int ((UInt8.toNat b):Int))) (Array.toList (ByteArray.data (Dt.toStr (Dt.str r4)))))).bind fun v5=>
  ((app v5 [(Dt.int 58)]).bind fun v6=>
  ((i11 m (Dt.fld x4 1) v6).bind fun r7=>
  (bif (r7.1 !=0) then
  some (r7.1,[])
  else
  (jj J 0 15 0 (s18_5 x0 x1 x2 r7.2) (e18 J m w18_1 [M2])))))))) (fun J=>by kernel_rfl) (by simp only[jj_eq,i18_j5_eq m M2 rec2 h2];rfl)
theorem i18_j3_eq m M2 rec2 (h2:H18_2 m M2 rec2) x0 x1 x2 x3:e18 jn m w18_3 [M2] (s18_5 x0 x1 x2 x3)=i18_j3 m (i11 m) rec2 x0 x1 x2 x3:=
 tre (g:=fun J=>((idx x0 x2).bind fun v2=>
  (bif (decide (0<x2)) then
  ((app x3 [(Dt.int 44)]).bind fun v3=>
  (jj J 0 10 0 (s18_4 x0 x1 x2 v3 v2) (e18 J m w18_2 [M2])))
  else
  (jj J 0 10 0 (s18_4 x0 x1 x2 x3 v2) (e18 J m w18_2 [M2]))))) (fun J=>by kernel_rfl) (by simp only[jj_eq,i18_j4_eq m M2 rec2 h2];rfl)
theorem i18_j6_eq m x0:e18 jn m [1,1,1,1] [] (s18_6 x0)=i18_j6 m (i11 m) x0:=
 tre (g:=fun J=>((app x0 [(Dt.int 125)]).bind fun v8=>
  some (0,v8))) (fun J=>by kernel_rfl) (by rfl)
theorem i18_l2_eq m:∀M2 x0 x1 x2 x3,l18 jn m w18_0 [] M2 (s18_5 x0 x1 x2 x3)=i18_l2 m (i11 m) M2 x0 x1 x2 x3
 |0,_,_,_,_=>rfl
 | M2+1,x0,x1,x2,x3=>
   trl (g:=fun J=>(bif (decide (x2<x1)) then
  (jj J 0 7 0 (s18_5 x0 x1 x2 x3) (e18 J m w18_3 [M2]))
   else
  (jj J 0 16 0 (s18_6 x3) (e18 J m [1,1,1,1] [])))) (fun J=>by kernel_rfl) (by simp only[jj_eq,i18_j3_eq m M2 (i18_l2 m (i11 m) M2) (i18_l2_eq m M2),i18_j6_eq m];rfl)
theorem i18_j1_eq m x0 x1 x2 x3:e18 jn m w18_4 [] (s18_5 x0 x1 x2 x3)=i18_j1 m (i11 m) x0 x1 x2 x3:=
 tre (g:=fun J=>(jj J 1 6 (Nat.succ m) (s18_5 x0 x1 x2 x3) (l18 J m w18_0 [] (Nat.succ m)))) (fun J=>by kernel_rfl) (by simp only[jj_eq,i18_l2_eq m];rfl)
theorem i18_j0_eq m x0 x1:e18 jn m [1,1] [] (s18_0 x0 x1)=i18_j0 m (i11 m) x0 x1:=
 tre (g:=fun J=>((app x1 [(Dt.int 123)]).bind fun v1=>
  (jj J 0 6 0 (s18_5 x0 (List.length x0:Int) 0 v1) (e18 J m w18_4 [])))) (fun J=>by kernel_rfl) (by simp only[jj_eq,i18_j1_eq m];rfl)
theorem i18_eq m a0 a1:e18 jn m [] [] ⟨[(.row 0),(.dat 25 (.lst a0))],[(.row 42 a1)],1⟩=i18 (m+1) a0 a1:=
 tre (g:=fun J=>((notation_special m a0).bind fun r0=>
  (bif r0.2 then
  some (4,[])
  else
  (jj J 0 4 0 (s18_0 a0 a1) (e18 J m [1,1] []))))) (fun J=>by kernel_rfl) (by simp only[jj_eq,i18_j0_eq m];rfl)
def w40_0:List Nat:=[1,1,1,1,1]
noncomputable def e40 (J:Nat→Nat→Nat→St→Option (Dt×Bool×List Dt)→Option (Dt×Bool×List Dt)) (m:Nat) (p ms:List Nat) (σ:St):=evAt Tryd.prog env (ct m) J (m+1) 53 80 Tryd.f53 d40 p ms σ
noncomputable def l40 (J:Nat→Nat→Nat→St→Option (Dt×Bool×List Dt)→Option (Dt×Bool×List Dt)) (m:Nat) (p ms:List Nat) (M:Nat) (σ:St):=loopAt Tryd.prog env (ct m) J (m+1) 53 80 Tryd.f53 d40 p ms M σ
noncomputable def s40_1 (x0:List Dt) (x1:Dt):St:=⟨tsOf [(2,(.ptr 1 [] 0))],[(.row 25 x0),(.box 27 (.dat 27 x1))],1⟩
noncomputable def s40_0 (x0:List Dt) (x1:Dt):St:=⟨tsOf [(0,(.row 0)),(2,(.ptr 1 [] 0))],[(.row 25 x0),(.box 27 (.dat 27 x1))],1⟩
theorem i40_j1_eq m x0 x1:e40 jn m w40_0 [] (s40_1 x0 x1)=i40_j1 m x0 x1:=
 tre (g:=fun J=>some (kza2373,false,x0)) (fun J=>by kernel_rfl) (by rfl)
theorem i40_j0_eq m x0 x1:e40 jn m [1,1] [] (s40_0 x0 x1)=i40_j0 m x0 x1:=
 tre (g:=fun J=>((inL x0 0).bind fun v0=>
  ((x0[0]?).bind fun v1=>
  ((inL x0 0).bind fun v2=>
  ((x0[0]?).bind fun v3=>
  (bif ((ByteArray.toList (Dt.S v3 0))==[36,105,100]) then
  ((notation_fromHex m (Dt.fld v1 1)).bind fun r4=>
  (bif r4.2 then
  some ((Dt.agg [(Dt.int 8),(Dt.int 0),(Dt.str r4.1),(Dt.lst []),(Dt.lst [])]),((ByteArray.size r4.1:Int)==12),x0)
  else
  some ((Dt.agg [(Dt.int 8),(Dt.int 0),(Dt.str r4.1),(Dt.lst []),(Dt.lst [])]),false,x0)))
  else
  (bif ((ByteArray.toList (Dt.S v3 0))==[36,98,121,116,101,115]) then
  ((notation_fromHex m (Dt.fld v1 1)).bind fun r5=>
  some ((Dt.agg [(Dt.int 7),(Dt.int 0),(Dt.str r5.1),(Dt.lst []),(Dt.lst [])]),r5.2,x0))
  else
  (bif ((ByteArray.toList (Dt.S v3 0))==[36,116,105,109,101]) then
  (bif ((Dt.I (Dt.fld v1 1) 0)==3) then
  some ((Dt.agg [(Dt.int 10),(Dt.int (Dt.I (Dt.fld v1 1) 1)),(Dt.str (ByteArray.mk (List.toArray []))),(Dt.lst []),(Dt.lst [])]),(decide (0≤(Dt.I (Dt.fld v1 1) 1))),x0)
  else
  some ((Dt.agg [(Dt.int 10),(Dt.int (Dt.I (Dt.fld v1 1) 1)),(Dt.str (ByteArray.mk (List.toArray []))),(Dt.lst []),(Dt.lst [])]),false,x0))
  else
  (bif ((ByteArray.toList (Dt.S v3 0))==[36,109,105,110]) then
  (bif ((Dt.I (Dt.fld v1 1) 0)==3) then
  some (kz2ef54,((Dt.I (Dt.fld v1 1) 1)==1),x0)
  else
  some (kz2ef54,false,x0))
  else
  (bif ((ByteArray.toList (Dt.S v3 0))==[36,109,97,120]) then
  (bif ((Dt.I (Dt.fld v1 1) 0)==3) then
  some (kzedecf,((Dt.I (Dt.fld v1 1) 1)==1),x0)
  else
  some (kzedecf,false,x0))
  else
  (jj J 0 18 0 (s40_1 x0 x1) (e40 J m w40_0 [])))))))))))) (fun J=>by kernel_rfl) (by simp only[jj_eq,i40_j1_eq m];rfl)
theorem i40_eq m a0:e40 jn m [] [] ⟨[(.row 0)],[(.row 25 a0)],1⟩=i40 (m+1) a0:=
 tre (g:=fun J=>(bif ((List.length a0:Int) !=1) then
  some (kza2373,false,a0)
   else
  (jj J 0 3 0 (s40_0 a0 kza2373) (e40 J m [1,1] [])))) (fun J=>by kernel_rfl) (by simp only[jj_eq,i40_j0_eq m];rfl)
def w42_2:List Nat:=[1,0,1,0,0,1,1]
def w42_0:List Nat:=w42_2++[1]
def w42_1:List Nat:=w42_2++[0,0,1,1]
noncomputable def e42 (J:Nat→Nat→Nat→St→Option (Bool×Dt)→Option (Bool×Dt)) (m:Nat) (p ms:List Nat) (σ:St):=evAt Tryd.prog env (ct m) J (m+1) 33 32 Tryd.f33 d27 p ms σ
noncomputable def l42 (J:Nat→Nat→Nat→St→Option (Bool×Dt)→Option (Bool×Dt)) (m:Nat) (p ms:List Nat) (M:Nat) (σ:St):=loopAt Tryd.prog env (ct m) J (m+1) 33 32 Tryd.f33 d27 p ms M σ
noncomputable def s42_4 (x0:ByteArray) (x1 x2:Int) (x3:Dt):St:=⟨tsOf [(0,(.ptr 0 [] 0)),(1,(.dat 9 (.str x0))),(7,(.dat 3 (.int x1))),(8,(.dat 3 (.int x2)))],[(.box 45 (.dat 45 x3))],1⟩
noncomputable def s42_5 (x0:Dt):St:=⟨tsOf [],[(.box 45 (.dat 45 x0))],1⟩
abbrev H42_1 (m M1:Nat) (rec1:ByteArray→Int→Int→Dt→Option (Bool×Dt)):Prop:=∀x0 x1 x2 x3,l42 jn m [1,0,1,0] [] M1 (s42_4 x0 x1 x2 x3)=rec1 x0 x1 x2 x3
theorem i42_j4_eq m M1 rec1 (h1:H42_1 m M1 rec1) x0 x1 x2 x3:e42 jn m w42_0 [M1] (s42_4 x0 x1 x2 x3)=i42_j4 m rec1 x0 x1 x2 x3:=
 tre (g:=fun J=>(jj J 1 2 M1 (s42_4 x0 x1 (IntKind.wrap .i64 (x2+1)) x3) (l42 J m [1,0,1,0] [] M1))) (fun J=>by kernel_rfl) (by simp only[jj_eq,h1];rfl)
theorem i42_j3_eq m M1 rec1 (h1:H42_1 m M1 rec1) x0 x1 x2 x3:e42 jn m w42_1 [M1] (s42_4 x0 x1 x2 x3)=i42_j3 m rec1 x0 x1 x2 x3:=
 tre (g:=fun J=>(jj J 0 7 0 (s42_4 x0 x1 x2 (Dt.agg [(Dt.str (Dt.S x3 0)),(Dt.int (IntKind.wrap .i64 ((Dt.I x3 1)+1))),(Dt.int (Dt.I x3 2)),(Dt.int (Dt.I x3 3)),(Dt.int (Dt.I x3 4))])) (e42 J m w42_0 [M1]))) (fun J=>by kernel_rfl) (by simp only[jj_eq,i42_j4_eq m M1 rec1 h1];rfl)
theorem i42_j2_eq m M1 rec1 (h1:H42_1 m M1 rec1) x0 x1 x2 x3:e42 jn m w42_2 [M1] (s42_4 x0 x1 x2 x3)=i42_j2 m rec1 x0 x1 x2 x3:=
 tre (g:=fun J=>((i24 m x3).bind fun r0=>
  ((idxS x0 x2).bind fun v1=>
  (bif (r0.1 !=(IntKind.wrap .i64 v1)) then
  ((i27 m 4 (Dt.I r0.2 1) r0.2).bind fun r2=>
  some (r2.1,r2.2))
  else
  (jj J 0 6 0 (s42_4 x0 x1 x2 r0.2) (e42 J m w42_1 [M1])))))) (fun J=>by kernel_rfl) (by simp only[jj_eq,i42_j3_eq m M1 rec1 h1];rfl)
theorem i42_j5_eq m x0:e42 jn m [1,1] [] (s42_5 x0)=i42_j5 m x0:=
 tre (g:=fun J=>some (true,x0)) (fun J=>by kernel_rfl) (by rfl)
theorem i42_l1_eq m:∀M1 x0 x1 x2 x3,l42 jn m [1,0,1,0] [] M1 (s42_4 x0 x1 x2 x3)=i42_l1 m M1 x0 x1 x2 x3
 |0,_,_,_,_=>rfl
 | M1+1,x0,x1,x2,x3=>
   trl (g:=fun J=>(bif (decide (x2<x1)) then
  (jj J 0 3 0 (s42_4 x0 x1 x2 x3) (e42 J m w42_2 [M1]))
   else
  (jj J 0 8 0 (s42_5 x3) (e42 J m [1,1] [])))) (fun J=>by kernel_rfl) (by simp only[jj_eq,i42_j2_eq m M1 (i42_l1 m M1) (i42_l1_eq m M1),i42_j5_eq m];rfl)
theorem i42_j0_eq m x0 x1 x2 x3:e42 jn m [1,0,1] [] (s42_4 x0 x1 x2 x3)=i42_j0 m x0 x1 x2 x3:=
 tre (g:=fun J=>(jj J 1 2 (Nat.succ m) (s42_4 x0 x1 x2 x3) (l42 J m [1,0,1,0] [] (Nat.succ m)))) (fun J=>by kernel_rfl) (by simp only[jj_eq,i42_l1_eq m];rfl)
theorem i42_eq m a0 a1:e42 jn m [] [] ⟨[(.ptr 0 [] 0),(.dat 9 (.str a0))],[(.box 45 (.dat 45 a1))],1⟩=i42 (m+1) a0 a1:=
 tre (g:=fun J=>(jj J 0 2 0 (s42_4 a0 (ByteArray.size a0:Int) 0 a1) (e42 J m [1,0,1] []))) (fun J=>by kernel_rfl) (by simp only[jj_eq,i42_j0_eq m];rfl)
def w43_4:List Nat:=[1,1,1,1,1,1]
def w43_5:List Nat:=[1,1,1,1,1,0,1]
def w43_3:List Nat:=w43_4++[1,1]
def w43_2:List Nat:=w43_3++[1,1]
def w43_0:List Nat:=w43_4++[1,0,1,0,0]
def w43_1:List Nat:=w43_0++[0,1]
noncomputable def e43 (J:Nat→Nat→Nat→St→Option (Dt×Bool×Dt)→Option (Dt×Bool×Dt)) (m:Nat) (p ms:List Nat) (σ:St):=evAt Tryd.prog env (ct m) J (m+1) 34 92 Tryd.f34 d28 p ms σ
noncomputable def l43 (J:Nat→Nat→Nat→St→Option (Dt×Bool×Dt)→Option (Dt×Bool×Dt)) (m:Nat) (p ms:List Nat) (M:Nat) (σ:St):=loopAt Tryd.prog env (ct m) J (m+1) 34 92 Tryd.f34 d28 p ms M σ
noncomputable def s43_4 (x0:Int) (x1 x2:Dt):St:=⟨tsOf [(0,(.ptr 0 [] 0)),(2,(.ptr 1 [] 0)),(4,(.dat 3 (.int x0)))],[(.box 45 (.dat 45 x1)),(.box 27 (.dat 27 x2))],1⟩
noncomputable def s43_6 (x0:Int) (x1 x2:Dt):St:=⟨tsOf [(2,(.ptr 1 [] 0)),(7,(.dat 2 (.int x0)))],[(.box 45 (.dat 45 x1)),(.box 27 (.dat 27 x2))],1⟩
noncomputable def s43_2 (x0 x1:Int) (x2 x3:Dt):St:=⟨tsOf [(0,(.ptr 0 [] 0)),(2,(.ptr 1 [] 0)),(4,(.dat 3 (.int x0))),(6,(.dat 3 (.int x1)))],[(.box 45 (.dat 45 x2)),(.box 27 (.dat 27 x3))],1⟩
noncomputable def s43_1 (x0 x1:Int) (x2:Bool) (x3 x4:Dt):St:=⟨tsOf [(0,(.ptr 0 [] 0)),(2,(.ptr 1 [] 0)),(4,(.dat 3 (.int x0))),(6,(.dat 3 (.int x1))),(38,(.dat 4 (.bool x2)))],[(.box 45 (.dat 45 x3)),(.box 27 (.dat 27 x4))],1⟩
noncomputable def s43_0 (x0:Int) (x1:Bool) (x2 x3:Dt):St:=⟨tsOf [(0,(.ptr 0 [] 0)),(2,(.ptr 1 [] 0)),(4,(.dat 3 (.int x0))),(5,(.dat 4 (.bool x1)))],[(.box 45 (.dat 45 x2)),(.box 27 (.dat 27 x3))],1⟩
abbrev H43_3 (m M3:Nat) (rec3:Int→Dt→Dt→Option (Dt×Bool×Dt)):Prop:=∀x0 x1 x2,l43 jn m w43_0 [] M3 (s43_4 x0 x1 x2)=rec3 x0 x1 x2
theorem i43_j4_eq m M3 rec3 (h3:H43_3 m M3 rec3) x0 x1 x2:e43 jn m w43_1 [M3] (s43_4 x0 x1 x2)=i43_j4 m rec3 x0 x1 x2:=
 tre (g:=fun J=>(jj J 1 10 M3 (s43_4 x0 (Dt.agg [(Dt.str (Dt.S x1 0)),(Dt.int (IntKind.wrap .i64 ((Dt.I x1 1)+1))),(Dt.int (Dt.I x1 2)),(Dt.int (Dt.I x1 3)),(Dt.int (Dt.I x1 4))]) x2) (l43 J m w43_0 [] M3))) (fun J=>by kernel_rfl) (by simp only[jj_eq,h3];rfl)
theorem i43_j6_eq m x0 x1 x2:e43 jn m w43_2 [] (s43_6 x0 x1 x2)=i43_j6 m x0 x1 x2:=
 tre (g:=fun J=>some ((Dt.agg [(Dt.int 3),(Dt.int x0),(Dt.str (ByteArray.mk (List.toArray []))),(Dt.lst []),(Dt.lst [])]),true,x1)) (fun J=>by kernel_rfl) (by rfl)
theorem i43_j5_eq m x0 x1 x2:e43 jn m w43_3 [] (s43_4 x0 x1 x2)=i43_j5 m x0 x1 x2:=
 tre (g:=fun J=>((cutS (Dt.S x1 0) x0 (Dt.I x1 1)).bind fun v5=>
  ((strconv_ParseInt v5 10 64).bind fun r6=>
  (bif (Bool.not r6.2) then
  ((i27 m 2 x0 x1).bind fun r7=>
  some (kza2373,r7.1,r7.2))
  else
  (jj J 0 15 0 (s43_6 r6.1 x1 x2) (e43 J m w43_2 [])))))) (fun J=>by kernel_rfl) (by simp only[jj_eq,i43_j6_eq m];rfl)
theorem i43_l3_eq m:∀M3 x0 x1 x2,l43 jn m w43_0 [] M3 (s43_4 x0 x1 x2)=i43_l3 m M3 x0 x1 x2
 |0,_,_,_=>rfl
 | M3+1,x0,x1,x2=>
   trl (g:=fun J=>((i24 m x1).bind fun r3=>
  (bif (decide (48≤r3.1)) then
  ((i24 m r3.2).bind fun r4=>
  (bif (decide (r4.1≤57)) then
  (jj J 0 11 0 (s43_4 x0 r4.2 x2) (e43 J m w43_1 [M3]))
  else
  (jj J 0 12 0 (s43_4 x0 r4.2 x2) (e43 J m w43_3 []))))
  else
  (jj J 0 12 0 (s43_4 x0 r3.2 x2) (e43 J m w43_3 []))))) (fun J=>by kernel_rfl) (by simp only[jj_eq,i43_j4_eq m M3 (i43_l3 m M3) (i43_l3_eq m M3),i43_j5_eq m];rfl)
theorem i43_j2_eq m x0 x1 x2 x3:e43 jn m w43_4 [] (s43_2 x0 x1 x2 x3)=i43_j2 m x0 x1 x2 x3:=
 tre (g:=fun J=>(bif (x1 !=48) then
  (jj J 1 10 (Nat.succ m) (s43_4 x0 (Dt.agg [(Dt.str (Dt.S x2 0)),(Dt.int (IntKind.wrap .i64 ((Dt.I x2 1)+1))),(Dt.int (Dt.I x2 2)),(Dt.int (Dt.I x2 3)),(Dt.int (Dt.I x2 4))]) x3) (l43 J m w43_0 [] (Nat.succ m)))
   else
  (jj J 0 12 0 (s43_4 x0 (Dt.agg [(Dt.str (Dt.S x2 0)),(Dt.int (IntKind.wrap .i64 ((Dt.I x2 1)+1))),(Dt.int (Dt.I x2 2)),(Dt.int (Dt.I x2 3)),(Dt.int (Dt.I x2 4))]) x3) (e43 J m w43_3 [])))) (fun J=>by kernel_rfl) (by simp only[jj_eq,i43_l3_eq m,i43_j5_eq m];rfl)
theorem i43_j1_eq m x0 x1 x2 x3 x4:e43 jn m w43_5 [] (s43_1 x0 x1 x2 x3 x4)=i43_j1 m x0 x1 x2 x3 x4:=
 tre (g:=fun J=>(bif x2 then
  ((i27 m 4 (Dt.I x3 1) x3).bind fun r2=>
  some (kza2373,r2.1,r2.2))
   else
  (jj J 0 8 0 (s43_2 x0 x1 x3 x4) (e43 J m w43_4 [])))) (fun J=>by kernel_rfl) (by simp only[jj_eq,i43_j2_eq m];rfl)
theorem i43_j0_eq m x0 x1 x2 x3:e43 jn m [1,1,1,1] [] (s43_0 x0 x1 x2 x3)=i43_j0 m x0 x1 x2 x3:=
 tre (g:=fun J=>((i24 m x2).bind fun r1=>
  (bif (decide (r1.1<48)) then
  (jj J 0 7 0 (s43_1 x0 r1.1 true r1.2 x3) (e43 J m w43_5 []))
  else
  (bif (decide (57<r1.1)) then
  (jj J 0 7 0 (s43_1 x0 r1.1 true r1.2 x3) (e43 J m w43_5 []))
  else
  (bif x1 then
  (jj J 0 7 0 (s43_1 x0 r1.1 (r1.1==48) r1.2 x3) (e43 J m w43_5 []))
  else
  (jj J 0 7 0 (s43_1 x0 r1.1 false r1.2 x3) (e43 J m w43_5 []))))))) (fun J=>by kernel_rfl) (by simp only[jj_eq,i43_j1_eq m];rfl)
theorem i43_eq m a0:e43 jn m [] [] ⟨[(.ptr 0 [] 0)],[(.box 45 (.dat 45 a0))],1⟩=i43 (m+1) a0:=
 tre (g:=fun J=>((i24 m a0).bind fun r0=>
  (bif (r0.1==45) then
  (jj J 0 5 0 (s43_0 (Dt.I a0 1) (r0.1==45) (Dt.agg [(Dt.str (Dt.S r0.2 0)),(Dt.int (IntKind.wrap .i64 ((Dt.I r0.2 1)+1))),(Dt.int (Dt.I r0.2 2)),(Dt.int (Dt.I r0.2 3)),(Dt.int (Dt.I r0.2 4))]) kza2373) (e43 J m [1,1,1,1] []))
  else
  (jj J 0 5 0 (s43_0 (Dt.I a0 1) (r0.1==45) r0.2 kza2373) (e43 J m [1,1,1,1] []))))) (fun J=>by kernel_rfl) (by simp only[jj_eq,i43_j0_eq m];rfl)
def w25_1:List Nat:=[1,1,1,1,1]
def w25_0:List Nat:=[1,1,1,1,1,1]
def w25_4:List Nat:=[1,1,1,1,0,0,1]
def w25_2:List Nat:=w25_4++[0,1]
def w25_3:List Nat:=w25_4++[1,1]
noncomputable def e25 (J:Nat→Nat→Nat→St→Option (Dt×Bool×Dt)→Option (Dt×Bool×Dt)) (m:Nat) (p ms:List Nat) (σ:St):=evAt Tryd.prog env (ct m) J (m+1) 18 112 Tryd.f18 d28 p ms σ
noncomputable def l25 (J:Nat→Nat→Nat→St→Option (Dt×Bool×Dt)→Option (Dt×Bool×Dt)) (m:Nat) (p ms:List Nat) (M:Nat) (σ:St):=loopAt Tryd.prog env (ct m) J (m+1) 18 112 Tryd.f18 d28 p ms M σ
noncomputable def s25_4 (x0 x1:Dt):St:=⟨tsOf [(0,(.ptr 0 [] 0)),(6,(.ptr 1 [] 0))],[(.box 45 (.dat 45 x0)),(.box 27 (.dat 27 x1))],1⟩
noncomputable def s25_3 (x0 x1:Int) (x2 x3:Dt):St:=⟨tsOf [(0,(.ptr 0 [] 0)),(1,(.dat 3 (.int x0))),(6,(.ptr 1 [] 0)),(9,(.dat 3 (.int x1)))],[(.box 45 (.dat 45 x2)),(.box 27 (.dat 27 x3))],1⟩
noncomputable def s25_2 (x0 x1:Int) (x2:Bool) (x3 x4:Dt):St:=⟨tsOf [(0,(.ptr 0 [] 0)),(1,(.dat 3 (.int x0))),(6,(.ptr 1 [] 0)),(9,(.dat 3 (.int x1))),(45,(.dat 4 (.bool x2)))],[(.box 45 (.dat 45 x3)),(.box 27 (.dat 27 x4))],1⟩
noncomputable def s25_5 (x0 x1 x2:Int) (x3:Bool) (x4 x5:Dt):St:=⟨tsOf [(0,(.ptr 0 [] 0)),(1,(.dat 3 (.int x0))),(6,(.ptr 1 [] 0)),(8,(.dat 3 (.int x1))),(9,(.dat 3 (.int x2))),(47,(.dat 4 (.bool x3)))],[(.box 45 (.dat 45 x4)),(.box 27 (.dat 27 x5))],1⟩
noncomputable def s25_1 (x0:Int) (x1:Bool) (x2 x3:Int) (x4:Bool) (x5 x6:Dt):St:=⟨tsOf [(0,(.ptr 0 [] 0)),(1,(.dat 3 (.int x0))),(2,(.dat 4 (.bool x1))),(6,(.ptr 1 [] 0)),(8,(.dat 3 (.int x2))),(9,(.dat 3 (.int x3))),(31,(.dat 4 (.bool x4)))],[(.box 45 (.dat 45 x5)),(.box 27 (.dat 27 x6))],1⟩
noncomputable def s25_0 (x0:Int) (x1:Bool) (x2 x3:Int) (x4:Bool) (x5 x6:Dt):St:=⟨tsOf [(0,(.ptr 0 [] 0)),(1,(.dat 3 (.int x0))),(2,(.dat 4 (.bool x1))),(6,(.ptr 1 [] 0)),(8,(.dat 3 (.int x2))),(9,(.dat 3 (.int x3))),(10,(.dat 4 (.bool x4)))],[(.box 45 (.dat 45 x5)),(.box 27 (.dat 27 x6))],1⟩
theorem i25_j4_eq m x0 x1:e25 jn m w25_0 [] (s25_4 x0 x1)=i25_j4 m (i35 m) (i36 m) x0 x1:=
 tre (g:=fun J=>((i43 m x0).bind fun r8=>
  some (r8.1,r8.2.1,r8.2.2))) (fun J=>by kernel_rfl) (by rfl)
theorem i25_j3_eq m x0 x1 x2 x3:e25 jn m w25_1 [] (s25_3 x0 x1 x2 x3)=i25_j3 m (i35 m) (i36 m) x0 x1 x2 x3:=
 tre (g:=fun J=>(bif (x1==34) then
  ((i28 m x2).bind fun r2=>
  some (r2.1,r2.2.1,r2.2.2))
   else
  (bif (x1==91) then
  ((i35 m x0 x2).bind fun r3=>
  some (r3.1,r3.2.1,r3.2.2))
  else
  (bif (x1==123) then
  ((i36 m x0 x2).bind fun r4=>
  some (r4.1,r4.2.1,r4.2.2))
  else
  (bif (x1==110) then
  ((i42 m (ByteArray.mk (List.toArray [110,117,108,108])) x2).bind fun r5=>
  some (kz3c25e,r5.1,r5.2))
  else
  (bif (x1==116) then
  ((i42 m (ByteArray.mk (List.toArray [116,114,117,101])) x2).bind fun r6=>
  some (kzb2fe3,r6.1,r6.2))
  else
  (bif (x1==102) then
  ((i42 m (ByteArray.mk (List.toArray [102,97,108,115,101])) x2).bind fun r7=>
  some (kzb0365,r7.1,r7.2))
  else
  (jj J 0 24 0 (s25_4 x2 x3) (e25 J m w25_0 []))))))))) (fun J=>by kernel_rfl) (by simp only[jj_eq,i25_j4_eq m];rfl)
theorem i25_j2_eq m x0 x1 x2 x3 x4:e25 jn m w25_2 [] (s25_2 x0 x1 x2 x3 x4)=i25_j2 m (i35 m) (i36 m) x0 x1 x2 x3 x4:=
 tre (g:=fun J=>(bif x2 then
  some (kza2373,false,x3)
   else
  (jj J 0 11 0 (s25_3 x0 x1 x3 x4) (e25 J m w25_1 [])))) (fun J=>by kernel_rfl) (by simp only[jj_eq,i25_j3_eq m];rfl)
theorem i25_j5_eq m x0 x1 x2 x3 x4 x5:e25 jn m w25_3 [] (s25_5 x0 x1 x2 x3 x4 x5)=i25_j5 m (i35 m) (i36 m) x0 x1 x2 x3 x4 x5:=
 tre (g:=fun J=>(bif x3 then
  ((i26 m x0 x1 x4).bind fun r9=>
  (bif (Bool.not r9.1) then
  some (kza2373,false,r9.2)
  else
  (jj J 0 11 0 (s25_3 x0 x2 r9.2 x5) (e25 J m w25_1 []))))
   else
  ((i27 m 4 x1 x4).bind fun r10=>
  some (kza2373,r10.1,r10.2)))) (fun J=>by kernel_rfl) (by simp only[jj_eq,i25_j3_eq m];rfl)
theorem i25_j1_eq m x0 x1 x2 x3 x4 x5 x6:e25 jn m w25_4 [] (s25_1 x0 x1 x2 x3 x4 x5 x6)=i25_j1 m (i35 m) (i36 m) x0 x1 x2 x3 x4 x5 x6:=
 tre (g:=fun J=>(bif x4 then
  (bif (Bool.not x1) then
  ((i26 m x0 x2 x5).bind fun r1=>
  (jj J 0 7 0 (s25_2 x0 x3 (Bool.not r1.1) r1.2 x6) (e25 J m w25_2 [])))
  else
  (jj J 0 7 0 (s25_2 x0 x3 false x5 x6) (e25 J m w25_2 [])))
   else
  (bif (x3==91) then
  (jj J 0 9 0 (s25_5 x0 x2 x3 true x5 x6) (e25 J m w25_3 []))
  else
  (bif (x3==123) then
  (jj J 0 9 0 (s25_5 x0 x2 x3 true x5 x6) (e25 J m w25_3 []))
  else
  (bif (x3==110) then
  (jj J 0 9 0 (s25_5 x0 x2 x3 true x5 x6) (e25 J m w25_3 []))
  else
  (bif (x3==116) then
  (jj J 0 9 0 (s25_5 x0 x2 x3 true x5 x6) (e25 J m w25_3 []))
  else
  (jj J 0 9 0 (s25_5 x0 x2 x3 (x3==102) x5 x6) (e25 J m w25_3 [])))))))) (fun J=>by kernel_rfl) (by simp only[jj_eq,i25_j2_eq m,i25_j5_eq m];rfl)
theorem i25_j0_eq m x0 x1 x2 x3 x4 x5 x6:e25 jn m [1,1,1,1] [] (s25_0 x0 x1 x2 x3 x4 x5 x6)=i25_j0 m (i35 m) (i36 m) x0 x1 x2 x3 x4 x5 x6:=
 tre (g:=fun J=>(bif (x3==34) then
  (jj J 0 6 0 (s25_1 x0 x1 x2 x3 true x5 x6) (e25 J m w25_4 []))
   else
  (jj J 0 6 0 (s25_1 x0 x1 x2 x3 x4 x5 x6) (e25 J m w25_4 [])))) (fun J=>by kernel_rfl) (by simp only[jj_eq,i25_j1_eq m];rfl)
theorem i25_eq m a0 a1 a2:e25 jn m [] [] ⟨[(.ptr 0 [] 0),(.dat 3 (.int a0)),(.dat 4 (.bool a1))],[(.box 45 (.dat 45 a2))],1⟩=i25 (m+1) a0 a1 a2:=
 tre (g:=fun J=>((i24 m a2).bind fun r0=>
  (bif (r0.1==45) then
  (jj J 0 5 0 (s25_0 a0 a1 (Dt.I a2 1) r0.1 true r0.2 kza2373) (e25 J m [1,1,1,1] []))
  else
  (bif (decide (48≤r0.1)) then
  (jj J 0 5 0 (s25_0 a0 a1 (Dt.I a2 1) r0.1 (decide (r0.1≤57)) r0.2 kza2373) (e25 J m [1,1,1,1] []))
  else
  (jj J 0 5 0 (s25_0 a0 a1 (Dt.I a2 1) r0.1 false r0.2 kza2373) (e25 J m [1,1,1,1] [])))))) (fun J=>by kernel_rfl) (by simp only[jj_eq,i25_j0_eq m];rfl)
def w35_5:List Nat:=[1,1,1,1,1]
def w35_0:List Nat:=[1,1,1,1,1,0]
def w35_4:List Nat:=w35_0++[0,0,1,1]
def w35_2:List Nat:=w35_4++[1,1,1,1]
def w35_3:List Nat:=w35_4++[1,1,1,0,1]
def w35_1:List Nat:=w35_2++[1,1]
noncomputable def e35 (J:Nat→Nat→Nat→St→Option (Dt×Bool×Dt)→Option (Dt×Bool×Dt)) (m:Nat) (p ms:List Nat) (σ:St):=evAt Tryd.prog env (ct m) J (m+1) 31 76 Tryd.f31 d28 p ms σ
noncomputable def l35 (J:Nat→Nat→Nat→St→Option (Dt×Bool×Dt)→Option (Dt×Bool×Dt)) (m:Nat) (p ms:List Nat) (M:Nat) (σ:St):=loopAt Tryd.prog env (ct m) J (m+1) 31 76 Tryd.f31 d28 p ms M σ
noncomputable def s35_5 (x0:Int) (x1 x2:Dt) (x3 x4:Int) (x5:ByteArray) (x6 x7:List Dt):St:=⟨tsOf [(0,(.ptr 0 [] 0)),(1,(.dat 3 (.int x0))),(4,(.ptr 1 [] 0)),(6,(.ptr 2 [] 0))],[(.box 45 (.dat 45 x1)),(.box 27 (.dat 27 x2)),(.box 27 (.agg 27 [(.dat 3 (.int x3)),(.dat 3 (.int x4)),(.dat 9 (.str x5)),(.row 3),(.row 4)])),(.row 24 x6),(.row 25 x7)],1⟩
noncomputable def s35_4 (x0 x1:Int) (x2 x3:Dt) (x4 x5:Int) (x6:ByteArray) (x7 x8:List Dt):St:=⟨tsOf [(0,(.ptr 0 [] 0)),(1,(.dat 3 (.int x0))),(4,(.ptr 1 [] 0)),(6,(.ptr 2 [] 0)),(9,(.dat 3 (.int x1)))],[(.box 45 (.dat 45 x2)),(.box 27 (.dat 27 x3)),(.box 27 (.agg 27 [(.dat 3 (.int x4)),(.dat 3 (.int x5)),(.dat 9 (.str x6)),(.row 3),(.row 4)])),(.row 24 x7),(.row 25 x8)],1⟩
noncomputable def s35_3 (x0 x1:Int) (x2:Bool) (x3 x4:Dt) (x5 x6:Int) (x7:ByteArray) (x8 x9:List Dt):St:=⟨tsOf [(0,(.ptr 0 [] 0)),(1,(.dat 3 (.int x0))),(4,(.ptr 1 [] 0)),(6,(.ptr 2 [] 0)),(9,(.dat 3 (.int x1))),(56,(.dat 4 (.bool x2)))],[(.box 45 (.dat 45 x3)),(.box 27 (.dat 27 x4)),(.box 27 (.agg 27 [(.dat 3 (.int x5)),(.dat 3 (.int x6)),(.dat 9 (.str x7)),(.row 3),(.row 4)])),(.row 24 x8),(.row 25 x9)],1⟩
noncomputable def s35_2 (x0:Int) (x1 x2:Dt) (x3 x4:Int) (x5:ByteArray) (x6 x7:List Dt) (x8:Dt):St:=⟨tsOf [(0,(.ptr 0 [] 0)),(1,(.dat 3 (.int x0))),(4,(.ptr 1 [] 0)),(6,(.ptr 2 [] 0)),(7,(.ptr 5 [] 0))],[(.box 45 (.dat 45 x1)),(.box 27 (.dat 27 x2)),(.box 27 (.agg 27 [(.dat 3 (.int x3)),(.dat 3 (.int x4)),(.dat 9 (.str x5)),(.row 3),(.row 4)])),(.row 24 x6),(.row 25 x7),(.box 27 (.dat 27 x8))],1⟩
abbrev H35_1 (m M1:Nat) (rec1:Int→Dt→Dt→Int→Int→ByteArray→List Dt→List Dt→Option (Dt×Bool×Dt)):Prop:=∀x0 x1 x2 x3 x4 x5 x6 x7,l35 jn m w35_0 [] M1 (s35_5 x0 x1 x2 x3 x4 x5 x6 x7)=rec1 x0 x1 x2 x3 x4 x5 x6 x7
theorem i35_j5_eq m M1 rec1 (h1:H35_1 m M1 rec1) x0 x1 x2 x3 x4 x5 x6 x7:e35 jn m w35_1 [M1] (s35_5 x0 x1 x2 x3 x4 x5 x6 x7)=i35_j5 m (i25 m) rec1 x0 x1 x2 x3 x4 x5 x6 x7:=
 tre (g:=fun J=>((i23 m x1).bind fun r7=>
  (jj J 1 7 M1 (s35_5 x0 r7 x2 x3 x4 x5 x6 x7) (l35 J m w35_0 [] M1)))) (fun J=>by kernel_rfl) (by simp only[jj_eq,h1];rfl)
theorem i35_j4_eq m M1 rec1 (h1:H35_1 m M1 rec1) x0 x1 x2 x3 x4 x5 x6 x7 x8:e35 jn m w35_2 [M1] (s35_4 x0 x1 x2 x3 x4 x5 x6 x7 x8)=i35_j4 m (i25 m) rec1 x0 x1 x2 x3 x4 x5 x6 x7 x8:=
 tre (g:=fun J=>(bif (x1==93) then
  some ((Dt.agg [(Dt.int x4),(Dt.int x5),(Dt.str x6),(Dt.lst x7),(Dt.lst x8)]),true,(Dt.agg [(Dt.str (Dt.S x2 0)),(Dt.int (IntKind.wrap .i64 ((Dt.I x2 1)+1))),(Dt.int (Dt.I x2 2)),(Dt.int (Dt.I x2 3)),(Dt.int (Dt.I x2 4))]))
   else
  (jj J 0 18 0 (s35_5 x0 (Dt.agg [(Dt.str (Dt.S x2 0)),(Dt.int (IntKind.wrap .i64 ((Dt.I x2 1)+1))),(Dt.int (Dt.I x2 2)),(Dt.int (Dt.I x2 3)),(Dt.int (Dt.I x2 4))]) x3 x4 x5 x6 x7 x8) (e35 J m w35_1 [M1])))) (fun J=>by kernel_rfl) (by simp only[jj_eq,i35_j5_eq m M1 rec1 h1];rfl)
theorem i35_j3_eq m M1 rec1 (h1:H35_1 m M1 rec1) x0 x1 x2 x3 x4 x5 x6 x7 x8 x9:e35 jn m w35_3 [M1] (s35_3 x0 x1 x2 x3 x4 x5 x6 x7 x8 x9)=i35_j3 m (i25 m) rec1 x0 x1 x2 x3 x4 x5 x6 x7 x8 x9:=
 tre (g:=fun J=>(bif x2 then
  ((i27 m 4 (Dt.I x3 1) x3).bind fun r6=>
  some (kza2373,r6.1,r6.2))
   else
  (jj J 0 15 0 (s35_4 x0 x1 x3 x4 x5 x6 x7 x8 x9) (e35 J m w35_2 [M1])))) (fun J=>by kernel_rfl) (by simp only[jj_eq,i35_j4_eq m M1 rec1 h1];rfl)
theorem i35_j2_eq m M1 rec1 (h1:H35_1 m M1 rec1) x0 x1 x2 x3 x4 x5 x6 x7 x8:e35 jn m w35_4 [M1] (s35_2 x0 x1 x2 x3 x4 x5 x6 x7 x8)=i35_j2 m (i25 m) rec1 x0 x1 x2 x3 x4 x5 x6 x7 x8:=
 tre (g:=fun J=>((app x6 [x8]).bind fun v3=>
  ((i23 m x1).bind fun r4=>
  ((i24 m r4).bind fun r5=>
  (bif (r5.1 !=44) then
  (jj J 0 14 0 (s35_3 x0 r5.1 (r5.1 !=93) r5.2 x2 x3 x4 x5 v3 x7) (e35 J m w35_3 [M1]))
  else
  (jj J 0 14 0 (s35_3 x0 r5.1 false r5.2 x2 x3 x4 x5 v3 x7) (e35 J m w35_3 [M1]))))))) (fun J=>by kernel_rfl) (by simp only[jj_eq,i35_j3_eq m M1 rec1 h1];rfl)
theorem i35_l1_eq m:∀M1 x0 x1 x2 x3 x4 x5 x6 x7,l35 jn m w35_0 [] M1 (s35_5 x0 x1 x2 x3 x4 x5 x6 x7)=i35_l1 m (i25 m) M1 x0 x1 x2 x3 x4 x5 x6 x7
 |0,_,_,_,_,_,_,_,_=>rfl
 | M1+1,x0,x1,x2,x3,x4,x5,x6,x7=>
   trl (g:=fun J=>((i25 m (IntKind.wrap .i64 (x0+1)) false x1).bind fun r2=>
  (bif (Bool.not r2.2.1) then
  some (kza2373,false,r2.2.2)
  else
  (jj J 0 10 0 (s35_2 x0 r2.2.2 x2 x3 x4 x5 x6 x7 r2.1) (e35 J m w35_4 [M1]))))) (fun J=>by kernel_rfl) (by simp only[jj_eq,i35_j2_eq m M1 (i35_l1 m (i25 m) M1) (i35_l1_eq m M1)];rfl)
theorem i35_j0_eq m x0 x1 x2 x3 x4 x5 x6 x7:e35 jn m w35_5 [] (s35_5 x0 x1 x2 x3 x4 x5 x6 x7)=i35_j0 m (i25 m) x0 x1 x2 x3 x4 x5 x6 x7:=
 tre (g:=fun J=>(jj J 1 7 (Nat.succ m) (s35_5 x0 x1 x2 x3 x4 x5 x6 x7) (l35 J m w35_0 [] (Nat.succ m)))) (fun J=>by kernel_rfl) (by simp only[jj_eq,i35_l1_eq m];rfl)
theorem i35_eq m a0 a1:e35 jn m [] [] ⟨[(.ptr 0 [] 0),(.dat 3 (.int a0))],[(.box 45 (.dat 45 a1))],1⟩=i35 (m+1) a0 a1:=
 tre (g:=fun J=>((i23 m (Dt.agg [(Dt.str (Dt.S a1 0)),(Dt.int (IntKind.wrap .i64 ((Dt.I a1 1)+1))),(Dt.int (Dt.I a1 2)),(Dt.int (Dt.I a1 3)),(Dt.int (Dt.I a1 4))])).bind fun r0=>
  ((i24 m r0).bind fun r1=>
  (bif (r1.1==93) then
  some (kz73e26,true,(Dt.agg [(Dt.str (Dt.S r1.2 0)),(Dt.int (IntKind.wrap .i64 ((Dt.I r1.2 1)+1))),(Dt.int (Dt.I r1.2 2)),(Dt.int (Dt.I r1.2 3)),(Dt.int (Dt.I r1.2 4))]))
  else
  (jj J 0 7 0 (s35_5 a0 r1.2 kza2373 6 0 (ByteArray.mk (List.toArray [])) [] []) (e35 J m w35_5 [])))))) (fun J=>by kernel_rfl) (by simp only[jj_eq,i35_j0_eq m];rfl)
def w36_10:List Nat:=[1,1,1,1,1,1]
def w36_0:List Nat:=w36_10++[0]
def w36_9:List Nat:=w36_0++[0,0,1,1]
def w36_8:List Nat:=w36_9++[1,1]
def w36_7:List Nat:=w36_8++[1,1,1]
def w36_5:List Nat:=w36_7++[1,1,1,1]
def w36_6:List Nat:=w36_7++[1,1,1,0,1]
def w36_4:List Nat:=w36_5++[1,1]
def w36_2:List Nat:=w36_4++[1]
def w36_1:List Nat:=w36_2++[1]
def w36_3:List Nat:=w36_4++[0,1]
noncomputable def e36 (J:Nat→Nat→Nat→St→Option (Dt×Bool×Dt)→Option (Dt×Bool×Dt)) (m:Nat) (p ms:List Nat) (σ:St):=evAt Tryd.prog env (ct m) J (m+1) 32 139 Tryd.f32 d28 p ms σ
noncomputable def l36 (J:Nat→Nat→Nat→St→Option (Dt×Bool×Dt)→Option (Dt×Bool×Dt)) (m:Nat) (p ms:List Nat) (M:Nat) (σ:St):=loopAt Tryd.prog env (ct m) J (m+1) 32 139 Tryd.f32 d28 p ms M σ
noncomputable def s36_10 (x0:Int) (x1 x2:Dt) (x3 x4:Int) (x5:ByteArray) (x6 x7 x8:List Dt):St:=⟨tsOf [(0,(.ptr 0 [] 0)),(1,(.dat 3 (.int x0))),(4,(.ptr 1 [] 0)),(6,(.ptr 2 [] 0)),(7,(.row 5))],[(.box 45 (.dat 45 x1)),(.box 27 (.dat 27 x2)),(.box 27 (.agg 27 [(.dat 3 (.int x3)),(.dat 3 (.int x4)),(.dat 9 (.str x5)),(.row 3),(.row 4)])),(.row 24 x6),(.row 25 x7),(.map 68 x8)],1⟩
noncomputable def s36_9 (x0 x1:Int) (x2 x3:Dt) (x4 x5:Int) (x6:ByteArray) (x7 x8 x9:List Dt):St:=⟨tsOf [(0,(.ptr 0 [] 0)),(1,(.dat 3 (.int x0))),(4,(.ptr 1 [] 0)),(6,(.ptr 2 [] 0)),(7,(.row 5)),(13,(.dat 3 (.int x1)))],[(.box 45 (.dat 45 x2)),(.box 27 (.dat 27 x3)),(.box 27 (.agg 27 [(.dat 3 (.int x4)),(.dat 3 (.int x5)),(.dat 9 (.str x6)),(.row 3),(.row 4)])),(.row 24 x7),(.row 25 x8),(.map 68 x9)],1⟩
noncomputable def s36_8 (x0 x1:Int) (x2:Bool) (x3 x4:Dt) (x5 x6:Int) (x7:ByteArray) (x8 x9 x10:List Dt):St:=⟨tsOf [(0,(.ptr 0 [] 0)),(1,(.dat 3 (.int x0))),(4,(.ptr 1 [] 0)),(6,(.ptr 2 [] 0)),(7,(.row 5)),(13,(.dat 3 (.int x1))),(132,(.dat 4 (.bool x2)))],[(.box 45 (.dat 45 x3)),(.box 27 (.dat 27 x4)),(.box 27 (.agg 27 [(.dat 3 (.int x5)),(.dat 3 (.int x6)),(.dat 9 (.str x7)),(.row 3),(.row 4)])),(.row 24 x8),(.row 25 x9),(.map 68 x10)],1⟩
noncomputable def s36_7 (x0:Int) (x1:Bool) (x2 x3:Int) (x4 x5:Dt) (x6 x7:Int) (x8:ByteArray) (x9 x10 x11:List Dt) (x12:Dt):St:=⟨tsOf [(0,(.ptr 0 [] 0)),(1,(.dat 3 (.int x0))),(4,(.ptr 1 [] 0)),(6,(.ptr 2 [] 0)),(7,(.row 5)),(10,(.dat 4 (.bool x1))),(11,(.dat 3 (.int x2))),(12,(.ptr 6 [] 0)),(13,(.dat 3 (.int x3)))],[(.box 45 (.dat 45 x4)),(.box 27 (.dat 27 x5)),(.box 27 (.agg 27 [(.dat 3 (.int x6)),(.dat 3 (.int x7)),(.dat 9 (.str x8)),(.row 3),(.row 4)])),(.row 24 x9),(.row 25 x10),(.map 68 x11),(.box 27 (.dat 27 x12))],1⟩
noncomputable def s36_5 (x0:Int) (x1:Bool) (x2 x3:Int) (x4:Bool) (x5 x6:Dt) (x7 x8:Int) (x9:ByteArray) (x10 x11 x12:List Dt) (x13:Dt):St:=⟨tsOf [(0,(.ptr 0 [] 0)),(1,(.dat 3 (.int x0))),(4,(.ptr 1 [] 0)),(6,(.ptr 2 [] 0)),(7,(.row 5)),(10,(.dat 4 (.bool x1))),(11,(.dat 3 (.int x2))),(12,(.ptr 6 [] 0)),(13,(.dat 3 (.int x3))),(89,(.dat 4 (.bool x4)))],[(.box 45 (.dat 45 x5)),(.box 27 (.dat 27 x6)),(.box 27 (.agg 27 [(.dat 3 (.int x7)),(.dat 3 (.int x8)),(.dat 9 (.str x9)),(.row 3),(.row 4)])),(.row 24 x10),(.row 25 x11),(.map 68 x12),(.box 27 (.dat 27 x13))],1⟩
noncomputable def s36_4 (x0:Int) (x1:ByteArray) (x2:Bool) (x3:Int) (x4 x5:Dt) (x6 x7:Int) (x8:ByteArray) (x9 x10 x11:List Dt) (x12:Dt):St:=⟨tsOf [(0,(.ptr 0 [] 0)),(1,(.dat 3 (.int x0))),(4,(.ptr 1 [] 0)),(6,(.ptr 2 [] 0)),(7,(.row 5)),(8,(.dat 9 (.str x1))),(10,(.dat 4 (.bool x2))),(11,(.dat 3 (.int x3))),(12,(.ptr 6 [] 0))],[(.box 45 (.dat 45 x4)),(.box 27 (.dat 27 x5)),(.box 27 (.agg 27 [(.dat 3 (.int x6)),(.dat 3 (.int x7)),(.dat 9 (.str x8)),(.row 3),(.row 4)])),(.row 24 x9),(.row 25 x10),(.map 68 x11),(.box 27 (.dat 27 x12))],1⟩
noncomputable def s36_3 (x0:Int) (x1:ByteArray) (x2:Bool) (x3 x4:Dt) (x5 x6:Int) (x7:ByteArray) (x8 x9 x10:List Dt):St:=⟨tsOf [(0,(.ptr 0 [] 0)),(1,(.dat 3 (.int x0))),(4,(.ptr 1 [] 0)),(6,(.ptr 2 [] 0)),(7,(.row 5)),(8,(.dat 9 (.str x1))),(10,(.dat 4 (.bool x2)))],[(.box 45 (.dat 45 x3)),(.box 27 (.dat 27 x4)),(.box 27 (.agg 27 [(.dat 3 (.int x5)),(.dat 3 (.int x6)),(.dat 9 (.str x7)),(.row 3),(.row 4)])),(.row 24 x8),(.row 25 x9),(.map 68 x10)],1⟩
noncomputable def s36_2 (x0:Int) (x1:ByteArray) (x2 x3:Dt) (x4 x5:Int) (x6:ByteArray) (x7 x8 x9:List Dt):St:=⟨tsOf [(0,(.ptr 0 [] 0)),(1,(.dat 3 (.int x0))),(4,(.ptr 1 [] 0)),(6,(.ptr 2 [] 0)),(7,(.row 5)),(8,(.dat 9 (.str x1)))],[(.box 45 (.dat 45 x2)),(.box 27 (.dat 27 x3)),(.box 27 (.agg 27 [(.dat 3 (.int x4)),(.dat 3 (.int x5)),(.dat 9 (.str x6)),(.row 3),(.row 4)])),(.row 24 x7),(.row 25 x8),(.map 68 x9)],1⟩
abbrev H36_1 (m M1:Nat) (rec1:Int→Dt→Dt→Int→Int→ByteArray→List Dt→List Dt→List Dt→Option (Dt×Bool×Dt)):Prop:=∀x0 x1 x2 x3 x4 x5 x6 x7 x8,l36 jn m w36_0 [] M1 (s36_10 x0 x1 x2 x3 x4 x5 x6 x7 x8)=rec1 x0 x1 x2 x3 x4 x5 x6 x7 x8
theorem i36_j10_eq m M1 rec1 (h1:H36_1 m M1 rec1) x0 x1 x2 x3 x4 x5 x6 x7 x8:e36 jn m w36_1 [M1] (s36_10 x0 x1 x2 x3 x4 x5 x6 x7 x8)=i36_j10 m (i25 m) rec1 x0 x1 x2 x3 x4 x5 x6 x7 x8:=
 tre (g:=fun J=>((i23 m x1).bind fun r11=>
  (jj J 1 8 M1 (s36_10 x0 r11 x2 x3 x4 x5 x6 x7 x8) (l36 J m w36_0 [] M1)))) (fun J=>by kernel_rfl) (by simp only[jj_eq,h1];rfl)
theorem i36_j9_eq m M1 rec1 (h1:H36_1 m M1 rec1) x0 x1 x2 x3 x4 x5 x6 x7 x8 x9:e36 jn m w36_2 [M1] (s36_9 x0 x1 x2 x3 x4 x5 x6 x7 x8 x9)=i36_j9 m (i25 m) rec1 x0 x1 x2 x3 x4 x5 x6 x7 x8 x9:=
 tre (g:=fun J=>(bif (x1==125) then
  some ((Dt.agg [(Dt.int x4),(Dt.int x5),(Dt.str x6),(Dt.lst x7),(Dt.lst x8)]),true,x2)
   else
  (jj J 0 31 0 (s36_10 x0 x2 x3 x4 x5 x6 x7 x8 x9) (e36 J m w36_1 [M1])))) (fun J=>by kernel_rfl) (by simp only[jj_eq,i36_j10_eq m M1 rec1 h1];rfl)
theorem i36_j8_eq m M1 rec1 (h1:H36_1 m M1 rec1) x0 x1 x2 x3 x4 x5 x6 x7 x8 x9 x10:e36 jn m w36_3 [M1] (s36_8 x0 x1 x2 x3 x4 x5 x6 x7 x8 x9 x10)=i36_j8 m (i25 m) rec1 x0 x1 x2 x3 x4 x5 x6 x7 x8 x9 x10:=
 tre (g:=fun J=>(bif x2 then
  some (kza2373,false,x3)
   else
  (jj J 0 29 0 (s36_9 x0 x1 x3 x4 x5 x6 x7 x8 x9 x10) (e36 J m w36_2 [M1])))) (fun J=>by kernel_rfl) (by simp only[jj_eq,i36_j9_eq m M1 rec1 h1];rfl)
theorem i36_j7_eq m M1 rec1 (h1:H36_1 m M1 rec1) x0 x1 x2 x3 x4 x5 x6 x7 x8 x9 x10 x11 x12:e36 jn m w36_4 [M1] (s36_7 x0 x1 x2 x3 x4 x5 x6 x7 x8 x9 x10 x11 x12)=i36_j7 m (i25 m) rec1 x0 x1 x2 x3 x4 x5 x6 x7 x8 x9 x10 x11 x12:=
 tre (g:=fun J=>(bif x1 then
  (bif ((Dt.I x12 0)==4) then
  ((i26 m (IntKind.wrap .i64 (x0+1)) x2 x4).bind fun r10=>
  (jj J 0 28 0 (s36_8 x0 x3 (Bool.not r10.1) r10.2 x5 x6 x7 x8 x9 x10 x11) (e36 J m w36_3 [M1])))
  else
  (bif ((Dt.I x12 0)==3) then
  ((i26 m (IntKind.wrap .i64 (x0+1)) x2 x4).bind fun r12=>
  (jj J 0 28 0 (s36_8 x0 x3 (Bool.not r12.1) r12.2 x5 x6 x7 x8 x9 x10 x11) (e36 J m w36_3 [M1])))
  else
  (jj J 0 28 0 (s36_8 x0 x3 false x4 x5 x6 x7 x8 x9 x10 x11) (e36 J m w36_3 [M1]))))
   else
  (jj J 0 28 0 (s36_8 x0 x3 false x4 x5 x6 x7 x8 x9 x10 x11) (e36 J m w36_3 [M1])))) (fun J=>by kernel_rfl) (by simp only[jj_eq,i36_j8_eq m M1 rec1 h1];rfl)
theorem i36_j6_eq m M1 rec1 (h1:H36_1 m M1 rec1) x0 x1 x2 x3 x4 x5 x6 x7 x8 x9 x10 x11 x12:e36 jn m w36_5 [M1] (s36_7 x0 x1 x2 x3 x4 x5 x6 x7 x8 x9 x10 x11 x12)=i36_j6 m (i25 m) rec1 x0 x1 x2 x3 x4 x5 x6 x7 x8 x9 x10 x11 x12:=
 tre (g:=fun J=>(bif (x3==125) then
  ((i40 m x10).bind fun r9=>
  (bif r9.2.1 then
  some (r9.1,true,(Dt.agg [(Dt.str (Dt.S x4 0)),(Dt.int (IntKind.wrap .i64 ((Dt.I x4 1)+1))),(Dt.int (Dt.I x4 2)),(Dt.int (Dt.I x4 3)),(Dt.int (Dt.I x4 4))]))
  else
  (jj J 0 27 0 (s36_7 x0 x1 x2 x3 (Dt.agg [(Dt.str (Dt.S x4 0)),(Dt.int (IntKind.wrap .i64 ((Dt.I x4 1)+1))),(Dt.int (Dt.I x4 2)),(Dt.int (Dt.I x4 3)),(Dt.int (Dt.I x4 4))]) x5 x6 x7 x8 x9 r9.2.2 x11 x12) (e36 J m w36_4 [M1]))))
   else
  (jj J 0 27 0 (s36_7 x0 x1 x2 x3 (Dt.agg [(Dt.str (Dt.S x4 0)),(Dt.int (IntKind.wrap .i64 ((Dt.I x4 1)+1))),(Dt.int (Dt.I x4 2)),(Dt.int (Dt.I x4 3)),(Dt.int (Dt.I x4 4))]) x5 x6 x7 x8 x9 x10 x11 x12) (e36 J m w36_4 [M1])))) (fun J=>by kernel_rfl) (by simp only[jj_eq,i36_j7_eq m M1 rec1 h1];rfl)
theorem i36_j5_eq m M1 rec1 (h1:H36_1 m M1 rec1) x0 x1 x2 x3 x4 x5 x6 x7 x8 x9 x10 x11 x12 x13:e36 jn m w36_6 [M1] (s36_5 x0 x1 x2 x3 x4 x5 x6 x7 x8 x9 x10 x11 x12 x13)=i36_j5 m (i25 m) rec1 x0 x1 x2 x3 x4 x5 x6 x7 x8 x9 x10 x11 x12 x13:=
 tre (g:=fun J=>(bif x4 then
  ((i27 m 4 (Dt.I x5 1) x5).bind fun r8=>
  some (kza2373,r8.1,r8.2))
   else
  (jj J 0 22 0 (s36_7 x0 x1 x2 x3 x5 x6 x7 x8 x9 x10 x11 x12 x13) (e36 J m w36_5 [M1])))) (fun J=>by kernel_rfl) (by simp only[jj_eq,i36_j6_eq m M1 rec1 h1];rfl)
theorem i36_j4_eq m M1 rec1 (h1:H36_1 m M1 rec1) x0 x1 x2 x3 x4 x5 x6 x7 x8 x9 x10 x11 x12:e36 jn m w36_7 [M1] (s36_4 x0 x1 x2 x3 x4 x5 x6 x7 x8 x9 x10 x11 x12)=i36_j4 m (i25 m) rec1 x0 x1 x2 x3 x4 x5 x6 x7 x8 x9 x10 x11 x12:=
 tre (g:=fun J=>((app x10 [(Dt.agg [(Dt.str x1),x12])]).bind fun v5=>
  ((i23 m x4).bind fun r6=>
  ((i24 m r6).bind fun r7=>
  (bif (r7.1 !=44) then
  (jj J 0 21 0 (s36_5 x0 x2 x3 r7.1 (r7.1 !=125) r7.2 x5 x6 x7 x8 x9 v5 x11 x12) (e36 J m w36_6 [M1]))
  else
  (jj J 0 21 0 (s36_5 x0 x2 x3 r7.1 false r7.2 x5 x6 x7 x8 x9 v5 x11 x12) (e36 J m w36_6 [M1]))))))) (fun J=>by kernel_rfl) (by simp only[jj_eq,i36_j5_eq m M1 rec1 h1];rfl)
theorem i36_j3_eq m M1 rec1 (h1:H36_1 m M1 rec1) x0 x1 x2 x3 x4 x5 x6 x7 x8 x9 x10:e36 jn m w36_8 [M1] (s36_3 x0 x1 x2 x3 x4 x5 x6 x7 x8 x9 x10)=i36_j3 m (i25 m) rec1 x0 x1 x2 x3 x4 x5 x6 x7 x8 x9 x10:=
 tre (g:=fun J=>((i25 m (IntKind.wrap .i64 (x0+1)) x2 x3).bind fun r4=>
  (bif (Bool.not r4.2.1) then
  some (kza2373,false,r4.2.2)
  else
  (jj J 0 17 0 (s36_4 x0 x1 x2 (Dt.I x3 1) r4.2.2 x4 x5 x6 x7 x8 x9 x10 r4.1) (e36 J m w36_7 [M1]))))) (fun J=>by kernel_rfl) (by simp only[jj_eq,i36_j4_eq m M1 rec1 h1];rfl)
theorem i36_j2_eq m M1 rec1 (h1:H36_1 m M1 rec1) x0 x1 x2 x3 x4 x5 x6 x7 x8 x9:e36 jn m w36_9 [M1] (s36_2 x0 x1 x2 x3 x4 x5 x6 x7 x8 x9)=i36_j2 m (i25 m) rec1 x0 x1 x2 x3 x4 x5 x6 x7 x8 x9:=
 tre (g:=fun J=>(bif ((List.length x8:Int)==0) then
  ((notation_isSpecial m x1).bind fun r3=>
  (jj J 0 13 0 (s36_3 x0 x1 r3 x2 x3 x4 x5 x6 x7 x8 (mput x9 x1 (Dt.bool true))) (e36 J m w36_8 [M1])))
   else
  (jj J 0 13 0 (s36_3 x0 x1 false x2 x3 x4 x5 x6 x7 x8 (mput x9 x1 (Dt.bool true))) (e36 J m w36_8 [M1])))) (fun J=>by kernel_rfl) (by simp only[jj_eq,i36_j3_eq m M1 rec1 h1];rfl)
theorem i36_l1_eq m:∀M1 x0 x1 x2 x3 x4 x5 x6 x7 x8,l36 jn m w36_0 [] M1 (s36_10 x0 x1 x2 x3 x4 x5 x6 x7 x8)=i36_l1 m (i25 m) M1 x0 x1 x2 x3 x4 x5 x6 x7 x8
 |0,_,_,_,_,_,_,_,_,_=>rfl
 | M1+1,x0,x1,x2,x3,x4,x5,x6,x7,x8=>
   trl (g:=fun J=>((i37 m x1 x8).bind fun r2=>
  (bif (Bool.not r2.2.1) then
  some (kza2373,false,r2.2.2.1)
  else
  (jj J 0 11 0 (s36_2 x0 r2.1 r2.2.2.1 x2 x3 x4 x5 x6 x7 r2.2.2.2) (e36 J m w36_9 [M1]))))) (fun J=>by kernel_rfl) (by simp only[jj_eq,i36_j2_eq m M1 (i36_l1 m (i25 m) M1) (i36_l1_eq m M1)];rfl)
theorem i36_j0_eq m x0 x1 x2 x3 x4 x5 x6 x7 x8:e36 jn m w36_10 [] (s36_10 x0 x1 x2 x3 x4 x5 x6 x7 x8)=i36_j0 m (i25 m) x0 x1 x2 x3 x4 x5 x6 x7 x8:=
 tre (g:=fun J=>(jj J 1 8 (Nat.succ m) (s36_10 x0 x1 x2 x3 x4 x5 x6 x7 x8) (l36 J m w36_0 [] (Nat.succ m)))) (fun J=>by kernel_rfl) (by simp only[jj_eq,i36_l1_eq m];rfl)
theorem i36_eq m a0 a1:e36 jn m [] [] ⟨[(.ptr 0 [] 0),(.dat 3 (.int a0))],[(.box 45 (.dat 45 a1))],1⟩=i36 (m+1) a0 a1:=
 tre (g:=fun J=>((i23 m (Dt.agg [(Dt.str (Dt.S a1 0)),(Dt.int (IntKind.wrap .i64 ((Dt.I a1 1)+1))),(Dt.int (Dt.I a1 2)),(Dt.int (Dt.I a1 3)),(Dt.int (Dt.I a1 4))])).bind fun r0=>
  ((i24 m r0).bind fun r1=>
  (bif (r1.1==125) then
  some (kze9562,true,(Dt.agg [(Dt.str (Dt.S r1.2 0)),(Dt.int (IntKind.wrap .i64 ((Dt.I r1.2 1)+1))),(Dt.int (Dt.I r1.2 2)),(Dt.int (Dt.I r1.2 3)),(Dt.int (Dt.I r1.2 4))]))
  else
  (jj J 0 8 0 (s36_10 a0 r1.2 kza2373 5 0 (ByteArray.mk (List.toArray [])) [] [] []) (e36 J m w36_10 [])))))) (fun J=>by kernel_rfl) (by simp only[jj_eq,i36_j0_eq m];rfl)
def w7_1:List Nat:=[1,1,1,1,1]
def w7_0:List Nat:=[1,1,1,1,1,1]
noncomputable def e7 (J:Nat→Nat→Nat→St→Option (Dt×Int×Int)→Option (Dt×Int×Int)) (m:Nat) (p ms:List Nat) (σ:St):=evAt Tryd.prog env (ct m) J (m+1) 10 34 Tryd.f10 d7 p ms σ
noncomputable def l7 (J:Nat→Nat→Nat→St→Option (Dt×Int×Int)→Option (Dt×Int×Int)) (m:Nat) (p ms:List Nat) (M:Nat) (σ:St):=loopAt Tryd.prog env (ct m) J (m+1) 10 34 Tryd.f10 d7 p ms M σ
noncomputable def s7_1 (x0 x1:Dt):St:=⟨tsOf [(2,(.ptr 0 [] 0)),(6,(.ptr 1 [] 0))],[(.box 27 (.dat 27 x0)),(.box 27 (.dat 27 x1))],0⟩
noncomputable def s7_0 (x0 x1 x2:Dt):St:=⟨tsOf [(2,(.ptr 0 [] 0)),(5,(.ptr 1 [] 0)),(6,(.ptr 2 [] 0))],[(.box 27 (.dat 27 x0)),(.box 45 (.dat 45 x1)),(.box 27 (.dat 27 x2))],0⟩
theorem notation_Parse_j1_eq m x0 x1:e7 jn m w7_0 [] (s7_1 x0 x1)=notation_Parse_j1 m x0 x1:=
 tre (g:=fun J=>some (x1,0,0)) (fun J=>by kernel_rfl) (by rfl)
theorem notation_Parse_j0_eq m x0 x1 x2:e7 jn m w7_1 [] (s7_0 x0 x1 x2)=notation_Parse_j0 m x0 x1 x2:=
 tre (g:=fun J=>(bif ((Dt.I x1 3) !=0) then
  some (kza2373,(Dt.I x1 4),(Dt.I x1 3))
   else
  (jj J 0 10 0 (s7_1 x0 x2) (e7 J m w7_0 [])))) (fun J=>by kernel_rfl) (by simp only[jj_eq,notation_Parse_j1_eq m];rfl)
theorem notation_Parse_eq m a0:e7 jn m [] [] ⟨[(.dat 9 (.str a0))],[],0⟩=notation_Parse (m+1) a0:=
 tre (g:=fun J=>((i23 m (Dt.agg [(Dt.str a0),(Dt.int 0),(Dt.int 0),(Dt.int 0),(Dt.int 0)])).bind fun r0=>
  ((i25 m 1 false r0).bind fun r1=>
  (bif r1.2.1 then
  ((i23 m r1.2.2).bind fun r2=>
  (bif (decide ((Dt.I r2 1)<(ByteArray.size a0:Int))) then
  ((i27 m 4 (Dt.I r2 1) r2).bind fun r3=>
  (jj J 0 8 0 (s7_0 kza2373 r3.2 r1.1) (e7 J m w7_1 [])))
  else
  (jj J 0 8 0 (s7_0 kza2373 r2 r1.1) (e7 J m w7_1 []))))
  else
  (jj J 0 8 0 (s7_0 kza2373 r1.2.2 r1.1) (e7 J m w7_1 [])))))) (fun J=>by kernel_rfl) (by simp only[jj_eq,notation_Parse_j0_eq m];rfl)
def w45_0:List Nat:=[1,1,0,1,0]
def w45_7:List Nat:=[1,1,1,0,1]
def w45_3:List Nat:=[1,1,1,0,1,0]
def w45_2:List Nat:=[1,1,0,1,0,0,1]
def w45_1:List Nat:=w45_2++[1]
def w45_6:List Nat:=w45_3++[0,1]
def w45_4:List Nat:=w45_6++[1]
def w45_5:List Nat:=w45_6++[0,0,1]
noncomputable def e45 (J:Nat→Nat→Nat→St→Option Bool→Option Bool) (m:Nat) (p ms:List Nat) (σ:St):=evAt Tryd.prog env (ct m) J (m+1) 27 99 Tryd.f27 d3 p ms σ
noncomputable def l45 (J:Nat→Nat→Nat→St→Option Bool→Option Bool) (m:Nat) (p ms:List Nat) (M:Nat) (σ:St):=loopAt Tryd.prog env (ct m) J (m+1) 27 99 Tryd.f27 d3 p ms M σ
noncomputable def s45_5 (x0:Int) (x1 x2:Dt):St:=⟨tsOf [(2,(.ptr 0 [] 0)),(3,(.ptr 1 [] 0)),(5,(.dat 3 (.int x0)))],[(.box 27 (.dat 27 x1)),(.box 27 (.dat 27 x2))],0⟩
noncomputable def s45_11 (x0:Int) (x1 x2:Dt):St:=⟨tsOf [(2,(.ptr 0 [] 0)),(3,(.ptr 1 [] 0)),(6,(.dat 3 (.int x0)))],[(.box 27 (.dat 27 x1)),(.box 27 (.dat 27 x2))],0⟩
noncomputable def s45_10 (x0:Int) (x1:Bool) (x2 x3:Dt):St:=⟨tsOf [(2,(.ptr 0 [] 0)),(3,(.ptr 1 [] 0)),(6,(.dat 3 (.int x0))),(98,(.dat 4 (.bool x1)))],[(.box 27 (.dat 27 x2)),(.box 27 (.dat 27 x3))],0⟩
noncomputable def s45_12:St:=⟨tsOf [],[],0⟩
noncomputable def s45_6 (x0 x1:Dt):St:=⟨tsOf [(2,(.ptr 0 [] 0)),(3,(.ptr 1 [] 0))],[(.box 27 (.dat 27 x0)),(.box 27 (.dat 27 x1))],0⟩
noncomputable def s45_0 (x0:Bool) (x1 x2:Dt):St:=⟨tsOf [(2,(.ptr 0 [] 0)),(3,(.ptr 1 [] 0)),(43,(.dat 4 (.bool x0)))],[(.box 27 (.dat 27 x1)),(.box 27 (.dat 27 x2))],0⟩
abbrev H45_3 (m M3:Nat) (rec3:Int→Dt→Dt→Option Bool):Prop:=∀x0 x1 x2,l45 jn m w45_0 [] M3 (s45_5 x0 x1 x2)=rec3 x0 x1 x2
theorem ref02_Same_j5_eq m M3 rec3 (h3:H45_3 m M3 rec3) x0 x1 x2:e45 jn m w45_1 [M3] (s45_5 x0 x1 x2)=ref02_Same_j5 m (ref02_Same m) rec3 x0 x1 x2:=
 tre (g:=fun J=>(jj J 1 4 M3 (s45_5 (IntKind.wrap .i64 (x0+1)) x1 x2) (l45 J m w45_0 [] M3))) (fun J=>by kernel_rfl) (by simp only[jj_eq,h3];rfl)
theorem ref02_Same_j4_eq m M3 rec3 (h3:H45_3 m M3 rec3) x0 x1 x2:e45 jn m w45_2 [M3] (s45_5 x0 x1 x2)=ref02_Same_j4 m (ref02_Same m) rec3 x0 x1 x2:=
 tre (g:=fun J=>((idx (Dt.L x1 3) x0).bind fun v0=>
  ((idx (Dt.L x2 3) x0).bind fun v1=>
  ((ref02_Same m v0 v1).bind fun r2=>
  (bif (Bool.not r2) then
  some false
  else
  (jj J 0 5 0 (s45_5 x0 x1 x2) (e45 J m w45_1 [M3]))))))) (fun J=>by kernel_rfl) (by simp only[jj_eq,ref02_Same_j5_eq m M3 rec3 h3];rfl)
abbrev H45_8 (m M8:Nat) (rec8:Int→Dt→Dt→Option Bool):Prop:=∀x0 x1 x2,l45 jn m w45_3 [] M8 (s45_11 x0 x1 x2)=rec8 x0 x1 x2
theorem ref02_Same_j11_eq m M8 rec8 (h8:H45_8 m M8 rec8) x0 x1 x2:e45 jn m w45_4 [M8] (s45_11 x0 x1 x2)=ref02_Same_j11 m (ref02_Same m) rec8 x0 x1 x2:=
 tre (g:=fun J=>(jj J 1 9 M8 (s45_11 (IntKind.wrap .i64 (x0+1)) x1 x2) (l45 J m w45_3 [] M8))) (fun J=>by kernel_rfl) (by simp only[jj_eq,h8];rfl)
theorem ref02_Same_j10_eq m M8 rec8 (h8:H45_8 m M8 rec8) x0 x1 x2 x3:e45 jn m w45_5 [M8] (s45_10 x0 x1 x2 x3)=ref02_Same_j10 m (ref02_Same m) rec8 x0 x1 x2 x3:=
 tre (g:=fun J=>(bif x1 then
  some false
   else
  (jj J 0 10 0 (s45_11 x0 x2 x3) (e45 J m w45_4 [M8])))) (fun J=>by kernel_rfl) (by simp only[jj_eq,ref02_Same_j11_eq m M8 rec8 h8];rfl)
theorem ref02_Same_j9_eq m M8 rec8 (h8:H45_8 m M8 rec8) x0 x1 x2:e45 jn m w45_6 [M8] (s45_11 x0 x1 x2)=ref02_Same_j9 m (ref02_Same m) rec8 x0 x1 x2:=
 tre (g:=fun J=>((idx (Dt.L x1 4) x0).bind fun v3=>
  ((idx (Dt.L x2 4) x0).bind fun v4=>
  (bif (Bool.not ((ByteArray.toList (Dt.S v3 0))==(ByteArray.toList (Dt.S v4 0)))) then
  (jj J 0 12 0 (s45_10 x0 true x1 x2) (e45 J m w45_5 [M8]))
  else
  ((idx (Dt.L x1 4) x0).bind fun v5=>
  ((idx (Dt.L x2 4) x0).bind fun v6=>
  ((ref02_Same m (Dt.fld v5 1) (Dt.fld v6 1)).bind fun r7=>
  (jj J 0 12 0 (s45_10 x0 (Bool.not r7) x1 x2) (e45 J m w45_5 [M8]))))))))) (fun J=>by kernel_rfl) (by simp only[jj_eq,ref02_Same_j10_eq m M8 rec8 h8];rfl)
theorem ref02_Same_j12_eq m:e45 jn m [1,1,1,1] [] s45_12=ref02_Same_j12 m (ref02_Same m):=
 tre (g:=fun J=>some true) (fun J=>by kernel_rfl) (by rfl)
theorem ref02_Same_l8_eq m:∀M8 x0 x1 x2,l45 jn m w45_3 [] M8 (s45_11 x0 x1 x2)=ref02_Same_l8 m (ref02_Same m) M8 x0 x1 x2
 |0,_,_,_=>rfl
 | M8+1,x0,x1,x2=>
   trl (g:=fun J=>(bif (decide (x0<(List.length (Dt.L x1 4):Int))) then
  (jj J 0 11 0 (s45_11 x0 x1 x2) (e45 J m w45_6 [M8]))
   else
  (jj J 0 13 0 s45_12 (e45 J m [1,1,1,1] [])))) (fun J=>by kernel_rfl) (by simp only[jj_eq,ref02_Same_j9_eq m M8 (ref02_Same_l8 m (ref02_Same m) M8) (ref02_Same_l8_eq m M8),ref02_Same_j12_eq m];rfl)
theorem ref02_Same_j7_eq m x0 x1 x2:e45 jn m w45_7 [] (s45_11 x0 x1 x2)=ref02_Same_j7 m (ref02_Same m) x0 x1 x2:=
 tre (g:=fun J=>(jj J 1 9 (Nat.succ m) (s45_11 x0 x1 x2) (l45 J m w45_3 [] (Nat.succ m)))) (fun J=>by kernel_rfl) (by simp only[jj_eq,ref02_Same_l8_eq m];rfl)
theorem ref02_Same_j6_eq m x0 x1:e45 jn m [1,1,1] [] (s45_6 x0 x1)=ref02_Same_j6 m (ref02_Same m) x0 x1:=
 tre (g:=fun J=>(jj J 0 9 0 (s45_11 0 x0 x1) (e45 J m w45_7 []))) (fun J=>by kernel_rfl) (by simp only[jj_eq,ref02_Same_j7_eq m];rfl)
theorem ref02_Same_l3_eq m:∀M3 x0 x1 x2,l45 jn m w45_0 [] M3 (s45_5 x0 x1 x2)=ref02_Same_l3 m (ref02_Same m) M3 x0 x1 x2
 |0,_,_,_=>rfl
 | M3+1,x0,x1,x2=>
   trl (g:=fun J=>(bif (decide (x0<(List.length (Dt.L x1 3):Int))) then
  (jj J 0 6 0 (s45_5 x0 x1 x2) (e45 J m w45_2 [M3]))
   else
  (jj J 0 8 0 (s45_6 x1 x2) (e45 J m [1,1,1] [])))) (fun J=>by kernel_rfl) (by simp only[jj_eq,ref02_Same_j4_eq m M3 (ref02_Same_l3 m (ref02_Same m) M3) (ref02_Same_l3_eq m M3),ref02_Same_j6_eq m];rfl)
theorem ref02_Same_j2_eq m x0 x1 x2:e45 jn m [1,1,0,1] [] (s45_5 x0 x1 x2)=ref02_Same_j2 m (ref02_Same m) x0 x1 x2:=
 tre (g:=fun J=>(jj J 1 4 (Nat.succ m) (s45_5 x0 x1 x2) (l45 J m w45_0 [] (Nat.succ m)))) (fun J=>by kernel_rfl) (by simp only[jj_eq,ref02_Same_l3_eq m];rfl)
theorem ref02_Same_j1_eq m x0 x1:e45 jn m [1,1] [] (s45_6 x0 x1)=ref02_Same_j1 m (ref02_Same m) x0 x1:=
 tre (g:=fun J=>(jj J 0 4 0 (s45_5 0 x0 x1) (e45 J m [1,1,0,1] []))) (fun J=>by kernel_rfl) (by simp only[jj_eq,ref02_Same_j2_eq m];rfl)
theorem ref02_Same_j0_eq m x0 x1 x2:e45 jn m [1,0,1] [] (s45_0 x0 x1 x2)=ref02_Same_j0 m (ref02_Same m) x0 x1 x2:=
 tre (g:=fun J=>(bif x0 then
  some false
   else
  (jj J 0 3 0 (s45_6 x1 x2) (e45 J m [1,1] [])))) (fun J=>by kernel_rfl) (by simp only[jj_eq,ref02_Same_j1_eq m];rfl)
theorem ref02_Same_eq m a0 a1:e45 jn m [] [] ⟨[(.dat 27 a0),(.dat 27 a1)],[],0⟩=ref02_Same (m+1) a0 a1:=
 tre (g:=fun J=>(bif ((Dt.I a0 0) !=(Dt.I a1 0)) then
  (jj J 0 2 0 (s45_0 true a0 a1) (e45 J m [1,0,1] []))
   else
  (bif ((Dt.I a0 1) !=(Dt.I a1 1)) then
  (jj J 0 2 0 (s45_0 true a0 a1) (e45 J m [1,0,1] []))
  else
  (bif (Bool.not ((ByteArray.toList (Dt.S a0 2))==(ByteArray.toList (Dt.S a1 2)))) then
  (jj J 0 2 0 (s45_0 true a0 a1) (e45 J m [1,0,1] []))
  else
  (bif ((List.length (Dt.L a0 3):Int) !=(List.length (Dt.L a1 3):Int)) then
  (jj J 0 2 0 (s45_0 true a0 a1) (e45 J m [1,0,1] []))
  else
  (jj J 0 2 0 (s45_0 ((List.length (Dt.L a0 4):Int) !=(List.length (Dt.L a1 4):Int)) a0 a1) (e45 J m [1,0,1] []))))))) (fun J=>by kernel_rfl) (by simp only[jj_eq,ref02_Same_j0_eq m];rfl)
noncomputable def e8 (J:Nat→Nat→Nat→St→Option Bool→Option Bool) (m:Nat) (p ms:List Nat) (σ:St):=evAt Tryd.prog env (ct m) J (m+1) 15 8 Tryd.f15 d3 p ms σ
noncomputable def l8 (J:Nat→Nat→Nat→St→Option Bool→Option Bool) (m:Nat) (p ms:List Nat) (M:Nat) (σ:St):=loopAt Tryd.prog env (ct m) J (m+1) 15 8 Tryd.f15 d3 p ms M σ
theorem ref05_Same_eq m a0 a1:e8 jn m [] [] ⟨[(.dat 27 a0),(.dat 27 a1)],[],0⟩=ref05_Same (m+1) a0 a1:=
 tre (g:=fun J=>((ref02_Same m a0 a1).bind fun r0=>
  some r0)) (fun J=>by kernel_rfl) (by rfl)
def w47_4:List Nat:=[1,0,1,0,1,0,1,1]
def w47_5:List Nat:=[1,0,1,0,1,0,1,0,1]
def w47_0:List Nat:=w47_5++[0]
def w47_11:List Nat:=[1,0,1,0,1,1,1,0,1,1,1]
def w47_12:List Nat:=[1,0,1,0,1,1,1,0,1,1,0,1]
def w47_3:List Nat:=w47_0++[0,1,1]
def w47_6:List Nat:=w47_12++[0]
def w47_1:List Nat:=w47_3++[1]
def w47_10:List Nat:=w47_6++[0,1,1]
def w47_7:List Nat:=w47_10++[1]
def w47_2:List Nat:=w47_3++[0,0,1,1,1]
def w47_8:List Nat:=w47_10++[0,0,1,1,1]
def w47_9:List Nat:=w47_10++[0,0,1,1,0,1]
noncomputable def e47 (J:Nat→Nat→Nat→St→Option (Dt×Bool)→Option (Dt×Bool)) (m:Nat) (p ms:List Nat) (σ:St):=evAt Tryd.prog env (ct m) J (m+1) 41 102 Tryd.f41 d19 p ms σ
noncomputable def l47 (J:Nat→Nat→Nat→St→Option (Dt×Bool)→Option (Dt×Bool)) (m:Nat) (p ms:List Nat) (M:Nat) (σ:St):=loopAt Tryd.prog env (ct m) J (m+1) 41 102 Tryd.f41 d19 p ms M σ
noncomputable def s47_4 (x0:List Dt) (x1 x2:Int) (x3 x4:Dt) (x5:List Dt):St:=⟨tsOf [(1,(.ptr 0 [] 0)),(2,(.ptr 1 [] 0)),(4,(.row 2)),(24,(.dat 24 (.lst x0))),(25,(.dat 3 (.int x1))),(26,(.dat 3 (.int x2)))],[(.box 27 (.dat 27 x3)),(.box 27 (.dat 27 x4)),(.row 24 x5)],0⟩
noncomputable def s47_3 (x0:Int) (x1:List Dt) (x2 x3:Int) (x4 x5:Dt) (x6:List Dt) (x7:Dt):St:=⟨tsOf [(1,(.ptr 0 [] 0)),(2,(.ptr 1 [] 0)),(4,(.row 2)),(5,(.dat 3 (.int x0))),(7,(.ptr 3 [] 0)),(24,(.dat 24 (.lst x1))),(25,(.dat 3 (.int x2))),(26,(.dat 3 (.int x3)))],[(.box 27 (.dat 27 x4)),(.box 27 (.dat 27 x5)),(.row 24 x6),(.box 27 (.dat 27 x7))],0⟩
noncomputable def s47_6 (x0 x1:Dt):St:=⟨tsOf [(1,(.ptr 0 [] 0)),(2,(.ptr 1 [] 0))],[(.box 27 (.dat 27 x0)),(.box 27 (.dat 27 x1))],0⟩
noncomputable def s47_5 (x0 x1:Dt) (x2:List Dt):St:=⟨tsOf [(1,(.ptr 0 [] 0)),(2,(.ptr 1 [] 0)),(4,(.row 2))],[(.box 27 (.dat 27 x0)),(.box 27 (.dat 27 x1)),(.row 24 x2)],0⟩
noncomputable def s47_12 (x0:List Dt) (x1 x2:Int) (x3 x4:Dt) (x5 x6:List Dt):St:=⟨tsOf [(1,(.ptr 0 [] 0)),(2,(.ptr 1 [] 0)),(9,(.row 2)),(10,(.row 3)),(54,(.dat 25 (.lst x0))),(55,(.dat 3 (.int x1))),(56,(.dat 3 (.int x2)))],[(.box 27 (.dat 27 x3)),(.box 27 (.dat 27 x4)),(.row 25 x5),(.map 68 x6)],0⟩
noncomputable def s47_11 (x0:Int) (x1:List Dt) (x2 x3:Int) (x4 x5:Dt) (x6 x7:List Dt) (x8 x9:Dt):St:=⟨tsOf [(1,(.ptr 0 [] 0)),(2,(.ptr 1 [] 0)),(9,(.row 2)),(10,(.row 3)),(11,(.dat 3 (.int x0))),(12,(.ptr 4 [] 0)),(13,(.ptr 5 [] 0)),(54,(.dat 25 (.lst x1))),(55,(.dat 3 (.int x2))),(56,(.dat 3 (.int x3)))],[(.box 27 (.dat 27 x4)),(.box 27 (.dat 27 x5)),(.row 25 x6),(.map 68 x7),(.box 41 (.dat 41 x8)),(.box 27 (.dat 27 x9))],0⟩
noncomputable def s47_10 (x0:Int) (x1:List Dt) (x2 x3:Int) (x4:Bool) (x5 x6:Dt) (x7 x8:List Dt) (x9 x10:Dt):St:=⟨tsOf [(1,(.ptr 0 [] 0)),(2,(.ptr 1 [] 0)),(9,(.row 2)),(10,(.row 3)),(11,(.dat 3 (.int x0))),(12,(.ptr 4 [] 0)),(13,(.ptr 5 [] 0)),(54,(.dat 25 (.lst x1))),(55,(.dat 3 (.int x2))),(56,(.dat 3 (.int x3))),(86,(.dat 4 (.bool x4)))],[(.box 27 (.dat 27 x5)),(.box 27 (.dat 27 x6)),(.row 25 x7),(.map 68 x8),(.box 41 (.dat 41 x9)),(.box 27 (.dat 27 x10))],0⟩
noncomputable def s47_13 (x0 x1:Dt) (x2:List Dt):St:=⟨tsOf [(1,(.ptr 0 [] 0)),(2,(.ptr 1 [] 0)),(9,(.row 2))],[(.box 27 (.dat 27 x0)),(.box 27 (.dat 27 x1)),(.row 25 x2)],0⟩
abbrev H47_1 (m M1:Nat) (rec1:List Dt→Int→Int→Dt→Dt→List Dt→Option (Dt×Bool)):Prop:=∀x0 x1 x2 x3 x4 x5,l47 jn m w47_0 [] M1 (s47_4 x0 x1 x2 x3 x4 x5)=rec1 x0 x1 x2 x3 x4 x5
theorem notation_rename_j4_eq m M1 rec1 (h1:H47_1 m M1 rec1) x0 x1 x2 x3 x4 x5:e47 jn m w47_1 [M1] (s47_4 x0 x1 x2 x3 x4 x5)=notation_rename_j4 m (notation_rename m) rec1 x0 x1 x2 x3 x4 x5:=
 tre (g:=fun J=>(jj J 1 5 M1 (s47_4 x0 x1 (IntKind.wrap .i64 (x2+1)) x3 x4 x5) (l47 J m w47_0 [] M1))) (fun J=>by kernel_rfl) (by simp only[jj_eq,h1];rfl)
theorem notation_rename_j3_eq m M1 rec1 (h1:H47_1 m M1 rec1) x0 x1 x2 x3 x4 x5 x6 x7:e47 jn m w47_2 [M1] (s47_3 x0 x1 x2 x3 x4 x5 x6 x7)=notation_rename_j3 m (notation_rename m) rec1 x0 x1 x2 x3 x4 x5 x6 x7:=
 tre (g:=fun J=>((inL x6 x0).bind fun v3=>
  ((x6[(Int.toNat x0)]?).bind fun v4=>
  (jj J 0 11 0 (s47_4 x1 x2 x3 x4 x5 (List.set x6 (Int.toNat x0) x7)) (e47 J m w47_1 [M1]))))) (fun J=>by kernel_rfl) (by simp only[jj_eq,notation_rename_j4_eq m M1 rec1 h1];rfl)
theorem notation_rename_j2_eq m M1 rec1 (h1:H47_1 m M1 rec1) x0 x1 x2 x3 x4 x5:e47 jn m w47_3 [M1] (s47_4 x0 x1 x2 x3 x4 x5)=notation_rename_j2 m (notation_rename m) rec1 x0 x1 x2 x3 x4 x5:=
 tre (g:=fun J=>((idx x0 x2).bind fun v1=>
  ((notation_rename m v1).bind fun r2=>
  (bif (Bool.not r2.2) then
  some (kza2373,false)
  else
  (jj J 0 10 0 (s47_3 x2 x0 x1 x2 x3 x4 x5 r2.1) (e47 J m w47_2 [M1])))))) (fun J=>by kernel_rfl) (by simp only[jj_eq,notation_rename_j3_eq m M1 rec1 h1];rfl)
theorem notation_rename_j6_eq m x0 x1:e47 jn m [1,1] [] (s47_6 x0 x1)=notation_rename_j6 m (notation_rename m) x0 x1:=
 tre (g:=fun J=>some (x0,true)) (fun J=>by kernel_rfl) (by rfl)
theorem notation_rename_j5_eq m x0 x1 x2:e47 jn m w47_4 [] (s47_5 x0 x1 x2)=notation_rename_j5 m (notation_rename m) x0 x1 x2:=
 tre (g:=fun J=>(jj J 0 26 0 (s47_6 (Dt.agg [(Dt.int (Dt.I x0 0)),(Dt.int (Dt.I x0 1)),(Dt.str (Dt.S x0 2)),(Dt.lst x2),(Dt.lst (Dt.L x0 4))]) x1) (e47 J m [1,1] []))) (fun J=>by kernel_rfl) (by simp only[jj_eq,notation_rename_j6_eq m];rfl)
theorem notation_rename_l1_eq m:∀M1 x0 x1 x2 x3 x4 x5,l47 jn m w47_0 [] M1 (s47_4 x0 x1 x2 x3 x4 x5)=notation_rename_l1 m (notation_rename m) M1 x0 x1 x2 x3 x4 x5
 |0,_,_,_,_,_,_=>rfl
 | M1+1,x0,x1,x2,x3,x4,x5=>
   trl (g:=fun J=>(bif (decide (x2<x1)) then
  (jj J 0 6 0 (s47_4 x0 x1 x2 x3 x4 x5) (e47 J m w47_3 [M1]))
   else
  (jj J 0 12 0 (s47_5 x3 x4 x5) (e47 J m w47_4 [])))) (fun J=>by kernel_rfl) (by simp only[jj_eq,notation_rename_j2_eq m M1 (notation_rename_l1 m (notation_rename m) M1) (notation_rename_l1_eq m M1),notation_rename_j5_eq m];rfl)
theorem notation_rename_j0_eq m x0 x1 x2 x3 x4 x5:e47 jn m w47_5 [] (s47_4 x0 x1 x2 x3 x4 x5)=notation_rename_j0 m (notation_rename m) x0 x1 x2 x3 x4 x5:=
 tre (g:=fun J=>(jj J 1 5 (Nat.succ m) (s47_4 x0 x1 x2 x3 x4 x5) (l47 J m w47_0 [] (Nat.succ m)))) (fun J=>by kernel_rfl) (by simp only[jj_eq,notation_rename_l1_eq m];rfl)
abbrev H47_8 (m M8:Nat) (rec8:List Dt→Int→Int→Dt→Dt→List Dt→List Dt→Option (Dt×Bool)):Prop:=∀x0 x1 x2 x3 x4 x5 x6,l47 jn m w47_6 [] M8 (s47_12 x0 x1 x2 x3 x4 x5 x6)=rec8 x0 x1 x2 x3 x4 x5 x6
theorem notation_rename_j12_eq m M8 rec8 (h8:H47_8 m M8 rec8) x0 x1 x2 x3 x4 x5 x6:e47 jn m w47_7 [M8] (s47_12 x0 x1 x2 x3 x4 x5 x6)=notation_rename_j12 m (notation_rename m) rec8 x0 x1 x2 x3 x4 x5 x6:=
 tre (g:=fun J=>(jj J 1 17 M8 (s47_12 x0 x1 (IntKind.wrap .i64 (x2+1)) x3 x4 x5 x6) (l47 J m w47_6 [] M8))) (fun J=>by kernel_rfl) (by simp only[jj_eq,h8];rfl)
theorem notation_rename_j11_eq m M8 rec8 (h8:H47_8 m M8 rec8) x0 x1 x2 x3 x4 x5 x6 x7 x8 x9:e47 jn m w47_8 [M8] (s47_11 x0 x1 x2 x3 x4 x5 x6 x7 x8 x9)=notation_rename_j11 m (notation_rename m) rec8 x0 x1 x2 x3 x4 x5 x6 x7 x8 x9:=
 tre (g:=fun J=>((strconv_Itoa x0).bind fun r8=>
  ((inL x6 x0).bind fun v9=>
  ((x6[(Int.toNat x0)]?).bind fun v10=>
  (jj J 0 24 0 (s47_12 x1 x2 x3 x4 x5 (List.set x6 (Int.toNat x0) (Dt.agg [(Dt.str r8),x9])) (mput x7 (Dt.S x8 0) (Dt.bool true))) (e47 J m w47_7 [M8])))))) (fun J=>by kernel_rfl) (by simp only[jj_eq,notation_rename_j12_eq m M8 rec8 h8];rfl)
theorem notation_rename_j10_eq m M8 rec8 (h8:H47_8 m M8 rec8) x0 x1 x2 x3 x4 x5 x6 x7 x8 x9 x10:e47 jn m w47_9 [M8] (s47_10 x0 x1 x2 x3 x4 x5 x6 x7 x8 x9 x10)=notation_rename_j10 m (notation_rename m) rec8 x0 x1 x2 x3 x4 x5 x6 x7 x8 x9 x10:=
 tre (g:=fun J=>(bif x4 then
  some (kza2373,false)
   else
  (jj J 0 22 0 (s47_11 x0 x1 x2 x3 x5 x6 x7 x8 x9 x10) (e47 J m w47_8 [M8])))) (fun J=>by kernel_rfl) (by simp only[jj_eq,notation_rename_j11_eq m M8 rec8 h8];rfl)
theorem notation_rename_j9_eq m M8 rec8 (h8:H47_8 m M8 rec8) x0 x1 x2 x3 x4 x5 x6:e47 jn m w47_10 [M8] (s47_12 x0 x1 x2 x3 x4 x5 x6)=notation_rename_j9 m (notation_rename m) rec8 x0 x1 x2 x3 x4 x5 x6:=
 tre (g:=fun J=>((idx x0 x2).bind fun v6=>
  ((notation_rename m (Dt.fld v6 1)).bind fun r7=>
  (bif (Bool.not r7.2) then
  (jj J 0 21 0 (s47_10 x2 x0 x1 x2 true x3 x4 x5 x6 v6 r7.1) (e47 J m w47_9 [M8]))
  else
  (bif (decide (128<(ByteArray.size (Dt.S v6 0):Int))) then
  (jj J 0 21 0 (s47_10 x2 x0 x1 x2 true x3 x4 x5 x6 v6 r7.1) (e47 J m w47_9 [M8]))
  else
  ((notation_isField m (Dt.S v6 0)).bind fun r11=>
  (bif (Bool.not r11) then
  (jj J 0 21 0 (s47_10 x2 x0 x1 x2 true x3 x4 x5 x6 v6 r7.1) (e47 J m w47_9 [M8]))
  else
  (jj J 0 21 0 (s47_10 x2 x0 x1 x2 (Dt.toBool (mgetD x6 (Dt.S v6 0) (Dt.bool false))) x3 x4 x5 x6 v6 r7.1) (e47 J m w47_9 [M8]))))))))) (fun J=>by kernel_rfl) (by simp only[jj_eq,notation_rename_j10_eq m M8 rec8 h8];rfl)
theorem notation_rename_j13_eq m x0 x1 x2:e47 jn m w47_11 [] (s47_13 x0 x1 x2)=notation_rename_j13 m (notation_rename m) x0 x1 x2:=
 tre (g:=fun J=>(jj J 0 26 0 (s47_6 (Dt.agg [(Dt.int (Dt.I x0 0)),(Dt.int (Dt.I x0 1)),(Dt.str (Dt.S x0 2)),(Dt.lst (Dt.L x0 3)),(Dt.lst x2)]) x1) (e47 J m [1,1] []))) (fun J=>by kernel_rfl) (by simp only[jj_eq,notation_rename_j6_eq m];rfl)
theorem notation_rename_l8_eq m:∀M8 x0 x1 x2 x3 x4 x5 x6,l47 jn m w47_6 [] M8 (s47_12 x0 x1 x2 x3 x4 x5 x6)=notation_rename_l8 m (notation_rename m) M8 x0 x1 x2 x3 x4 x5 x6
 |0,_,_,_,_,_,_,_=>rfl
 | M8+1,x0,x1,x2,x3,x4,x5,x6=>
   trl (g:=fun J=>(bif (decide (x2<x1)) then
  (jj J 0 18 0 (s47_12 x0 x1 x2 x3 x4 x5 x6) (e47 J m w47_10 [M8]))
   else
  (jj J 0 25 0 (s47_13 x3 x4 x5) (e47 J m w47_11 [])))) (fun J=>by kernel_rfl) (by simp only[jj_eq,notation_rename_j9_eq m M8 (notation_rename_l8 m (notation_rename m) M8) (notation_rename_l8_eq m M8),notation_rename_j13_eq m];rfl)
theorem notation_rename_j7_eq m x0 x1 x2 x3 x4 x5 x6:e47 jn m w47_12 [] (s47_12 x0 x1 x2 x3 x4 x5 x6)=notation_rename_j7 m (notation_rename m) x0 x1 x2 x3 x4 x5 x6:=
 tre (g:=fun J=>(jj J 1 17 (Nat.succ m) (s47_12 x0 x1 x2 x3 x4 x5 x6) (l47 J m w47_6 [] (Nat.succ m)))) (fun J=>by kernel_rfl) (by simp only[jj_eq,notation_rename_l8_eq m];rfl)
theorem notation_rename_eq m a0:e47 jn m [] [] ⟨[(.dat 27 a0)],[],0⟩=notation_rename (m+1) a0:=
 tre (g:=fun J=>(bif ((Dt.I a0 0)==6) then
  ((mkL (List.length (Dt.L a0 3):Int) (List.length (Dt.L a0 3):Int) kza2373).bind fun v0=>
  (jj J 0 5 0 (s47_4 (Dt.L a0 3) (List.length (Dt.L a0 3):Int) 0 a0 kza2373 v0) (e47 J m w47_5 [])))
   else
  (bif ((Dt.I a0 0)==5) then
  ((mkL (List.length (Dt.L a0 4):Int) (List.length (Dt.L a0 4):Int) kzcda49).bind fun v5=>
  (jj J 0 17 0 (s47_12 (Dt.L a0 4) (List.length (Dt.L a0 4):Int) 0 a0 kza2373 v5 []) (e47 J m w47_12 [])))
  else
  (jj J 0 26 0 (s47_6 a0 kza2373) (e47 J m [1,1] []))))) (fun J=>by kernel_rfl) (by simp only[jj_eq,notation_rename_j0_eq m,notation_rename_j7_eq m,notation_rename_j6_eq m];rfl)
def w52_2:List Nat:=[1,0,1,0,0,1]
def w52_0:List Nat:=w52_2++[1]
def w52_1:List Nat:=w52_2++[0,0,1]
noncomputable def e52 (J:Nat→Nat→Nat→St→Option Bool→Option Bool) (m:Nat) (p ms:List Nat) (σ:St):=evAt Tryd.prog env (ct m) J (m+1) 48 28 Tryd.f48 d3 p ms σ
noncomputable def l52 (J:Nat→Nat→Nat→St→Option Bool→Option Bool) (m:Nat) (p ms:List Nat) (M:Nat) (σ:St):=loopAt Tryd.prog env (ct m) J (m+1) 48 28 Tryd.f48 d3 p ms M σ
noncomputable def s52_4 (x0:ByteArray) (x1:Int):St:=⟨tsOf [(0,(.dat 9 (.str x0))),(3,(.dat 3 (.int x1)))],[],0⟩
noncomputable def s52_3 (x0:ByteArray) (x1:Int) (x2:Bool):St:=⟨tsOf [(0,(.dat 9 (.str x0))),(3,(.dat 3 (.int x1))),(19,(.dat 4 (.bool x2)))],[],0⟩
noncomputable def s52_5 (x0:ByteArray):St:=⟨tsOf [(0,(.dat 9 (.str x0)))],[],0⟩
abbrev H52_1 (m M1:Nat) (rec1:ByteArray→Int→Option Bool):Prop:=∀x0 x1,l52 jn m [1,0,1,0] [] M1 (s52_4 x0 x1)=rec1 x0 x1
theorem ref05_Label_j4_eq m M1 rec1 (h1:H52_1 m M1 rec1) x0 x1:e52 jn m w52_0 [M1] (s52_4 x0 x1)=ref05_Label_j4 m rec1 x0 x1:=
 tre (g:=fun J=>(jj J 1 2 M1 (s52_4 x0 (IntKind.wrap .i64 (x1+1))) (l52 J m [1,0,1,0] [] M1))) (fun J=>by kernel_rfl) (by simp only[jj_eq,h1];rfl)
theorem ref05_Label_j3_eq m M1 rec1 (h1:H52_1 m M1 rec1) x0 x1 x2:e52 jn m w52_1 [M1] (s52_3 x0 x1 x2)=ref05_Label_j3 m rec1 x0 x1 x2:=
 tre (g:=fun J=>(bif x2 then
  some false
   else
  (jj J 0 3 0 (s52_4 x0 x1) (e52 J m w52_0 [M1])))) (fun J=>by kernel_rfl) (by simp only[jj_eq,ref05_Label_j4_eq m M1 rec1 h1];rfl)
theorem ref05_Label_j2_eq m M1 rec1 (h1:H52_1 m M1 rec1) x0 x1:e52 jn m w52_2 [M1] (s52_4 x0 x1)=ref05_Label_j2 m rec1 x0 x1:=
 tre (g:=fun J=>((idxS x0 x1).bind fun v0=>
  (bif (decide (v0<32)) then
  (jj J 0 5 0 (s52_3 x0 x1 true) (e52 J m w52_1 [M1]))
  else
  ((idxS x0 x1).bind fun v1=>
  (jj J 0 5 0 (s52_3 x0 x1 (decide (126<v1))) (e52 J m w52_1 [M1])))))) (fun J=>by kernel_rfl) (by simp only[jj_eq,ref05_Label_j3_eq m M1 rec1 h1];rfl)
theorem ref05_Label_j5_eq m x0:e52 jn m [1,1] [] (s52_5 x0)=ref05_Label_j5 m x0:=
 tre (g:=fun J=>(bif (decide (1≤(ByteArray.size x0:Int))) then
  some (decide ((ByteArray.size x0:Int)≤128))
   else
  some false)) (fun J=>by kernel_rfl) (by rfl)
theorem ref05_Label_l1_eq m:∀M1 x0 x1,l52 jn m [1,0,1,0] [] M1 (s52_4 x0 x1)=ref05_Label_l1 m M1 x0 x1
 |0,_,_=>rfl
 | M1+1,x0,x1=>
   trl (g:=fun J=>(bif (decide (x1<(ByteArray.size x0:Int))) then
  (jj J 0 4 0 (s52_4 x0 x1) (e52 J m w52_2 [M1]))
   else
  (jj J 0 6 0 (s52_5 x0) (e52 J m [1,1] [])))) (fun J=>by kernel_rfl) (by simp only[jj_eq,ref05_Label_j2_eq m M1 (ref05_Label_l1 m M1) (ref05_Label_l1_eq m M1),ref05_Label_j5_eq m];rfl)
theorem ref05_Label_j0_eq m x0 x1:e52 jn m [1,0,1] [] (s52_4 x0 x1)=ref05_Label_j0 m x0 x1:=
 tre (g:=fun J=>(jj J 1 2 (Nat.succ m) (s52_4 x0 x1) (l52 J m [1,0,1,0] [] (Nat.succ m)))) (fun J=>by kernel_rfl) (by simp only[jj_eq,ref05_Label_l1_eq m];rfl)
theorem ref05_Label_eq m a0:e52 jn m [] [] ⟨[(.dat 9 (.str a0))],[],0⟩=ref05_Label (m+1) a0:=
 tre (g:=fun J=>(jj J 0 2 0 (s52_4 a0 0) (e52 J m [1,0,1] []))) (fun J=>by kernel_rfl) (by simp only[jj_eq,ref05_Label_j0_eq m];rfl)
noncomputable def e54 (J:Nat→Nat→Nat→St→Option Int→Option Int) (m:Nat) (p ms:List Nat) (σ:St):=evAt Tryd.prog env (ct m) J (m+1) 59 14 Tryd.f59 d9 p ms σ
noncomputable def l54 (J:Nat→Nat→Nat→St→Option Int→Option Int) (m:Nat) (p ms:List Nat) (M:Nat) (σ:St):=loopAt Tryd.prog env (ct m) J (m+1) 59 14 Tryd.f59 d9 p ms M σ
noncomputable def s54_0 (x0:Dt) (x1 x2:Int):St:=⟨tsOf [(2,(.ptr 0 [] 0)),(3,(.ptr 1 [] 0)),(5,(.ptr 2 [] 0))],[(.box 27 (.dat 27 x0)),(.box 3 (.dat 3 (.int x1))),(.box 3 (.dat 3 (.int x2)))],0⟩
theorem value_nodes_j0_eq m x0 x1 x2:e54 jn m [1,1,1] [] (s54_0 x0 x1 x2)=value_nodes_j0 m (i60 m) x0 x1 x2:=
 tre (g:=fun J=>((i60 m x0 x2 x1).bind fun r0=>
  some r0.1)) (fun J=>by kernel_rfl) (by rfl)
theorem value_nodes_eq m a0 a1:e54 jn m [] [] ⟨[(.dat 27 a0),(.dat 3 (.int a1))],[],0⟩=value_nodes (m+1) a0 a1:=
 tre (g:=fun J=>(bif (1==a1) then
  some 1
   else
  (jj J 0 4 0 (s54_0 a0 a1 1) (e54 J m [1,1,1] [])))) (fun J=>by kernel_rfl) (by simp only[jj_eq,value_nodes_j0_eq m];rfl)
def w60_3:List Nat:=[1,1,0,1,0,1]
def w60_0:List Nat:=w60_3++[0]
def w60_7:List Nat:=[1,1,0,1,1,1,0,1]
def w60_4:List Nat:=w60_7++[0]
def w60_2:List Nat:=w60_0++[0,1,1]
def w60_1:List Nat:=w60_2++[1]
def w60_6:List Nat:=w60_4++[0,1,1]
def w60_5:List Nat:=w60_6++[1]
noncomputable def e60 (J:Nat→Nat→Nat→St→Option (Int×Int)→Option (Int×Int)) (m:Nat) (p ms:List Nat) (σ:St):=evAt Tryd.prog env (ct m) J (m+1) 72 39 Tryd.f72 d60 p ms σ
noncomputable def l60 (J:Nat→Nat→Nat→St→Option (Int×Int)→Option (Int×Int)) (m:Nat) (p ms:List Nat) (M:Nat) (σ:St):=loopAt Tryd.prog env (ct m) J (m+1) 72 39 Tryd.f72 d60 p ms M σ
noncomputable def s60_3 (x0:List Dt) (x1 x2 x3 x4:Int):St:=⟨tsOf [(1,(.fn 73 [(.ptr 0 [] 0),(.ptr 1 [] 0)])),(13,(.dat 24 (.lst x0))),(14,(.dat 3 (.int x1))),(15,(.dat 3 (.int x2)))],[(.box 3 (.dat 3 (.int x3))),(.box 3 (.dat 3 (.int x4)))],2⟩
noncomputable def s60_7 (x0:List Dt) (x1 x2 x3 x4:Int):St:=⟨tsOf [(1,(.fn 73 [(.ptr 0 [] 0),(.ptr 1 [] 0)])),(27,(.dat 25 (.lst x0))),(28,(.dat 3 (.int x1))),(29,(.dat 3 (.int x2)))],[(.box 3 (.dat 3 (.int x3))),(.box 3 (.dat 3 (.int x4)))],2⟩
abbrev H60_1 (m M1:Nat) (rec1:List Dt→Int→Int→Int→Int→Option (Int×Int)):Prop:=∀x0 x1 x2 x3 x4,l60 jn m w60_0 [] M1 (s60_3 x0 x1 x2 x3 x4)=rec1 x0 x1 x2 x3 x4
theorem i60_j3_eq m M1 rec1 (h1:H60_1 m M1 rec1) x0 x1 x2 x3 x4:e60 jn m w60_1 [M1] (s60_3 x0 x1 x2 x3 x4)=i60_j3 m (i61 m) rec1 x0 x1 x2 x3 x4:=
 tre (g:=fun J=>(jj J 1 4 M1 (s60_3 x0 x1 (IntKind.wrap .i64 (x2+1)) x3 x4) (l60 J m w60_0 [] M1))) (fun J=>by kernel_rfl) (by simp only[jj_eq,h1];rfl)
theorem i60_j2_eq m M1 rec1 (h1:H60_1 m M1 rec1) x0 x1 x2 x3 x4:e60 jn m w60_2 [M1] (s60_3 x0 x1 x2 x3 x4)=i60_j2 m (i61 m) rec1 x0 x1 x2 x3 x4:=
 tre (g:=fun J=>((idx x0 x2).bind fun v0=>
  ((i61 m v0 x3 x4).bind fun r1=>
  (bif (Bool.not r1.1) then
  some (r1.2.1,r1.2.2)
  else
  (jj J 0 7 0 (s60_3 x0 x1 x2 r1.2.1 r1.2.2) (e60 J m w60_1 [M1])))))) (fun J=>by kernel_rfl) (by simp only[jj_eq,i60_j3_eq m M1 rec1 h1];rfl)
theorem i60_l1_eq m:∀M1 x0 x1 x2 x3 x4,l60 jn m w60_0 [] M1 (s60_3 x0 x1 x2 x3 x4)=i60_l1 m (i61 m) M1 x0 x1 x2 x3 x4
 |0,_,_,_,_,_=>rfl
 | M1+1,x0,x1,x2,x3,x4=>
   trl (g:=fun J=>(bif (decide (x2<x1)) then
  (jj J 0 5 0 (s60_3 x0 x1 x2 x3 x4) (e60 J m w60_2 [M1]))
   else
  some (x3,x4))) (fun J=>by kernel_rfl) (by simp only[jj_eq,i60_j2_eq m M1 (i60_l1 m (i61 m) M1) (i60_l1_eq m M1)];rfl)
theorem i60_j0_eq m x0 x1 x2 x3 x4:e60 jn m w60_3 [] (s60_3 x0 x1 x2 x3 x4)=i60_j0 m (i61 m) x0 x1 x2 x3 x4:=
 tre (g:=fun J=>(jj J 1 4 (Nat.succ m) (s60_3 x0 x1 x2 x3 x4) (l60 J m w60_0 [] (Nat.succ m)))) (fun J=>by kernel_rfl) (by simp only[jj_eq,i60_l1_eq m];rfl)
abbrev H60_5 (m M5:Nat) (rec5:List Dt→Int→Int→Int→Int→Option (Int×Int)):Prop:=∀x0 x1 x2 x3 x4,l60 jn m w60_4 [] M5 (s60_7 x0 x1 x2 x3 x4)=rec5 x0 x1 x2 x3 x4
theorem i60_j7_eq m M5 rec5 (h5:H60_5 m M5 rec5) x0 x1 x2 x3 x4:e60 jn m w60_5 [M5] (s60_7 x0 x1 x2 x3 x4)=i60_j7 m (i61 m) rec5 x0 x1 x2 x3 x4:=
 tre (g:=fun J=>(jj J 1 10 M5 (s60_7 x0 x1 (IntKind.wrap .i64 (x2+1)) x3 x4) (l60 J m w60_4 [] M5))) (fun J=>by kernel_rfl) (by simp only[jj_eq,h5];rfl)
theorem i60_j6_eq m M5 rec5 (h5:H60_5 m M5 rec5) x0 x1 x2 x3 x4:e60 jn m w60_6 [M5] (s60_7 x0 x1 x2 x3 x4)=i60_j6 m (i61 m) rec5 x0 x1 x2 x3 x4:=
 tre (g:=fun J=>((idx x0 x2).bind fun v2=>
  ((i61 m (Dt.fld v2 1) x3 x4).bind fun r3=>
  (bif (Bool.not r3.1) then
  some (r3.2.1,r3.2.2)
  else
  (jj J 0 13 0 (s60_7 x0 x1 x2 r3.2.1 r3.2.2) (e60 J m w60_5 [M5])))))) (fun J=>by kernel_rfl) (by simp only[jj_eq,i60_j7_eq m M5 rec5 h5];rfl)
theorem i60_l5_eq m:∀M5 x0 x1 x2 x3 x4,l60 jn m w60_4 [] M5 (s60_7 x0 x1 x2 x3 x4)=i60_l5 m (i61 m) M5 x0 x1 x2 x3 x4
 |0,_,_,_,_,_=>rfl
 | M5+1,x0,x1,x2,x3,x4=>
   trl (g:=fun J=>(bif (decide (x2<x1)) then
  (jj J 0 11 0 (s60_7 x0 x1 x2 x3 x4) (e60 J m w60_6 [M5]))
   else
  some (x3,x4))) (fun J=>by kernel_rfl) (by simp only[jj_eq,i60_j6_eq m M5 (i60_l5 m (i61 m) M5) (i60_l5_eq m M5)];rfl)
theorem i60_j4_eq m x0 x1 x2 x3 x4:e60 jn m w60_7 [] (s60_7 x0 x1 x2 x3 x4)=i60_j4 m (i61 m) x0 x1 x2 x3 x4:=
 tre (g:=fun J=>(jj J 1 10 (Nat.succ m) (s60_7 x0 x1 x2 x3 x4) (l60 J m w60_4 [] (Nat.succ m)))) (fun J=>by kernel_rfl) (by simp only[jj_eq,i60_l5_eq m];rfl)
theorem i60_eq m a0 a1 a2:e60 jn m [] [] ⟨[(.dat 27 a0),(.fn 73 [(.ptr 0 [] 0),(.ptr 1 [] 0)])],[(.box 3 (.dat 3 (.int a1))),(.box 3 (.dat 3 (.int a2)))],2⟩=i60 (m+1) a0 a1 a2:=
 tre (g:=fun J=>(bif ((Dt.I a0 0)==6) then
  (jj J 0 4 0 (s60_3 (Dt.L a0 3) (List.length (Dt.L a0 3):Int) 0 a1 a2) (e60 J m w60_3 []))
   else
  (bif ((Dt.I a0 0)==5) then
  (jj J 0 10 0 (s60_7 (Dt.L a0 4) (List.length (Dt.L a0 4):Int) 0 a1 a2) (e60 J m w60_7 []))
  else
  some (a1,a2)))) (fun J=>by kernel_rfl) (by simp only[jj_eq,i60_j0_eq m,i60_j4_eq m];rfl)
noncomputable def e61 (J:Nat→Nat→Nat→St→Option (Bool×Int×Int)→Option (Bool×Int×Int)) (m:Nat) (p ms:List Nat) (σ:St):=evAt Tryd.prog env (ct m) J (m+1) 73 15 Tryd.f73 d61 p ms σ
noncomputable def l61 (J:Nat→Nat→Nat→St→Option (Bool×Int×Int)→Option (Bool×Int×Int)) (m:Nat) (p ms:List Nat) (M:Nat) (σ:St):=loopAt Tryd.prog env (ct m) J (m+1) 73 15 Tryd.f73 d61 p ms M σ
theorem i61_eq m a0 a1 a2:e61 jn m [] [] ⟨[(.dat 27 a0),(.ptr 0 [] 0),(.ptr 1 [] 0)],[(.box 3 (.dat 3 (.int a1))),(.box 3 (.dat 3 (.int a2)))],2⟩=i61 (m+1) a0 a1 a2:=
 tre (g:=fun J=>((value_nodes m a0 (IntKind.wrap .i64 (a2-a1))).bind fun r0=>
  some ((decide ((IntKind.wrap .i64 (a1+r0))<a2)),(IntKind.wrap .i64 (a1+r0)),a2))) (fun J=>by kernel_rfl) (by rfl)
noncomputable def e46 (J:Nat→Nat→Nat→St→Option Int→Option Int) (m:Nat) (p ms:List Nat) (σ:St):=evAt Tryd.prog env (ct m) J (m+1) 39 5 Tryd.f39 d9 p ms σ
noncomputable def l46 (J:Nat→Nat→Nat→St→Option Int→Option Int) (m:Nat) (p ms:List Nat) (M:Nat) (σ:St):=loopAt Tryd.prog env (ct m) J (m+1) 39 5 Tryd.f39 d9 p ms M σ
theorem value_Nodes_eq m a0:e46 jn m [] [] ⟨[(.dat 27 a0)],[],0⟩=value_Nodes (m+1) a0:=
 tre (g:=fun J=>((value_nodes m a0 1025).bind fun r0=>
  some r0)) (fun J=>by kernel_rfl) (by rfl)
noncomputable def e57 (J:Nat→Nat→Nat→St→Option Int→Option Int) (m:Nat) (p ms:List Nat) (σ:St):=evAt Tryd.prog env (ct m) J (m+1) 60 13 Tryd.f60 d9 p ms σ
noncomputable def l57 (J:Nat→Nat→Nat→St→Option Int→Option Int) (m:Nat) (p ms:List Nat) (M:Nat) (σ:St):=loopAt Tryd.prog env (ct m) J (m+1) 60 13 Tryd.f60 d9 p ms M σ
noncomputable def s57_0 (x0:Dt) (x1:Int):St:=⟨tsOf [(2,(.ptr 0 [] 0)),(3,(.ptr 1 [] 0))],[(.box 27 (.dat 27 x0)),(.box 3 (.dat 3 (.int x1)))],0⟩
theorem value_depth_j0_eq m x0 x1:e57 jn m [1,1] [] (s57_0 x0 x1)=value_depth_j0 m (i63 m) x0 x1:=
 tre (g:=fun J=>((i63 m x0 0 x1).bind fun r0=>
  some (IntKind.wrap .i64 (1+r0.1)))) (fun J=>by kernel_rfl) (by rfl)
theorem value_depth_eq m a0 a1:e57 jn m [] [] ⟨[(.dat 27 a0),(.dat 3 (.int a1))],[],0⟩=value_depth (m+1) a0 a1:=
 tre (g:=fun J=>(bif (a1==1) then
  some 1
   else
  (jj J 0 3 0 (s57_0 a0 a1) (e57 J m [1,1] [])))) (fun J=>by kernel_rfl) (by simp only[jj_eq,value_depth_j0_eq m];rfl)
def w63_3:List Nat:=[1,1,0,1,0,1]
def w63_0:List Nat:=w63_3++[0]
def w63_7:List Nat:=[1,1,0,1,1,1,0,1]
def w63_4:List Nat:=w63_7++[0]
def w63_2:List Nat:=w63_0++[0,1,1]
def w63_1:List Nat:=w63_2++[1]
def w63_6:List Nat:=w63_4++[0,1,1]
def w63_5:List Nat:=w63_6++[1]
noncomputable def e63 (J:Nat→Nat→Nat→St→Option (Int×Int)→Option (Int×Int)) (m:Nat) (p ms:List Nat) (σ:St):=evAt Tryd.prog env (ct m) J (m+1) 72 39 Tryd.f72 d60 p ms σ
noncomputable def l63 (J:Nat→Nat→Nat→St→Option (Int×Int)→Option (Int×Int)) (m:Nat) (p ms:List Nat) (M:Nat) (σ:St):=loopAt Tryd.prog env (ct m) J (m+1) 72 39 Tryd.f72 d60 p ms M σ
noncomputable def s63_3 (x0:List Dt) (x1 x2 x3 x4:Int):St:=⟨tsOf [(1,(.fn 74 [(.ptr 0 [] 0),(.ptr 1 [] 0)])),(13,(.dat 24 (.lst x0))),(14,(.dat 3 (.int x1))),(15,(.dat 3 (.int x2)))],[(.box 3 (.dat 3 (.int x3))),(.box 3 (.dat 3 (.int x4)))],2⟩
noncomputable def s63_7 (x0:List Dt) (x1 x2 x3 x4:Int):St:=⟨tsOf [(1,(.fn 74 [(.ptr 0 [] 0),(.ptr 1 [] 0)])),(27,(.dat 25 (.lst x0))),(28,(.dat 3 (.int x1))),(29,(.dat 3 (.int x2)))],[(.box 3 (.dat 3 (.int x3))),(.box 3 (.dat 3 (.int x4)))],2⟩
abbrev H63_1 (m M1:Nat) (rec1:List Dt→Int→Int→Int→Int→Option (Int×Int)):Prop:=∀x0 x1 x2 x3 x4,l63 jn m w63_0 [] M1 (s63_3 x0 x1 x2 x3 x4)=rec1 x0 x1 x2 x3 x4
theorem i63_j3_eq m M1 rec1 (h1:H63_1 m M1 rec1) x0 x1 x2 x3 x4:e63 jn m w63_1 [M1] (s63_3 x0 x1 x2 x3 x4)=i63_j3 m (i64 m) rec1 x0 x1 x2 x3 x4:=
 tre (g:=fun J=>(jj J 1 4 M1 (s63_3 x0 x1 (IntKind.wrap .i64 (x2+1)) x3 x4) (l63 J m w63_0 [] M1))) (fun J=>by kernel_rfl) (by simp only[jj_eq,h1];rfl)
theorem i63_j2_eq m M1 rec1 (h1:H63_1 m M1 rec1) x0 x1 x2 x3 x4:e63 jn m w63_2 [M1] (s63_3 x0 x1 x2 x3 x4)=i63_j2 m (i64 m) rec1 x0 x1 x2 x3 x4:=
 tre (g:=fun J=>((idx x0 x2).bind fun v0=>
  ((i64 m v0 x3 x4).bind fun r1=>
  (bif (Bool.not r1.1) then
  some (r1.2.1,r1.2.2)
  else
  (jj J 0 7 0 (s63_3 x0 x1 x2 r1.2.1 r1.2.2) (e63 J m w63_1 [M1])))))) (fun J=>by kernel_rfl) (by simp only[jj_eq,i63_j3_eq m M1 rec1 h1];rfl)
theorem i63_l1_eq m:∀M1 x0 x1 x2 x3 x4,l63 jn m w63_0 [] M1 (s63_3 x0 x1 x2 x3 x4)=i63_l1 m (i64 m) M1 x0 x1 x2 x3 x4
 |0,_,_,_,_,_=>rfl
 | M1+1,x0,x1,x2,x3,x4=>
   trl (g:=fun J=>(bif (decide (x2<x1)) then
  (jj J 0 5 0 (s63_3 x0 x1 x2 x3 x4) (e63 J m w63_2 [M1]))
   else
  some (x3,x4))) (fun J=>by kernel_rfl) (by simp only[jj_eq,i63_j2_eq m M1 (i63_l1 m (i64 m) M1) (i63_l1_eq m M1)];rfl)
theorem i63_j0_eq m x0 x1 x2 x3 x4:e63 jn m w63_3 [] (s63_3 x0 x1 x2 x3 x4)=i63_j0 m (i64 m) x0 x1 x2 x3 x4:=
 tre (g:=fun J=>(jj J 1 4 (Nat.succ m) (s63_3 x0 x1 x2 x3 x4) (l63 J m w63_0 [] (Nat.succ m)))) (fun J=>by kernel_rfl) (by simp only[jj_eq,i63_l1_eq m];rfl)
abbrev H63_5 (m M5:Nat) (rec5:List Dt→Int→Int→Int→Int→Option (Int×Int)):Prop:=∀x0 x1 x2 x3 x4,l63 jn m w63_4 [] M5 (s63_7 x0 x1 x2 x3 x4)=rec5 x0 x1 x2 x3 x4
theorem i63_j7_eq m M5 rec5 (h5:H63_5 m M5 rec5) x0 x1 x2 x3 x4:e63 jn m w63_5 [M5] (s63_7 x0 x1 x2 x3 x4)=i63_j7 m (i64 m) rec5 x0 x1 x2 x3 x4:=
 tre (g:=fun J=>(jj J 1 10 M5 (s63_7 x0 x1 (IntKind.wrap .i64 (x2+1)) x3 x4) (l63 J m w63_4 [] M5))) (fun J=>by kernel_rfl) (by simp only[jj_eq,h5];rfl)
theorem i63_j6_eq m M5 rec5 (h5:H63_5 m M5 rec5) x0 x1 x2 x3 x4:e63 jn m w63_6 [M5] (s63_7 x0 x1 x2 x3 x4)=i63_j6 m (i64 m) rec5 x0 x1 x2 x3 x4:=
 tre (g:=fun J=>((idx x0 x2).bind fun v2=>
  ((i64 m (Dt.fld v2 1) x3 x4).bind fun r3=>
  (bif (Bool.not r3.1) then
  some (r3.2.1,r3.2.2)
  else
  (jj J 0 13 0 (s63_7 x0 x1 x2 r3.2.1 r3.2.2) (e63 J m w63_5 [M5])))))) (fun J=>by kernel_rfl) (by simp only[jj_eq,i63_j7_eq m M5 rec5 h5];rfl)
theorem i63_l5_eq m:∀M5 x0 x1 x2 x3 x4,l63 jn m w63_4 [] M5 (s63_7 x0 x1 x2 x3 x4)=i63_l5 m (i64 m) M5 x0 x1 x2 x3 x4
 |0,_,_,_,_,_=>rfl
 | M5+1,x0,x1,x2,x3,x4=>
   trl (g:=fun J=>(bif (decide (x2<x1)) then
  (jj J 0 11 0 (s63_7 x0 x1 x2 x3 x4) (e63 J m w63_6 [M5]))
   else
  some (x3,x4))) (fun J=>by kernel_rfl) (by simp only[jj_eq,i63_j6_eq m M5 (i63_l5 m (i64 m) M5) (i63_l5_eq m M5)];rfl)
theorem i63_j4_eq m x0 x1 x2 x3 x4:e63 jn m w63_7 [] (s63_7 x0 x1 x2 x3 x4)=i63_j4 m (i64 m) x0 x1 x2 x3 x4:=
 tre (g:=fun J=>(jj J 1 10 (Nat.succ m) (s63_7 x0 x1 x2 x3 x4) (l63 J m w63_4 [] (Nat.succ m)))) (fun J=>by kernel_rfl) (by simp only[jj_eq,i63_l5_eq m];rfl)
theorem i63_eq m a0 a1 a2:e63 jn m [] [] ⟨[(.dat 27 a0),(.fn 74 [(.ptr 0 [] 0),(.ptr 1 [] 0)])],[(.box 3 (.dat 3 (.int a1))),(.box 3 (.dat 3 (.int a2)))],2⟩=i63 (m+1) a0 a1 a2:=
 tre (g:=fun J=>(bif ((Dt.I a0 0)==6) then
  (jj J 0 4 0 (s63_3 (Dt.L a0 3) (List.length (Dt.L a0 3):Int) 0 a1 a2) (e63 J m w63_3 []))
   else
  (bif ((Dt.I a0 0)==5) then
  (jj J 0 10 0 (s63_7 (Dt.L a0 4) (List.length (Dt.L a0 4):Int) 0 a1 a2) (e63 J m w63_7 []))
  else
  some (a1,a2)))) (fun J=>by kernel_rfl) (by simp only[jj_eq,i63_j0_eq m,i63_j4_eq m];rfl)
noncomputable def e64 (J:Nat→Nat→Nat→St→Option (Bool×Int×Int)→Option (Bool×Int×Int)) (m:Nat) (p ms:List Nat) (σ:St):=evAt Tryd.prog env (ct m) J (m+1) 74 15 Tryd.f74 d61 p ms σ
noncomputable def l64 (J:Nat→Nat→Nat→St→Option (Bool×Int×Int)→Option (Bool×Int×Int)) (m:Nat) (p ms:List Nat) (M:Nat) (σ:St):=loopAt Tryd.prog env (ct m) J (m+1) 74 15 Tryd.f74 d61 p ms M σ
theorem i64_eq m a0 a1 a2:e64 jn m [] [] ⟨[(.dat 27 a0),(.ptr 0 [] 0),(.ptr 1 [] 0)],[(.box 3 (.dat 3 (.int a1))),(.box 3 (.dat 3 (.int a2)))],2⟩=i64 (m+1) a0 a1 a2:=
 tre (g:=fun J=>((value_depth m a0 (IntKind.wrap .i64 (a2-1))).bind fun r0=>
  some ((decide ((bif (decide (a1<r0)) then r0 else a1)<(IntKind.wrap .i64 (a2-1)))),(bif (decide (a1<r0)) then r0 else a1),a2))) (fun J=>by kernel_rfl) (by rfl)
noncomputable def e49 (J:Nat→Nat→Nat→St→Option Int→Option Int) (m:Nat) (p ms:List Nat) (σ:St):=evAt Tryd.prog env (ct m) J (m+1) 40 5 Tryd.f40 d9 p ms σ
noncomputable def l49 (J:Nat→Nat→Nat→St→Option Int→Option Int) (m:Nat) (p ms:List Nat) (M:Nat) (σ:St):=loopAt Tryd.prog env (ct m) J (m+1) 40 5 Tryd.f40 d9 p ms M σ
theorem value_Depth_eq m a0:e49 jn m [] [] ⟨[(.dat 27 a0)],[],0⟩=value_Depth (m+1) a0:=
 tre (g:=fun J=>((value_depth m a0 17).bind fun r0=>
  some r0)) (fun J=>by kernel_rfl) (by rfl)
def w58_7:List Nat:=[1,1,0,1,0,1]
def w58_0:List Nat:=w58_7++[0]
def w58_6:List Nat:=[1,1,1,0,1,0,1]
def w58_3:List Nat:=w58_6++[0]
def w58_2:List Nat:=w58_0++[0,1]
def w58_1:List Nat:=w58_2++[1]
def w58_5:List Nat:=w58_3++[0,1]
def w58_4:List Nat:=w58_5++[1]
noncomputable def e58 (J:Nat→Nat→Nat→St→Option (List Dt)→Option (List Dt)) (m:Nat) (p ms:List Nat) (σ:St):=evAt Tryd.prog env (ct m) J (m+1) 55 44 Tryd.f55 d58 p ms σ
noncomputable def l58 (J:Nat→Nat→Nat→St→Option (List Dt)→Option (List Dt)) (m:Nat) (p ms:List Nat) (M:Nat) (σ:St):=loopAt Tryd.prog env (ct m) J (m+1) 55 44 Tryd.f55 d58 p ms M σ
noncomputable def s58_3 (x0:Int) (x1:Dt) (x2:List Dt):St:=⟨tsOf [(1,(.ptr 0 [] 0)),(3,(.row 1)),(4,(.dat 3 (.int x0)))],[(.box 27 (.dat 27 x1)),(.row 24 x2)],0⟩
noncomputable def s58_8 (x0:Int) (x1:Dt) (x2:List Dt):St:=⟨tsOf [(1,(.ptr 0 [] 0)),(3,(.row 1)),(5,(.dat 3 (.int x0)))],[(.box 27 (.dat 27 x1)),(.row 24 x2)],0⟩
noncomputable def s58_9 (x0:List Dt):St:=⟨tsOf [(3,(.row 0))],[(.row 24 x0)],0⟩
noncomputable def s58_4 (x0:Dt) (x1:List Dt):St:=⟨tsOf [(1,(.ptr 0 [] 0)),(3,(.row 1))],[(.box 27 (.dat 27 x0)),(.row 24 x1)],0⟩
abbrev H58_1 (m M1:Nat) (rec1:Int→Dt→List Dt→Option (List Dt)):Prop:=∀x0 x1 x2,l58 jn m w58_0 [] M1 (s58_3 x0 x1 x2)=rec1 x0 x1 x2
theorem ref01_Parts_j3_eq m M1 rec1 (h1:H58_1 m M1 rec1) x0 x1 x2:e58 jn m w58_1 [M1] (s58_3 x0 x1 x2)=ref01_Parts_j3 m rec1 x0 x1 x2:=
 tre (g:=fun J=>(jj J 1 4 M1 (s58_3 (IntKind.wrap .i64 (x0+1)) x1 x2) (l58 J m w58_0 [] M1))) (fun J=>by kernel_rfl) (by simp only[jj_eq,h1];rfl)
theorem ref01_Parts_j2_eq m M1 rec1 (h1:H58_1 m M1 rec1) x0 x1 x2:e58 jn m w58_2 [M1] (s58_3 x0 x1 x2)=ref01_Parts_j2 m rec1 x0 x1 x2:=
 tre (g:=fun J=>((idx (Dt.L x1 3) x0).bind fun v0=>
  ((app x2 [v0]).bind fun v1=>
  (jj J 0 5 0 (s58_3 x0 x1 v1) (e58 J m w58_1 [M1]))))) (fun J=>by kernel_rfl) (by simp only[jj_eq,ref01_Parts_j3_eq m M1 rec1 h1];rfl)
abbrev H58_6 (m M6:Nat) (rec6:Int→Dt→List Dt→Option (List Dt)):Prop:=∀x0 x1 x2,l58 jn m w58_3 [] M6 (s58_8 x0 x1 x2)=rec6 x0 x1 x2
theorem ref01_Parts_j8_eq m M6 rec6 (h6:H58_6 m M6 rec6) x0 x1 x2:e58 jn m w58_4 [M6] (s58_8 x0 x1 x2)=ref01_Parts_j8 m rec6 x0 x1 x2:=
 tre (g:=fun J=>(jj J 1 9 M6 (s58_8 (IntKind.wrap .i64 (x0+1)) x1 x2) (l58 J m w58_3 [] M6))) (fun J=>by kernel_rfl) (by simp only[jj_eq,h6];rfl)
theorem ref01_Parts_j7_eq m M6 rec6 (h6:H58_6 m M6 rec6) x0 x1 x2:e58 jn m w58_5 [M6] (s58_8 x0 x1 x2)=ref01_Parts_j7 m rec6 x0 x1 x2:=
 tre (g:=fun J=>((idx (Dt.L x1 4) x0).bind fun v2=>
  ((app x2 [(Dt.fld v2 1)]).bind fun v3=>
  (jj J 0 10 0 (s58_8 x0 x1 v3) (e58 J m w58_4 [M6]))))) (fun J=>by kernel_rfl) (by simp only[jj_eq,ref01_Parts_j8_eq m M6 rec6 h6];rfl)
theorem ref01_Parts_j9_eq m x0:e58 jn m [1,1,1,1] [] (s58_9 x0)=ref01_Parts_j9 m x0:=
 tre (g:=fun J=>some x0) (fun J=>by kernel_rfl) (by rfl)
theorem ref01_Parts_l6_eq m:∀M6 x0 x1 x2,l58 jn m w58_3 [] M6 (s58_8 x0 x1 x2)=ref01_Parts_l6 m M6 x0 x1 x2
 |0,_,_,_=>rfl
 | M6+1,x0,x1,x2=>
   trl (g:=fun J=>(bif (decide (x0<(List.length (Dt.L x1 4):Int))) then
  (jj J 0 11 0 (s58_8 x0 x1 x2) (e58 J m w58_5 [M6]))
   else
  (jj J 0 12 0 (s58_9 x2) (e58 J m [1,1,1,1] [])))) (fun J=>by kernel_rfl) (by simp only[jj_eq,ref01_Parts_j7_eq m M6 (ref01_Parts_l6 m M6) (ref01_Parts_l6_eq m M6),ref01_Parts_j9_eq m];rfl)
theorem ref01_Parts_j5_eq m x0 x1 x2:e58 jn m w58_6 [] (s58_8 x0 x1 x2)=ref01_Parts_j5 m x0 x1 x2:=
 tre (g:=fun J=>(jj J 1 9 (Nat.succ m) (s58_8 x0 x1 x2) (l58 J m w58_3 [] (Nat.succ m)))) (fun J=>by kernel_rfl) (by simp only[jj_eq,ref01_Parts_l6_eq m];rfl)
theorem ref01_Parts_j4_eq m x0 x1:e58 jn m [1,1,1] [] (s58_4 x0 x1)=ref01_Parts_j4 m x0 x1:=
 tre (g:=fun J=>(bif ((Dt.I x0 0)==5) then
  (jj J 0 9 0 (s58_8 0 x0 x1) (e58 J m w58_6 []))
   else
  (jj J 0 12 0 (s58_9 x1) (e58 J m [1,1,1,1] [])))) (fun J=>by kernel_rfl) (by simp only[jj_eq,ref01_Parts_j5_eq m,ref01_Parts_j9_eq m];rfl)
theorem ref01_Parts_l1_eq m:∀M1 x0 x1 x2,l58 jn m w58_0 [] M1 (s58_3 x0 x1 x2)=ref01_Parts_l1 m M1 x0 x1 x2
 |0,_,_,_=>rfl
 | M1+1,x0,x1,x2=>
   trl (g:=fun J=>(bif (decide (x0<(List.length (Dt.L x1 3):Int))) then
  (jj J 0 6 0 (s58_3 x0 x1 x2) (e58 J m w58_2 [M1]))
   else
  (jj J 0 7 0 (s58_4 x1 x2) (e58 J m [1,1,1] [])))) (fun J=>by kernel_rfl) (by simp only[jj_eq,ref01_Parts_j2_eq m M1 (ref01_Parts_l1 m M1) (ref01_Parts_l1_eq m M1),ref01_Parts_j4_eq m];rfl)
theorem ref01_Parts_j0_eq m x0 x1 x2:e58 jn m w58_7 [] (s58_3 x0 x1 x2)=ref01_Parts_j0 m x0 x1 x2:=
 tre (g:=fun J=>(jj J 1 4 (Nat.succ m) (s58_3 x0 x1 x2) (l58 J m w58_0 [] (Nat.succ m)))) (fun J=>by kernel_rfl) (by simp only[jj_eq,ref01_Parts_l1_eq m];rfl)
theorem ref01_Parts_eq m a0:e58 jn m [] [] ⟨[(.dat 27 a0)],[],0⟩=ref01_Parts (m+1) a0:=
 tre (g:=fun J=>(bif ((Dt.I a0 0)==6) then
  (jj J 0 4 0 (s58_3 0 a0 []) (e58 J m w58_7 []))
   else
  (jj J 0 7 0 (s58_4 a0 []) (e58 J m [1,1,1] [])))) (fun J=>by kernel_rfl) (by simp only[jj_eq,ref01_Parts_j0_eq m,ref01_Parts_j4_eq m];rfl)
def w50_3:List Nat:=[1,1,1,1,1]
def w50_4:List Nat:=[1,1,1,1,0,1]
def w50_0:List Nat:=w50_4++[0]
def w50_2:List Nat:=w50_0++[0,1]
def w50_1:List Nat:=w50_2++[1]
noncomputable def e50 (J:Nat→Nat→Nat→St→Option Int→Option Int) (m:Nat) (p ms:List Nat) (σ:St):=evAt Tryd.prog env (ct m) J (m+1) 35 34 Tryd.f35 d9 p ms σ
noncomputable def l50 (J:Nat→Nat→Nat→St→Option Int→Option Int) (m:Nat) (p ms:List Nat) (M:Nat) (σ:St):=loopAt Tryd.prog env (ct m) J (m+1) 35 34 Tryd.f35 d9 p ms M σ
noncomputable def s50_5 (x0:Int) (x1:List Dt) (x2 x3:Int):St:=⟨tsOf [(1,(.dat 3 (.int x0))),(5,(.dat 24 (.lst x1))),(6,(.dat 3 (.int x2))),(7,(.dat 3 (.int x3)))],[],0⟩
noncomputable def s50_6 (x0:Int):St:=⟨tsOf [(6,(.dat 3 (.int x0)))],[],0⟩
noncomputable def s50_1 (x0:Int) (x1:List Dt):St:=⟨tsOf [(1,(.dat 3 (.int x0))),(5,(.dat 24 (.lst x1)))],[],0⟩
noncomputable def s50_0 (x0:Int) (x1:List Dt) (x2:Bool):St:=⟨tsOf [(1,(.dat 3 (.int x0))),(5,(.dat 24 (.lst x1))),(16,(.dat 4 (.bool x2)))],[],0⟩
abbrev H50_3 (m M3:Nat) (rec3:Int→List Dt→Int→Int→Option Int):Prop:=∀x0 x1 x2 x3,l50 jn m w50_0 [] M3 (s50_5 x0 x1 x2 x3)=rec3 x0 x1 x2 x3
theorem ref01_levels_j5_eq m M3 rec3 (h3:H50_3 m M3 rec3) x0 x1 x2 x3:e50 jn m w50_1 [M3] (s50_5 x0 x1 x2 x3)=ref01_levels_j5 m (ref01_levels m) rec3 x0 x1 x2 x3:=
 tre (g:=fun J=>(jj J 1 6 M3 (s50_5 x0 x1 x2 (IntKind.wrap .i64 (x3+1))) (l50 J m w50_0 [] M3))) (fun J=>by kernel_rfl) (by simp only[jj_eq,h3];rfl)
theorem ref01_levels_j4_eq m M3 rec3 (h3:H50_3 m M3 rec3) x0 x1 x2 x3:e50 jn m w50_2 [M3] (s50_5 x0 x1 x2 x3)=ref01_levels_j4 m (ref01_levels m) rec3 x0 x1 x2 x3:=
 tre (g:=fun J=>((idx x1 x3).bind fun v1=>
  ((ref01_levels m v1 (IntKind.wrap .i64 (x0-1))).bind fun r2=>
  (jj J 0 7 0 (s50_5 x0 x1 (bif (decide (x2<r2)) then r2 else x2) x3) (e50 J m w50_1 [M3]))))) (fun J=>by kernel_rfl) (by simp only[jj_eq,ref01_levels_j5_eq m M3 rec3 h3];rfl)
theorem ref01_levels_j6_eq m x0:e50 jn m w50_3 [] (s50_6 x0)=ref01_levels_j6 m (ref01_levels m) x0:=
 tre (g:=fun J=>some (IntKind.wrap .i64 (x0+1))) (fun J=>by kernel_rfl) (by rfl)
theorem ref01_levels_l3_eq m:∀M3 x0 x1 x2 x3,l50 jn m w50_0 [] M3 (s50_5 x0 x1 x2 x3)=ref01_levels_l3 m (ref01_levels m) M3 x0 x1 x2 x3
 |0,_,_,_,_=>rfl
 | M3+1,x0,x1,x2,x3=>
   trl (g:=fun J=>(bif (decide (x3<(List.length x1:Int))) then
  (jj J 0 8 0 (s50_5 x0 x1 x2 x3) (e50 J m w50_2 [M3]))
   else
  (jj J 0 9 0 (s50_6 x2) (e50 J m w50_3 [])))) (fun J=>by kernel_rfl) (by simp only[jj_eq,ref01_levels_j4_eq m M3 (ref01_levels_l3 m (ref01_levels m) M3) (ref01_levels_l3_eq m M3),ref01_levels_j6_eq m];rfl)
theorem ref01_levels_j2_eq m x0 x1 x2 x3:e50 jn m w50_4 [] (s50_5 x0 x1 x2 x3)=ref01_levels_j2 m (ref01_levels m) x0 x1 x2 x3:=
 tre (g:=fun J=>(jj J 1 6 (Nat.succ m) (s50_5 x0 x1 x2 x3) (l50 J m w50_0 [] (Nat.succ m)))) (fun J=>by kernel_rfl) (by simp only[jj_eq,ref01_levels_l3_eq m];rfl)
theorem ref01_levels_j1_eq m x0 x1:e50 jn m [1,1,1] [] (s50_1 x0 x1)=ref01_levels_j1 m (ref01_levels m) x0 x1:=
 tre (g:=fun J=>(jj J 0 6 0 (s50_5 x0 x1 0 0) (e50 J m w50_4 []))) (fun J=>by kernel_rfl) (by simp only[jj_eq,ref01_levels_j2_eq m];rfl)
theorem ref01_levels_j0_eq m x0 x1 x2:e50 jn m [1,1,0,1] [] (s50_0 x0 x1 x2)=ref01_levels_j0 m (ref01_levels m) x0 x1 x2:=
 tre (g:=fun J=>(bif x2 then
  some 1
   else
  (jj J 0 4 0 (s50_1 x0 x1) (e50 J m [1,1,1] [])))) (fun J=>by kernel_rfl) (by simp only[jj_eq,ref01_levels_j1_eq m];rfl)
theorem ref01_levels_eq m a0 a1:e50 jn m [] [] ⟨[(.dat 27 a0),(.dat 3 (.int a1))],[],0⟩=ref01_levels (m+1) a0 a1:=
 tre (g:=fun J=>((ref01_Parts m a0).bind fun r0=>
  (bif (decide (a1<2)) then
  (jj J 0 3 0 (s50_0 a1 r0 true) (e50 J m [1,1,0,1] []))
  else
  (jj J 0 3 0 (s50_0 a1 r0 ((List.length r0:Int)==0)) (e50 J m [1,1,0,1] []))))) (fun J=>by kernel_rfl) (by simp only[jj_eq,ref01_levels_j0_eq m];rfl)
noncomputable def e20 (J:Nat→Nat→Nat→St→Option Int→Option Int) (m:Nat) (p ms:List Nat) (σ:St):=evAt Tryd.prog env (ct m) J (m+1) 20 5 Tryd.f20 d9 p ms σ
noncomputable def l20 (J:Nat→Nat→Nat→St→Option Int→Option Int) (m:Nat) (p ms:List Nat) (M:Nat) (σ:St):=loopAt Tryd.prog env (ct m) J (m+1) 20 5 Tryd.f20 d9 p ms M σ
theorem ref01_Depth_eq m a0:e20 jn m [] [] ⟨[(.dat 27 a0)],[],0⟩=ref01_Depth (m+1) a0:=
 tre (g:=fun J=>((ref01_levels m a0 17).bind fun r0=>
  some r0)) (fun J=>by kernel_rfl) (by rfl)
def w51_3:List Nat:=[1,1,1,0,1]
def w51_0:List Nat:=[1,1,1,0,1,0]
def w51_2:List Nat:=w51_0++[0,1]
def w51_1:List Nat:=w51_2++[1]
noncomputable def e51 (J:Nat→Nat→Nat→St→Option Int→Option Int) (m:Nat) (p ms:List Nat) (σ:St):=evAt Tryd.prog env (ct m) J (m+1) 36 32 Tryd.f36 d9 p ms σ
noncomputable def l51 (J:Nat→Nat→Nat→St→Option Int→Option Int) (m:Nat) (p ms:List Nat) (M:Nat) (σ:St):=loopAt Tryd.prog env (ct m) J (m+1) 36 32 Tryd.f36 d9 p ms M σ
noncomputable def s51_3 (x0 x1:Int) (x2:List Dt) (x3:Int):St:=⟨tsOf [(1,(.dat 3 (.int x0))),(5,(.dat 3 (.int x1))),(6,(.dat 24 (.lst x2))),(7,(.dat 3 (.int x3)))],[],0⟩
noncomputable def s51_4 (x0:Int):St:=⟨tsOf [(5,(.dat 3 (.int x0)))],[],0⟩
abbrev H51_1 (m M1:Nat) (rec1:Int→Int→List Dt→Int→Option Int):Prop:=∀x0 x1 x2 x3,l51 jn m w51_0 [] M1 (s51_3 x0 x1 x2 x3)=rec1 x0 x1 x2 x3
theorem ref01_count_j3_eq m M1 rec1 (h1:H51_1 m M1 rec1) x0 x1 x2 x3:e51 jn m w51_1 [M1] (s51_3 x0 x1 x2 x3)=ref01_count_j3 m (ref01_count m) rec1 x0 x1 x2 x3:=
 tre (g:=fun J=>(jj J 1 4 M1 (s51_3 x0 x1 x2 (IntKind.wrap .i64 (x3+1))) (l51 J m w51_0 [] M1))) (fun J=>by kernel_rfl) (by simp only[jj_eq,h1];rfl)
theorem ref01_count_j2_eq m M1 rec1 (h1:H51_1 m M1 rec1) x0 x1 x2 x3:e51 jn m w51_2 [M1] (s51_3 x0 x1 x2 x3)=ref01_count_j2 m (ref01_count m) rec1 x0 x1 x2 x3:=
 tre (g:=fun J=>((idx x2 x3).bind fun v1=>
  ((ref01_count m v1 (IntKind.wrap .i64 (x0-x1))).bind fun r2=>
  (jj J 0 5 0 (s51_3 x0 (IntKind.wrap .i64 (x1+r2)) x2 x3) (e51 J m w51_1 [M1]))))) (fun J=>by kernel_rfl) (by simp only[jj_eq,ref01_count_j3_eq m M1 rec1 h1];rfl)
theorem ref01_count_j4_eq m x0:e51 jn m [1,1,1,1] [] (s51_4 x0)=ref01_count_j4 m (ref01_count m) x0:=
 tre (g:=fun J=>some x0) (fun J=>by kernel_rfl) (by rfl)
theorem ref01_count_l1_eq m:∀M1 x0 x1 x2 x3,l51 jn m w51_0 [] M1 (s51_3 x0 x1 x2 x3)=ref01_count_l1 m (ref01_count m) M1 x0 x1 x2 x3
 |0,_,_,_,_=>rfl
 | M1+1,x0,x1,x2,x3=>
   trl (g:=fun J=>(bif (decide (x3<(List.length x2:Int))) then
  (bif (decide (x1<x0)) then
  (jj J 0 6 0 (s51_3 x0 x1 x2 x3) (e51 J m w51_2 [M1]))
  else
  (jj J 0 7 0 (s51_4 x1) (e51 J m [1,1,1,1] [])))
   else
  (jj J 0 7 0 (s51_4 x1) (e51 J m [1,1,1,1] [])))) (fun J=>by kernel_rfl) (by simp only[jj_eq,ref01_count_j2_eq m M1 (ref01_count_l1 m (ref01_count m) M1) (ref01_count_l1_eq m M1),ref01_count_j4_eq m];rfl)
theorem ref01_count_j0_eq m x0 x1 x2 x3:e51 jn m w51_3 [] (s51_3 x0 x1 x2 x3)=ref01_count_j0 m (ref01_count m) x0 x1 x2 x3:=
 tre (g:=fun J=>(jj J 1 4 (Nat.succ m) (s51_3 x0 x1 x2 x3) (l51 J m w51_0 [] (Nat.succ m)))) (fun J=>by kernel_rfl) (by simp only[jj_eq,ref01_count_l1_eq m];rfl)
theorem ref01_count_eq m a0 a1:e51 jn m [] [] ⟨[(.dat 27 a0),(.dat 3 (.int a1))],[],0⟩=ref01_count (m+1) a0 a1:=
 tre (g:=fun J=>((ref01_Parts m a0).bind fun r0=>
  (jj J 0 4 0 (s51_3 a1 1 r0 0) (e51 J m w51_3 [])))) (fun J=>by kernel_rfl) (by simp only[jj_eq,ref01_count_j0_eq m];rfl)
noncomputable def e21 (J:Nat→Nat→Nat→St→Option Int→Option Int) (m:Nat) (p ms:List Nat) (σ:St):=evAt Tryd.prog env (ct m) J (m+1) 21 5 Tryd.f21 d9 p ms σ
noncomputable def l21 (J:Nat→Nat→Nat→St→Option Int→Option Int) (m:Nat) (p ms:List Nat) (M:Nat) (σ:St):=loopAt Tryd.prog env (ct m) J (m+1) 21 5 Tryd.f21 d9 p ms M σ
theorem ref01_Nodes_eq m a0:e21 jn m [] [] ⟨[(.dat 27 a0)],[],0⟩=ref01_Nodes (m+1) a0:=
 tre (g:=fun J=>((ref01_count m a0 1025).bind fun r0=>
  some r0)) (fun J=>by kernel_rfl) (by rfl)
def w67_0:List Nat:=[1,1,0,1,0]
def w67_3:List Nat:=[1,1,0,1,0,0,1,1]
def w67_1:List Nat:=w67_3++[1]
def w67_2:List Nat:=w67_3++[0,0,1,1]
noncomputable def e67 (J:Nat→Nat→Nat→St→Option Bool→Option Bool) (m:Nat) (p ms:List Nat) (σ:St):=evAt Tryd.prog env (ct m) J (m+1) 86 39 Tryd.f86 d3 p ms σ
noncomputable def l67 (J:Nat→Nat→Nat→St→Option Bool→Option Bool) (m:Nat) (p ms:List Nat) (M:Nat) (σ:St):=loopAt Tryd.prog env (ct m) J (m+1) 86 39 Tryd.f86 d3 p ms M σ
noncomputable def s67_6 (x0:ByteArray) (x1 x2:Int):St:=⟨tsOf [(0,(.dat 9 (.str x0))),(18,(.dat 3 (.int x1))),(19,(.dat 3 (.int x2)))],[],0⟩
noncomputable def s67_5 (x0:ByteArray) (x1 x2:Int) (x3:Bool):St:=⟨tsOf [(0,(.dat 9 (.str x0))),(18,(.dat 3 (.int x1))),(19,(.dat 3 (.int x2))),(37,(.dat 4 (.bool x3)))],[],0⟩
noncomputable def s67_7:St:=⟨tsOf [],[],0⟩
noncomputable def s67_1 (x0:ByteArray):St:=⟨tsOf [(0,(.dat 9 (.str x0)))],[],0⟩
noncomputable def s67_0 (x0:ByteArray) (x1:Bool):St:=⟨tsOf [(0,(.dat 9 (.str x0))),(16,(.dat 4 (.bool x1)))],[],0⟩
abbrev H67_3 (m M3:Nat) (rec3:ByteArray→Int→Int→Option Bool):Prop:=∀x0 x1 x2,l67 jn m w67_0 [] M3 (s67_6 x0 x1 x2)=rec3 x0 x1 x2
theorem value_isName_j6_eq m M3 rec3 (h3:H67_3 m M3 rec3) x0 x1 x2:e67 jn m w67_1 [M3] (s67_6 x0 x1 x2)=value_isName_j6 m rec3 x0 x1 x2:=
 tre (g:=fun J=>(jj J 1 4 M3 (s67_6 x0 x1 (IntKind.wrap .i64 (x2+1))) (l67 J m w67_0 [] M3))) (fun J=>by kernel_rfl) (by simp only[jj_eq,h3];rfl)
theorem value_isName_j5_eq m M3 rec3 (h3:H67_3 m M3 rec3) x0 x1 x2 x3:e67 jn m w67_2 [M3] (s67_5 x0 x1 x2 x3)=value_isName_j5 m rec3 x0 x1 x2 x3:=
 tre (g:=fun J=>(bif x3 then
  some false
   else
  (jj J 0 8 0 (s67_6 x0 x1 x2) (e67 J m w67_1 [M3])))) (fun J=>by kernel_rfl) (by simp only[jj_eq,value_isName_j6_eq m M3 rec3 h3];rfl)
theorem value_isName_j4_eq m M3 rec3 (h3:H67_3 m M3 rec3) x0 x1 x2:e67 jn m w67_3 [M3] (s67_6 x0 x1 x2)=value_isName_j4 m rec3 x0 x1 x2:=
 tre (g:=fun J=>((idxS x0 x2).bind fun v0=>
  (bif (decide (v0<33)) then
  (jj J 0 7 0 (s67_5 x0 x1 x2 true) (e67 J m w67_2 [M3]))
  else
  ((idxS x0 x2).bind fun v1=>
  (bif (decide (126<v1)) then
  (jj J 0 7 0 (s67_5 x0 x1 x2 true) (e67 J m w67_2 [M3]))
  else
  ((idxS x0 x2).bind fun v2=>
  (jj J 0 7 0 (s67_5 x0 x1 x2 (v2==46)) (e67 J m w67_2 [M3])))))))) (fun J=>by kernel_rfl) (by simp only[jj_eq,value_isName_j5_eq m M3 rec3 h3];rfl)
theorem value_isName_j7_eq m:e67 jn m [1,1,1] [] s67_7=value_isName_j7 m:=
 tre (g:=fun J=>some true) (fun J=>by kernel_rfl) (by rfl)
theorem value_isName_l3_eq m:∀M3 x0 x1 x2,l67 jn m w67_0 [] M3 (s67_6 x0 x1 x2)=value_isName_l3 m M3 x0 x1 x2
 |0,_,_,_=>rfl
 | M3+1,x0,x1,x2=>
   trl (g:=fun J=>(bif (decide (x2<x1)) then
  (jj J 0 5 0 (s67_6 x0 x1 x2) (e67 J m w67_3 [M3]))
   else
  (jj J 0 9 0 s67_7 (e67 J m [1,1,1] [])))) (fun J=>by kernel_rfl) (by simp only[jj_eq,value_isName_j4_eq m M3 (value_isName_l3 m M3) (value_isName_l3_eq m M3),value_isName_j7_eq m];rfl)
theorem value_isName_j2_eq m x0 x1 x2:e67 jn m [1,1,0,1] [] (s67_6 x0 x1 x2)=value_isName_j2 m x0 x1 x2:=
 tre (g:=fun J=>(jj J 1 4 (Nat.succ m) (s67_6 x0 x1 x2) (l67 J m w67_0 [] (Nat.succ m)))) (fun J=>by kernel_rfl) (by simp only[jj_eq,value_isName_l3_eq m];rfl)
theorem value_isName_j1_eq m x0:e67 jn m [1,1] [] (s67_1 x0)=value_isName_j1 m x0:=
 tre (g:=fun J=>(jj J 0 4 0 (s67_6 x0 (ByteArray.size x0:Int) 0) (e67 J m [1,1,0,1] []))) (fun J=>by kernel_rfl) (by simp only[jj_eq,value_isName_j2_eq m];rfl)
theorem value_isName_j0_eq m x0 x1:e67 jn m [1,0,1] [] (s67_0 x0 x1)=value_isName_j0 m x0 x1:=
 tre (g:=fun J=>(bif x1 then
  some false
   else
  (jj J 0 3 0 (s67_1 x0) (e67 J m [1,1] [])))) (fun J=>by kernel_rfl) (by simp only[jj_eq,value_isName_j1_eq m];rfl)
theorem value_isName_eq m a0:e67 jn m [] [] ⟨[(.dat 9 (.str a0))],[],0⟩=value_isName (m+1) a0:=
 tre (g:=fun J=>(bif (decide ((ByteArray.size a0:Int)<1)) then
  (jj J 0 2 0 (s67_0 a0 true) (e67 J m [1,0,1] []))
   else
  (bif (decide (32<(ByteArray.size a0:Int))) then
  (jj J 0 2 0 (s67_0 a0 true) (e67 J m [1,0,1] []))
  else
  ((idxS a0 0).bind fun v3=>
  (jj J 0 2 0 (s67_0 a0 (v3==36)) (e67 J m [1,0,1] [])))))) (fun J=>by kernel_rfl) (by simp only[jj_eq,value_isName_j0_eq m];rfl)
def w56_7:List Nat:=[1,1,1,1,1]
def w56_9:List Nat:=[1,1,1,0,1]
def w56_5:List Nat:=[1,1,1,1,1,1]
def w56_8:List Nat:=[1,1,1,1,0,1]
def w56_6:List Nat:=[1,1,1,1,1,0,1,0,1]
def w56_3:List Nat:=w56_6++[1,1,1,1,1,1,1,1,1,1,1,1,0,1]
def w56_4:List Nat:=w56_6++[1,1,1,1,1,1,1,1,1,1,1,1,0,0,1]
def w56_0:List Nat:=w56_4++[0]
def w56_2:List Nat:=w56_0++[0,1,1]
def w56_1:List Nat:=w56_2++[1]
noncomputable def e56 (J:Nat→Nat→Nat→St→Option Bool→Option Bool) (m:Nat) (p ms:List Nat) (σ:St):=evAt Tryd.prog env (ct m) J (m+1) 63 132 Tryd.f63 d3 p ms σ
noncomputable def l56 (J:Nat→Nat→Nat→St→Option Bool→Option Bool) (m:Nat) (p ms:List Nat) (M:Nat) (σ:St):=loopAt Tryd.prog env (ct m) J (m+1) 63 132 Tryd.f63 d3 p ms M σ
noncomputable def s56_10 (x0:List Dt) (x1 x2:Int):St:=⟨tsOf [(117,(.dat 24 (.lst x0))),(118,(.dat 3 (.int x1))),(119,(.dat 3 (.int x2)))],[],0⟩
noncomputable def s56_11:St:=⟨tsOf [],[],0⟩
noncomputable def s56_6 (x0:Int) (x1:Bool) (x2:Dt):St:=⟨tsOf [(1,(.ptr 0 [] 0)),(70,(.dat 3 (.int x0))),(71,(.dat 4 (.bool x1)))],[(.box 27 (.dat 27 x2))],0⟩
noncomputable def s56_5 (x0:Dt):St:=⟨tsOf [(1,(.ptr 0 [] 0))],[(.box 27 (.dat 27 x0))],0⟩
noncomputable def s56_4 (x0:Bool) (x1:Dt):St:=⟨tsOf [(1,(.ptr 0 [] 0)),(68,(.dat 4 (.bool x0)))],[(.box 27 (.dat 27 x1))],0⟩
noncomputable def s56_2 (x0:Bool) (x1:Dt):St:=⟨tsOf [(1,(.ptr 0 [] 0)),(48,(.dat 4 (.bool x0)))],[(.box 27 (.dat 27 x1))],0⟩
noncomputable def s56_1 (x0 x1:Bool) (x2:Dt):St:=⟨tsOf [(1,(.ptr 0 [] 0)),(3,(.dat 4 (.bool x0))),(4,(.dat 4 (.bool x1)))],[(.box 27 (.dat 27 x2))],0⟩
noncomputable def s56_0 (x0:Bool) (x1:Dt):St:=⟨tsOf [(1,(.ptr 0 [] 0)),(3,(.dat 4 (.bool x0)))],[(.box 27 (.dat 27 x1))],0⟩
abbrev H56_8 (m M8:Nat) (rec8:List Dt→Int→Int→Option Bool):Prop:=∀x0 x1 x2,l56 jn m w56_0 [] M8 (s56_10 x0 x1 x2)=rec8 x0 x1 x2
theorem value_sound_j10_eq m M8 rec8 (h8:H56_8 m M8 rec8) x0 x1 x2:e56 jn m w56_1 [M8] (s56_10 x0 x1 x2)=value_sound_j10 m (value_sound m) (value_soundFields m) rec8 x0 x1 x2:=
 tre (g:=fun J=>(jj J 1 25 M8 (s56_10 x0 x1 (IntKind.wrap .i64 (x2+1))) (l56 J m w56_0 [] M8))) (fun J=>by kernel_rfl) (by simp only[jj_eq,h8];rfl)
theorem value_sound_j9_eq m M8 rec8 (h8:H56_8 m M8 rec8) x0 x1 x2:e56 jn m w56_2 [M8] (s56_10 x0 x1 x2)=value_sound_j9 m (value_sound m) (value_soundFields m) rec8 x0 x1 x2:=
 tre (g:=fun J=>((idx x0 x2).bind fun v1=>
  ((value_sound m v1).bind fun r2=>
  (bif (Bool.not r2) then
  some false
  else
  (jj J 0 29 0 (s56_10 x0 x1 x2) (e56 J m w56_1 [M8])))))) (fun J=>by kernel_rfl) (by simp only[jj_eq,value_sound_j10_eq m M8 rec8 h8];rfl)
theorem value_sound_j11_eq m:e56 jn m w56_3 [] s56_11=value_sound_j11 m (value_sound m) (value_soundFields m):=
 tre (g:=fun J=>some true) (fun J=>by kernel_rfl) (by rfl)
theorem value_sound_l8_eq m:∀M8 x0 x1 x2,l56 jn m w56_0 [] M8 (s56_10 x0 x1 x2)=value_sound_l8 m (value_sound m) (value_soundFields m) M8 x0 x1 x2
 |0,_,_,_=>rfl
 | M8+1,x0,x1,x2=>
   trl (g:=fun J=>(bif (decide (x2<x1)) then
  (jj J 0 26 0 (s56_10 x0 x1 x2) (e56 J m w56_2 [M8]))
   else
  (jj J 0 30 0 s56_11 (e56 J m w56_3 [])))) (fun J=>by kernel_rfl) (by simp only[jj_eq,value_sound_j9_eq m M8 (value_sound_l8 m (value_sound m) (value_soundFields m) M8) (value_sound_l8_eq m M8),value_sound_j11_eq m];rfl)
theorem value_sound_j7_eq m x0 x1 x2:e56 jn m w56_4 [] (s56_10 x0 x1 x2)=value_sound_j7 m (value_sound m) (value_soundFields m) x0 x1 x2:=
 tre (g:=fun J=>(jj J 1 25 (Nat.succ m) (s56_10 x0 x1 x2) (l56 J m w56_0 [] (Nat.succ m)))) (fun J=>by kernel_rfl) (by simp only[jj_eq,value_sound_l8_eq m];rfl)
theorem value_sound_j12_eq m:e56 jn m w56_5 [] s56_11=value_sound_j12 m (value_sound m) (value_soundFields m):=
 tre (g:=fun J=>some false) (fun J=>by kernel_rfl) (by rfl)
theorem value_sound_j6_eq m x0 x1 x2:e56 jn m w56_6 [] (s56_6 x0 x1 x2)=value_sound_j6 m (value_sound m) (value_soundFields m) x0 x1 x2:=
 tre (g:=fun J=>(bif x1 then
  some true
   else
  (bif (x0==9) then
  (bif ((Dt.I x2 1)==0) then
  some true
  else
  some ((Dt.I x2 1)==1))
  else
  (bif (x0==10) then
  some (decide (0≤(Dt.I x2 1)))
  else
  (bif (x0==4) then
  (bif (decide ((ByteArray.size (Dt.S x2 2):Int)≤4096)) then
  ((utf8_ValidString (Dt.S x2 2)).bind fun r0=>
  some r0)
  else
  some false)
  else
  (bif (x0==7) then
  some (decide ((ByteArray.size (Dt.S x2 2):Int)≤4096))
  else
  (bif (x0==8) then
  some ((ByteArray.size (Dt.S x2 2):Int)==12)
  else
  (bif (x0==6) then
  (jj J 0 25 0 (s56_10 (Dt.L x2 3) (List.length (Dt.L x2 3):Int) 0) (e56 J m w56_4 []))
  else
  (bif (x0==5) then
  ((value_soundFields m (Dt.L x2 4)).bind fun r3=>
  some r3)
  else
  (jj J 0 33 0 s56_11 (e56 J m w56_5 []))))))))))) (fun J=>by kernel_rfl) (by simp only[jj_eq,value_sound_j7_eq m,value_sound_j12_eq m];rfl)
theorem value_sound_j5_eq m x0:e56 jn m w56_7 [] (s56_5 x0)=value_sound_j5 m (value_sound m) (value_soundFields m) x0:=
 tre (g:=fun J=>(bif ((Dt.I x0 0)==1) then
  (jj J 0 12 0 (s56_6 (Dt.I x0 0) ((Dt.I x0 0)==1) x0) (e56 J m w56_6 []))
   else
  (bif ((Dt.I x0 0)==2) then
  (jj J 0 12 0 (s56_6 (Dt.I x0 0) ((Dt.I x0 0)==2) x0) (e56 J m w56_6 []))
  else
  (bif ((Dt.I x0 0)==11) then
  (jj J 0 12 0 (s56_6 (Dt.I x0 0) ((Dt.I x0 0)==11) x0) (e56 J m w56_6 []))
  else
  (jj J 0 12 0 (s56_6 (Dt.I x0 0) ((Dt.I x0 0)==3) x0) (e56 J m w56_6 [])))))) (fun J=>by kernel_rfl) (by simp only[jj_eq,value_sound_j6_eq m];rfl)
theorem value_sound_j4_eq m x0 x1:e56 jn m w56_8 [] (s56_4 x0 x1)=value_sound_j4 m (value_sound m) (value_soundFields m) x0 x1:=
 tre (g:=fun J=>(bif x0 then
  some false
   else
  (jj J 0 7 0 (s56_5 x1) (e56 J m w56_7 [])))) (fun J=>by kernel_rfl) (by simp only[jj_eq,value_sound_j5_eq m];rfl)
theorem value_sound_j3_eq m x0:e56 jn m [1,1,1,1] [] (s56_5 x0)=value_sound_j3 m (value_sound m) (value_soundFields m) x0:=
 tre (g:=fun J=>(bif ((Dt.I x0 0) !=6) then
  (bif (decide (0<(List.length (Dt.L x0 3):Int))) then
  (jj J 0 6 0 (s56_4 true x0) (e56 J m w56_8 []))
  else
  (bif ((Dt.I x0 0) !=5) then
  (jj J 0 6 0 (s56_4 (decide (0<(List.length (Dt.L x0 4):Int))) x0) (e56 J m w56_8 []))
  else
  (jj J 0 6 0 (s56_4 false x0) (e56 J m w56_8 []))))
   else
  (bif ((Dt.I x0 0) !=5) then
  (jj J 0 6 0 (s56_4 (decide (0<(List.length (Dt.L x0 4):Int))) x0) (e56 J m w56_8 []))
  else
  (jj J 0 6 0 (s56_4 false x0) (e56 J m w56_8 []))))) (fun J=>by kernel_rfl) (by simp only[jj_eq,value_sound_j4_eq m];rfl)
theorem value_sound_j2_eq m x0 x1:e56 jn m w56_9 [] (s56_2 x0 x1)=value_sound_j2 m (value_sound m) (value_soundFields m) x0 x1:=
 tre (g:=fun J=>(bif x0 then
  some false
   else
  (jj J 0 5 0 (s56_5 x1) (e56 J m [1,1,1,1] [])))) (fun J=>by kernel_rfl) (by simp only[jj_eq,value_sound_j3_eq m];rfl)
theorem value_sound_j1_eq m x0 x1 x2:e56 jn m [1,1,1] [] (s56_1 x0 x1 x2)=value_sound_j1 m (value_sound m) (value_soundFields m) x0 x1 x2:=
 tre (g:=fun J=>(bif (Bool.not x0) then
  (bif ((Dt.I x2 1) !=0) then
  (jj J 0 4 0 (s56_2 true x2) (e56 J m w56_9 []))
  else
  (bif (Bool.not x1) then
  (jj J 0 4 0 (s56_2 (Bool.not ((ByteArray.toList (Dt.S x2 2))==[])) x2) (e56 J m w56_9 []))
  else
  (jj J 0 4 0 (s56_2 false x2) (e56 J m w56_9 []))))
   else
  (bif (Bool.not x1) then
  (jj J 0 4 0 (s56_2 (Bool.not ((ByteArray.toList (Dt.S x2 2))==[])) x2) (e56 J m w56_9 []))
  else
  (jj J 0 4 0 (s56_2 false x2) (e56 J m w56_9 []))))) (fun J=>by kernel_rfl) (by simp only[jj_eq,value_sound_j2_eq m];rfl)
theorem value_sound_j0_eq m x0 x1:e56 jn m [1,1] [] (s56_0 x0 x1)=value_sound_j0 m (value_sound m) (value_soundFields m) x0 x1:=
 tre (g:=fun J=>(bif ((Dt.I x1 0)==4) then
  (jj J 0 3 0 (s56_1 x0 true x1) (e56 J m [1,1,1] []))
   else
  (bif ((Dt.I x1 0)==7) then
  (jj J 0 3 0 (s56_1 x0 true x1) (e56 J m [1,1,1] []))
  else
  (jj J 0 3 0 (s56_1 x0 ((Dt.I x1 0)==8) x1) (e56 J m [1,1,1] []))))) (fun J=>by kernel_rfl) (by simp only[jj_eq,value_sound_j1_eq m];rfl)
theorem value_sound_eq m a0:e56 jn m [] [] ⟨[(.dat 27 a0)],[],0⟩=value_sound (m+1) a0:=
 tre (g:=fun J=>(bif ((Dt.I a0 0)==3) then
  (jj J 0 2 0 (s56_0 true a0) (e56 J m [1,1] []))
   else
  (bif ((Dt.I a0 0)==9) then
  (jj J 0 2 0 (s56_0 true a0) (e56 J m [1,1] []))
  else
  (jj J 0 2 0 (s56_0 ((Dt.I a0 0)==10) a0) (e56 J m [1,1] []))))) (fun J=>by kernel_rfl) (by simp only[jj_eq,value_sound_j0_eq m];rfl)
def w62_0:List Nat:=[1,1,0,1,0]
def w62_4:List Nat:=[1,1,0,1,0,0,1,1]
def w62_1:List Nat:=w62_4++[1]
def w62_2:List Nat:=w62_4++[0,0,1,1]
def w62_3:List Nat:=w62_4++[0,0,1,0,1]
noncomputable def e62 (J:Nat→Nat→Nat→St→Option Bool→Option Bool) (m:Nat) (p ms:List Nat) (σ:St):=evAt Tryd.prog env (ct m) J (m+1) 76 33 Tryd.f76 d3 p ms σ
noncomputable def l62 (J:Nat→Nat→Nat→St→Option Bool→Option Bool) (m:Nat) (p ms:List Nat) (M:Nat) (σ:St):=loopAt Tryd.prog env (ct m) J (m+1) 76 33 Tryd.f76 d3 p ms M σ
noncomputable def s62_5 (x0:List Dt) (x1 x2:Int) (x3:List Dt):St:=⟨tsOf [(3,(.row 0)),(7,(.dat 25 (.lst x0))),(8,(.dat 3 (.int x1))),(9,(.dat 3 (.int x2)))],[(.map 68 x3)],0⟩
noncomputable def s62_4 (x0:List Dt) (x1 x2:Int) (x3:List Dt) (x4:Dt):St:=⟨tsOf [(3,(.row 0)),(5,(.ptr 1 [] 0)),(7,(.dat 25 (.lst x0))),(8,(.dat 3 (.int x1))),(9,(.dat 3 (.int x2)))],[(.map 68 x3),(.box 41 (.dat 41 x4))],0⟩
noncomputable def s62_3 (x0:List Dt) (x1 x2:Int) (x3:Bool) (x4:List Dt) (x5:Dt):St:=⟨tsOf [(3,(.row 0)),(5,(.ptr 1 [] 0)),(7,(.dat 25 (.lst x0))),(8,(.dat 3 (.int x1))),(9,(.dat 3 (.int x2))),(28,(.dat 4 (.bool x3)))],[(.map 68 x4),(.box 41 (.dat 41 x5))],0⟩
noncomputable def s62_6:St:=⟨tsOf [],[],0⟩
abbrev H62_1 (m M1:Nat) (rec1:List Dt→Int→Int→List Dt→Option Bool):Prop:=∀x0 x1 x2 x3,l62 jn m w62_0 [] M1 (s62_5 x0 x1 x2 x3)=rec1 x0 x1 x2 x3
theorem value_soundFields_j5_eq m M1 rec1 (h1:H62_1 m M1 rec1) x0 x1 x2 x3:e62 jn m w62_1 [M1] (s62_5 x0 x1 x2 x3)=value_soundFields_j5 m (value_sound m) rec1 x0 x1 x2 x3:=
 tre (g:=fun J=>(jj J 1 3 M1 (s62_5 x0 x1 (IntKind.wrap .i64 (x2+1)) x3) (l62 J m w62_0 [] M1))) (fun J=>by kernel_rfl) (by simp only[jj_eq,h1];rfl)
theorem value_soundFields_j4_eq m M1 rec1 (h1:H62_1 m M1 rec1) x0 x1 x2 x3 x4:e62 jn m w62_2 [M1] (s62_4 x0 x1 x2 x3 x4)=value_soundFields_j4 m (value_sound m) rec1 x0 x1 x2 x3 x4:=
 tre (g:=fun J=>(jj J 0 8 0 (s62_5 x0 x1 x2 (mput x3 (Dt.S x4 0) (Dt.bool true))) (e62 J m w62_1 [M1]))) (fun J=>by kernel_rfl) (by simp only[jj_eq,value_soundFields_j5_eq m M1 rec1 h1];rfl)
theorem value_soundFields_j3_eq m M1 rec1 (h1:H62_1 m M1 rec1) x0 x1 x2 x3 x4 x5:e62 jn m w62_3 [M1] (s62_3 x0 x1 x2 x3 x4 x5)=value_soundFields_j3 m (value_sound m) rec1 x0 x1 x2 x3 x4 x5:=
 tre (g:=fun J=>(bif x3 then
  some false
   else
  (jj J 0 7 0 (s62_4 x0 x1 x2 x4 x5) (e62 J m w62_2 [M1])))) (fun J=>by kernel_rfl) (by simp only[jj_eq,value_soundFields_j4_eq m M1 rec1 h1];rfl)
theorem value_soundFields_j2_eq m M1 rec1 (h1:H62_1 m M1 rec1) x0 x1 x2 x3:e62 jn m w62_4 [M1] (s62_5 x0 x1 x2 x3)=value_soundFields_j2 m (value_sound m) rec1 x0 x1 x2 x3:=
 tre (g:=fun J=>((idx x0 x2).bind fun v0=>
  ((value_isName m (Dt.S v0 0)).bind fun r1=>
  (bif (Bool.not r1) then
  (jj J 0 6 0 (s62_3 x0 x1 x2 true x3 v0) (e62 J m w62_3 [M1]))
  else
  (bif (Dt.toBool (mgetD x3 (Dt.S v0 0) (Dt.bool false))) then
  (jj J 0 6 0 (s62_3 x0 x1 x2 true x3 v0) (e62 J m w62_3 [M1]))
  else
  ((value_sound m (Dt.fld v0 1)).bind fun r2=>
  (jj J 0 6 0 (s62_3 x0 x1 x2 (Bool.not r2) x3 v0) (e62 J m w62_3 [M1])))))))) (fun J=>by kernel_rfl) (by simp only[jj_eq,value_soundFields_j3_eq m M1 rec1 h1];rfl)
theorem value_soundFields_j6_eq m:e62 jn m [1,1,1] [] s62_6=value_soundFields_j6 m (value_sound m):=
 tre (g:=fun J=>some true) (fun J=>by kernel_rfl) (by rfl)
theorem value_soundFields_l1_eq m:∀M1 x0 x1 x2 x3,l62 jn m w62_0 [] M1 (s62_5 x0 x1 x2 x3)=value_soundFields_l1 m (value_sound m) M1 x0 x1 x2 x3
 |0,_,_,_,_=>rfl
 | M1+1,x0,x1,x2,x3=>
   trl (g:=fun J=>(bif (decide (x2<x1)) then
  (jj J 0 4 0 (s62_5 x0 x1 x2 x3) (e62 J m w62_4 [M1]))
   else
  (jj J 0 9 0 s62_6 (e62 J m [1,1,1] [])))) (fun J=>by kernel_rfl) (by simp only[jj_eq,value_soundFields_j2_eq m M1 (value_soundFields_l1 m (value_sound m) M1) (value_soundFields_l1_eq m M1),value_soundFields_j6_eq m];rfl)
theorem value_soundFields_j0_eq m x0 x1 x2 x3:e62 jn m [1,1,0,1] [] (s62_5 x0 x1 x2 x3)=value_soundFields_j0 m (value_sound m) x0 x1 x2 x3:=
 tre (g:=fun J=>(jj J 1 3 (Nat.succ m) (s62_5 x0 x1 x2 x3) (l62 J m w62_0 [] (Nat.succ m)))) (fun J=>by kernel_rfl) (by simp only[jj_eq,value_soundFields_l1_eq m];rfl)
theorem value_soundFields_eq m a0:e62 jn m [] [] ⟨[(.dat 25 (.lst a0))],[],0⟩=value_soundFields (m+1) a0:=
 tre (g:=fun J=>(jj J 0 3 0 (s62_5 a0 (List.length a0:Int) 0 []) (e62 J m [1,1,0,1] []))) (fun J=>by kernel_rfl) (by simp only[jj_eq,value_soundFields_j0_eq m];rfl)
noncomputable def e48 (J:Nat→Nat→Nat→St→Option Bool→Option Bool) (m:Nat) (p ms:List Nat) (σ:St):=evAt Tryd.prog env (ct m) J (m+1) 42 15 Tryd.f42 d3 p ms σ
noncomputable def l48 (J:Nat→Nat→Nat→St→Option Bool→Option Bool) (m:Nat) (p ms:List Nat) (M:Nat) (σ:St):=loopAt Tryd.prog env (ct m) J (m+1) 42 15 Tryd.f42 d3 p ms M σ
theorem value_Valid_eq m a0:e48 jn m [] [] ⟨[(.dat 27 a0)],[],0⟩=value_Valid (m+1) a0:=
 tre (g:=fun J=>((value_Nodes m a0).bind fun r0=>
  (bif (decide (r0≤1024)) then
  ((value_Depth m a0).bind fun r1=>
  (bif (decide (r1≤16)) then
  ((value_sound m a0).bind fun r2=>
  some r2)
  else
  some false))
  else
  some false))) (fun J=>by kernel_rfl) (by rfl)
noncomputable def e10 (J:Nat→Nat→Nat→St→Option Bool→Option Bool) (m:Nat) (p ms:List Nat) (σ:St):=evAt Tryd.prog env (ct m) J (m+1) 24 23 Tryd.f24 d3 p ms σ
noncomputable def l10 (J:Nat→Nat→Nat→St→Option Bool→Option Bool) (m:Nat) (p ms:List Nat) (M:Nat) (σ:St):=loopAt Tryd.prog env (ct m) J (m+1) 24 23 Tryd.f24 d3 p ms M σ
noncomputable def s10_1 (x0:Dt):St:=⟨tsOf [(1,(.ptr 0 [] 0))],[(.box 27 (.dat 27 x0))],0⟩
noncomputable def s10_0 (x0:Bool) (x1:Dt):St:=⟨tsOf [(1,(.ptr 0 [] 0)),(12,(.dat 4 (.bool x0)))],[(.box 27 (.dat 27 x1))],0⟩
theorem notation_wellFormed_j1_eq m x0:e10 jn m [1,1] [] (s10_1 x0)=notation_wellFormed_j1 m x0:=
 tre (g:=fun J=>((notation_rename m x0).bind fun r1=>
  (bif r1.2 then
  ((value_Valid m r1.1).bind fun r2=>
  some r2)
  else
  some false))) (fun J=>by kernel_rfl) (by rfl)
theorem notation_wellFormed_j0_eq m x0 x1:e10 jn m [1,0,1] [] (s10_0 x0 x1)=notation_wellFormed_j0 m x0 x1:=
 tre (g:=fun J=>(bif x0 then
  some false
   else
  (jj J 0 3 0 (s10_1 x1) (e10 J m [1,1] [])))) (fun J=>by kernel_rfl) (by simp only[jj_eq,notation_wellFormed_j1_eq m];rfl)
theorem notation_wellFormed_eq m a0:e10 jn m [] [] ⟨[(.dat 27 a0)],[],0⟩=notation_wellFormed (m+1) a0:=
 tre (g:=fun J=>((value_Nodes m a0).bind fun r0=>
  (bif (decide (1024<r0)) then
  (jj J 0 2 0 (s10_0 true a0) (e10 J m [1,0,1] []))
  else
  ((value_Depth m a0).bind fun r3=>
  (jj J 0 2 0 (s10_0 (decide (16<r3)) a0) (e10 J m [1,0,1] [])))))) (fun J=>by kernel_rfl) (by simp only[jj_eq,notation_wellFormed_j0_eq m];rfl)
noncomputable def e5 (J:Nat→Nat→Nat→St→Option (ByteArray×Int)→Option (ByteArray×Int)) (m:Nat) (p ms:List Nat) (σ:St):=evAt Tryd.prog env (ct m) J (m+1) 13 19 Tryd.f13 d5 p ms σ
noncomputable def l5 (J:Nat→Nat→Nat→St→Option (ByteArray×Int)→Option (ByteArray×Int)) (m:Nat) (p ms:List Nat) (M:Nat) (σ:St):=loopAt Tryd.prog env (ct m) J (m+1) 13 19 Tryd.f13 d5 p ms M σ
noncomputable def s5_1 (x0:List Dt):St:=⟨tsOf [(4,(.dat 42 (.lst x0)))],[],0⟩
noncomputable def s5_0 (x0:Dt):St:=⟨tsOf [(1,(.ptr 0 [] 0))],[(.box 27 (.dat 27 x0))],0⟩
theorem notation_Print_j1_eq m x0:e5 jn m [1,1,1,1] [] (s5_1 x0)=notation_Print_j1 m x0:=
 tre (g:=fun J=>((bif (Nat.ble (List.length x0) 137438953472) then(Option.some (strOfNums (List.map Dt.toInt x0))) else(Option.none)).bind fun v2=>
  some (v2,0))) (fun J=>by kernel_rfl) (by rfl)
theorem notation_Print_j0_eq m x0:e5 jn m [1,1] [] (s5_0 x0)=notation_Print_j0 m x0:=
 tre (g:=fun J=>((i11 m x0 []).bind fun r1=>
  (bif (r1.1 !=0) then
  some ((ByteArray.mk (List.toArray [])),r1.1)
  else
  (jj J 0 6 0 (s5_1 r1.2) (e5 J m [1,1,1,1] []))))) (fun J=>by kernel_rfl) (by simp only[jj_eq,notation_Print_j1_eq m];rfl)
theorem notation_Print_eq m a0:e5 jn m [] [] ⟨[(.dat 27 a0)],[],0⟩=notation_Print (m+1) a0:=
 tre (g:=fun J=>((notation_wellFormed m a0).bind fun r0=>
  (bif (Bool.not r0) then
  some ((ByteArray.mk (List.toArray [])),8)
  else
  (jj J 0 3 0 (s5_0 a0) (e5 J m [1,1] []))))) (fun J=>by kernel_rfl) (by simp only[jj_eq,notation_Print_j0_eq m];rfl)
def w2_0:List Nat:=[1,1,1,0,1]
noncomputable def e2 (J:Nat→Nat→Nat→St→Option Bool→Option Bool) (m:Nat) (p ms:List Nat) (σ:St):=evAt Tryd.prog env (ct m) J (m+1) 6 66 Tryd.f6 d3 p ms σ
noncomputable def l2 (J:Nat→Nat→Nat→St→Option Bool→Option Bool) (m:Nat) (p ms:List Nat) (M:Nat) (σ:St):=loopAt Tryd.prog env (ct m) J (m+1) 6 66 Tryd.f6 d3 p ms M σ
noncomputable def s2_2 (x0:Int) (x1:ByteArray):St:=⟨tsOf [(1,(.dat 38 (.int x0))),(5,(.dat 9 (.str x1)))],[],0⟩
noncomputable def s2_1 (x0:Int) (x1:ByteArray) (x2:Bool):St:=⟨tsOf [(1,(.dat 38 (.int x0))),(5,(.dat 9 (.str x1))),(40,(.dat 4 (.bool x2)))],[],0⟩
noncomputable def s2_0 (x0:Int) (x1:Dt):St:=⟨tsOf [(1,(.dat 38 (.int x0))),(2,(.ptr 0 [] 0))],[(.box 27 (.dat 27 x1))],0⟩
theorem law05_NotationCut_j2_eq m x0 x1:e2 jn m [1,1,1,1] [] (s2_2 x0 x1)=law05_NotationCut_j2 m x0 x1:=
 tre (g:=fun J=>(bif (decide ((IntKind.wrap IntKind.u64 (ByteArray.size x1:Int))=0)) then
  none
   else
  ((cutS x1 0 (IntKind.wrap .i64 (Int.tmod x0 (IntKind.wrap IntKind.u64 (ByteArray.size x1:Int))))).bind fun v4=>
  ((notation_Parse m v4).bind fun r5=>
  (bif (r5.2.2==4) then
  (bif (r5.2.1==(IntKind.wrap .i64 (Int.tmod x0 (IntKind.wrap IntKind.u64 (ByteArray.size x1:Int))))) then
  ((awakeC).bind fun r6=>
  some r6)
  else
  some false)
  else
  some false))))) (fun J=>by kernel_rfl) (by rfl)
theorem law05_NotationCut_j1_eq m x0 x1 x2:e2 jn m w2_0 [] (s2_1 x0 x1 x2)=law05_NotationCut_j1 m x0 x1 x2:=
 tre (g:=fun J=>(bif x2 then
  ((awakeC).bind fun r3=>
  some r3)
   else
  (jj J 0 6 0 (s2_2 x0 x1) (e2 J m [1,1,1,1] [])))) (fun J=>by kernel_rfl) (by simp only[jj_eq,law05_NotationCut_j2_eq m];rfl)
theorem law05_NotationCut_j0_eq m x0 x1:e2 jn m [1,1] [] (s2_0 x0 x1)=law05_NotationCut_j0 m x0 x1:=
 tre (g:=fun J=>((notation_Print m x1).bind fun r2=>
  (bif (r2.2 !=0) then
  (jj J 0 5 0 (s2_1 x0 r2.1 true) (e2 J m w2_0 []))
  else
  (bif ((ByteArray.toList r2.1)==[]) then
  (jj J 0 5 0 (s2_1 x0 r2.1 true) (e2 J m w2_0 []))
  else
  ((idxS r2.1 0).bind fun v7=>
  (bif (v7 !=91) then
  ((idxS r2.1 0).bind fun v8=>
  (bif (v8 !=123) then
  ((idxS r2.1 0).bind fun v9=>
  (jj J 0 5 0 (s2_1 x0 r2.1 (v9 !=34)) (e2 J m w2_0 [])))
  else
  (jj J 0 5 0 (s2_1 x0 r2.1 false) (e2 J m w2_0 []))))
  else
  (jj J 0 5 0 (s2_1 x0 r2.1 false) (e2 J m w2_0 [])))))))) (fun J=>by kernel_rfl) (by simp only[jj_eq,law05_NotationCut_j1_eq m];rfl)
theorem law05_NotationCut_eq m a0 a1:e2 jn m [] [] ⟨[(.dat 27 a0),(.dat 38 (.int a1))],[],0⟩=law05_NotationCut (m+1) a0 a1:=
 tre (g:=fun J=>((ref02_Few m a0 3000).bind fun r0=>
  (bif (Bool.not r0) then
  ((awakeC).bind fun r1=>
  some r1)
  else
  (jj J 0 3 0 (s2_0 a1 a0) (e2 J m [1,1] []))))) (fun J=>by kernel_rfl) (by simp only[jj_eq,law05_NotationCut_j0_eq m];rfl)
end Go.Proofs.YtmejbpmceflcjaaDoor
