/- Generated: each function's run in the abstract machine is its shallow function. -/
import Derived.Test.YtjnkagkoolbodaaGreatDoorCt
import Derived.Test.YtjnkagkoolbodaaGreatDoorAmEnv
import Derived.KernelRfl
set_option linter.unusedVariables false
set_option linter.unusedSimpArgs false
noncomputable section
namespace Go.Proofs.YtjnkagkoolbodaaGreatDoor
open Go.Am
set_option maxRecDepth 100000
def aV2:List Nat:=[1,1,1,0,1]
def aEi:List Nat:=[1,1,1,0,1,0]
def aT1:List Nat:=aEi++[0,1,1]
def aV3:List Nat:=aT1++[1]
def e9 (J:Q10) m:=evAt Tryz.prog env (ct m) J (m+1) 18 29 Tryz.f18 d9
def l9 (J:Q10) m:=loopAt Tryz.prog env (ct m) J (m+1) 18 29 Tryz.f18 d9
def aoW x0 x1 x2 x3 x4 x5 x6 x7 x8 x9 x10 x11 x12 x13 x14 x15 x16 x17 x18 x19 x20 x21 x22 x23 x24 x25 x26 x27 x28:=stO [tsP 2 0,tsP 3 1,tsL 14 22 x0,tsI 15 x1,tsI 16 x2] [obX 39 x3,(.box 39 (.agg 39 [.dat 3 (.int x4),.row 2,(.agg 30 [.dat 3 (.int x5),.dat 3 (.int x6),.dat 9 (.str x7),.row 3,.row 4]),.row 5,.dat 3 (.int x8),.dat 3 (.int x9),(.agg 33 [.dat 3 (.int x10),.row 6,.dat 3 (.int x11)]),(.agg 36 [.dat 3 (.int x12),.row 7,.dat 9 (.str x13),.row 8,(.agg 30 [.dat 3 (.int x14),.dat 3 (.int x15),.dat 9 (.str x16),.row 9,.row 10]),.dat 3 (.int x17),.row 11]),.row 12])),.row 26 x18,.row 27 x19,.row 28 x20,.row 27 x21,.row 31 x22,.row 26 x23,.row 26 x24,.row 27 x25,.row 28 x26,.row 34 x27,.row 37 x28]
def aV4 x0 x1 x2 x3 x4 x5 x6 x7 x8 x9 x10 x11 x12 x13 x14 x15 x16 x17 x18 x19 x20 x21 x22 x23 x24 x25:=stO [tsP 2 0,tsP 3 1] [obX 39 x0,(.box 39 (.agg 39 [.dat 3 (.int x1),.row 2,(.agg 30 [.dat 3 (.int x2),.dat 3 (.int x3),.dat 9 (.str x4),.row 3,.row 4]),.row 5,.dat 3 (.int x5),.dat 3 (.int x6),(.agg 33 [.dat 3 (.int x7),.row 6,.dat 3 (.int x8)]),(.agg 36 [.dat 3 (.int x9),.row 7,.dat 9 (.str x10),.row 8,(.agg 30 [.dat 3 (.int x11),.dat 3 (.int x12),.dat 9 (.str x13),.row 9,.row 10]),.dat 3 (.int x14),.row 11]),.row 12])),.row 26 x15,.row 27 x16,.row 28 x17,.row 27 x18,.row 31 x19,.row 26 x20,.row 26 x21,.row 27 x22,.row 28 x23,.row 34 x24,.row 37 x25]
def aV5 x0 x1:=stO [tsL 0 22 x0,tsP 2 0] [obX 39 x1]
abbrev aV6 (m M2:Nat) (rec2:Q37):Prop:=∀x0 x1 x2 x3 x4 x5 x6 x7 x8 x9 x10 x11 x12 x13 x14 x15 x16 x17 x18 x19 x20 x21 x22 x23 x24 x25 x26 x27 x28,l9 jn m aEi [] M2 (aoW x0 x1 x2 x3 x4 x5 x6 x7 x8 x9 x10 x11 x12 x13 x14 x15 x16 x17 x18 x19 x20 x21 x22 x23 x24 x25 x26 x27 x28)=rec2 x0 x1 x2 x3 x4 x5 x6 x7 x8 x9 x10 x11 x12 x13 x14 x15 x16 x17 x18 x19 x20 x21 x22 x23 x24 x25 x26 x27 x28
theorem Za m M2 rec2 (h2:aV6 m M2 rec2) x0 x1 x2 x3 x4 x5 x6 x7 x8 x9 x10 x11 x12 x13 x14 x15 x16 x17 x18 x19 x20 x21 x22 x23 x24 x25 x26 x27 x28:e9 jn m aV3 [M2] (aoW x0 x1 x2 x3 x4 x5 x6 x7 x8 x9 x10 x11 x12 x13 x14 x15 x16 x17 x18 x19 x20 x21 x22 x23 x24 x25 x26 x27 x28)=EF m rec2 x0 x1 x2 x3 x4 x5 x6 x7 x8 x9 x10 x11 x12 x13 x14 x15 x16 x17 x18 x19 x20 x21 x22 x23 x24 x25 x26 x27 x28:=
 tq (g:=fun J=>(jj J 1 5 M2 (aoW x0 x1 (IntKind.wrap .i64 (x2+1)) x3 x4 x5 x6 x7 x8 x9 x10 x11 x12 x13 x14 x15 x16 x17 x18 x19 x20 x21 x22 x23 x24 x25 x26 x27 x28) (l9 J m aEi [] M2))) (by simp only[ah,h2];rfl)
theorem Zb m M2 rec2 (h2:aV6 m M2 rec2) x0 x1 x2 x3 x4 x5 x6 x7 x8 x9 x10 x11 x12 x13 x14 x15 x16 x17 x18 x19 x20 x21 x22 x23 x24 x25 x26 x27 x28:e9 jn m aT1 [M2] (aoW x0 x1 x2 x3 x4 x5 x6 x7 x8 x9 x10 x11 x12 x13 x14 x15 x16 x17 x18 x19 x20 x21 x22 x23 x24 x25 x26 x27 x28)=EG m rec2 x0 x1 x2 x3 x4 x5 x6 x7 x8 x9 x10 x11 x12 x13 x14 x15 x16 x17 x18 x19 x20 x21 x22 x23 x24 x25 x26 x27 x28:=
 tq (g:=fun J=>((idx x0 x2).bind fun v1=>
  ((app x28 [(Dt.fld v1 1)]).bind fun v2=>
  (jj J 0 8 0 (aoW x0 x1 x2 x3 x4 x5 x6 x7 x8 x9 x10 x11 x12 x13 x14 x15 x16 x17 x18 x19 x20 x21 x22 x23 x24 x25 x26 x27 v2) (e9 J m aV3 [M2]))))) (by simp only[ah,Za m M2 rec2 h2];rfl)
theorem Zc m x0 x1 x2 x3 x4 x5 x6 x7 x8 x9 x10 x11 x12 x13 x14 x15 x16 x17 x18 x19 x20 x21 x22 x23 x24 x25:e9 jn m [1,1,1,1] [] (aV4 x0 x1 x2 x3 x4 x5 x6 x7 x8 x9 x10 x11 x12 x13 x14 x15 x16 x17 x18 x19 x20 x21 x22 x23 x24 x25)=EH m x0 x1 x2 x3 x4 x5 x6 x7 x8 x9 x10 x11 x12 x13 x14 x15 x16 x17 x18 x19 x20 x21 x22 x23 x24 x25:=
 tq (g:=fun J=>EH m x0 x1 x2 x3 x4 x5 x6 x7 x8 x9 x10 x11 x12 x13 x14 x15 x16 x17 x18 x19 x20 x21 x22 x23 x24 x25) (by rfl)
theorem Ho m:∀M2 x0 x1 x2 x3 x4 x5 x6 x7 x8 x9 x10 x11 x12 x13 x14 x15 x16 x17 x18 x19 x20 x21 x22 x23 x24 x25 x26 x27 x28,l9 jn m aEi [] M2 (aoW x0 x1 x2 x3 x4 x5 x6 x7 x8 x9 x10 x11 x12 x13 x14 x15 x16 x17 x18 x19 x20 x21 x22 x23 x24 x25 x26 x27 x28)=nW m M2 x0 x1 x2 x3 x4 x5 x6 x7 x8 x9 x10 x11 x12 x13 x14 x15 x16 x17 x18 x19 x20 x21 x22 x23 x24 x25 x26 x27 x28
 |0,_,_,_,_,_,_,_,_,_,_,_,_,_,_,_,_,_,_,_,_,_,_,_,_,_,_,_,_,_=>rfl
 | M2+1,x0,x1,x2,x3,x4,x5,x6,x7,x8,x9,x10,x11,x12,x13,x14,x15,x16,x17,x18,x19,x20,x21,x22,x23,x24,x25,x26,x27,x28=>
   tl (g:=fun J=>(bif (decide (x2<x1)) then
  (jj J 0 6 0 (aoW x0 x1 x2 x3 x4 x5 x6 x7 x8 x9 x10 x11 x12 x13 x14 x15 x16 x17 x18 x19 x20 x21 x22 x23 x24 x25 x26 x27 x28) (e9 J m aT1 [M2]))
   else
  (jj J 0 9 0 (aV4 x3 x4 x5 x6 x7 x8 x9 x10 x11 x12 x13 x14 x15 x16 x17 x18 x19 x20 x21 x22 x23 x24 x25 x26 x27 x28) (e9 J m [1,1,1,1] [])))) (by simp only[ah,Zb m M2 (nW m M2) (Ho m M2),Zc m];rfl)
theorem Zd m x0 x1 x2 x3 x4 x5 x6 x7 x8 x9 x10 x11 x12 x13 x14 x15 x16 x17 x18 x19 x20 x21 x22 x23 x24 x25 x26 x27 x28:e9 jn m aV2 [] (aoW x0 x1 x2 x3 x4 x5 x6 x7 x8 x9 x10 x11 x12 x13 x14 x15 x16 x17 x18 x19 x20 x21 x22 x23 x24 x25 x26 x27 x28)=EI m x0 x1 x2 x3 x4 x5 x6 x7 x8 x9 x10 x11 x12 x13 x14 x15 x16 x17 x18 x19 x20 x21 x22 x23 x24 x25 x26 x27 x28:=
 tq (g:=fun J=>(jj J 1 5 (Nat.succ m) (aoW x0 x1 x2 x3 x4 x5 x6 x7 x8 x9 x10 x11 x12 x13 x14 x15 x16 x17 x18 x19 x20 x21 x22 x23 x24 x25 x26 x27 x28) (l9 J m aEi [] (Nat.succ m)))) (by simp only[ah,Ho m];rfl)
theorem Ze m x0 x1:e9 jn m [1,1] [] (aV5 x0 x1)=EJ m x0 x1:=
 tq (g:=fun J=>(jj J 0 5 0 (aoW x0 (List.length x0:Int) 0 x1 20 0 0 (ByteArray.mk (List.toArray [])) 0 0 0 0 0 (ByteArray.mk (List.toArray [])) 0 0 (ByteArray.mk (List.toArray [])) 0 [] [] [] [] [] [] [] [] [] [] []) (e9 J m aV2 []))) (by simp only[ah,Zd m];rfl)
theorem ajD m a0:e9 jn m [] [] ⟨[.dat 22 (.lst a0)],[],0⟩=rO (m+1) a0:=
 tq (g:=fun J=>(bif ((List.length a0:Int)==1) then
  ((idx a0 0).bind fun v0=>
  some (Dt.fld v0 1))
   else
  (jj J 0 3 0 (aV5 a0 KZ) (e9 J m [1,1] [])))) (by simp only[ah,Ze m];rfl)
def e17 (J:Q0) m:=evAt Tryz.prog env (ct m) J (m+1) 26 20 Tryz.f26 d17
theorem atO m a0 a1 a2:e17 jn m [] [] ⟨[.dat 22 (.lst a0),.dat 3 (.int a1),.dat 3 (.int a2)],[],0⟩=oH (m+1) a0 a1 a2:=
 tq (g:=fun J=>oH (m+1) a0 a1 a2) (by rfl)
def aOu:List Nat:=[1,1,1,1,1]
def aEj:List Nat:=[1,1,1,1,0,1]
def atP:List Nat:=aEj++[0]
def aEk:List Nat:=atP++[0,1]
def aOv:List Nat:=aEk++[1]
def e18 (J:Q10) m:=evAt Tryz.prog env (ct m) J (m+1) 28 33 Tryz.f28 d9
def l18 (J:Q10) m:=loopAt Tryz.prog env (ct m) J (m+1) 28 33 Tryz.f28 d9
def XP x0 x1 x2 x3 x4 x5 x6 x7 x8 x9 x10 x11 x12 x13 x14 x15 x16 x17 x18 x19 x20 x21 x22 x23 x24 x25 x26 x27 x28:=stO [tsL 0 22 x0,tsI 1 x1,tsP 4 0,tsP 5 1,tsI 6 x2] [obX 39 x3,(.box 39 (.agg 39 [.dat 3 (.int x4),.row 2,(.agg 30 [.dat 3 (.int x5),.dat 3 (.int x6),.dat 9 (.str x7),.row 3,.row 4]),.row 5,.dat 3 (.int x8),.dat 3 (.int x9),(.agg 33 [.dat 3 (.int x10),.row 6,.dat 3 (.int x11)]),(.agg 36 [.dat 3 (.int x12),.row 7,.dat 9 (.str x13),.row 8,(.agg 30 [.dat 3 (.int x14),.dat 3 (.int x15),.dat 9 (.str x16),.row 9,.row 10]),.dat 3 (.int x17),.row 11]),.row 12])),.row 26 x18,.row 27 x19,.row 28 x20,.row 27 x21,.row 31 x22,.row 26 x23,.row 26 x24,.row 27 x25,.row 28 x26,.row 34 x27,.row 37 x28]
def aOw x0 x1 x2 x3 x4 x5 x6 x7 x8 x9 x10 x11 x12 x13 x14 x15 x16 x17 x18 x19 x20 x21 x22 x23 x24 x25:=stO [tsP 4 0,tsP 5 1] [obX 39 x0,(.box 39 (.agg 39 [.dat 3 (.int x1),.row 2,(.agg 30 [.dat 3 (.int x2),.dat 3 (.int x3),.dat 9 (.str x4),.row 3,.row 4]),.row 5,.dat 3 (.int x5),.dat 3 (.int x6),(.agg 33 [.dat 3 (.int x7),.row 6,.dat 3 (.int x8)]),(.agg 36 [.dat 3 (.int x9),.row 7,.dat 9 (.str x10),.row 8,(.agg 30 [.dat 3 (.int x11),.dat 3 (.int x12),.dat 9 (.str x13),.row 9,.row 10]),.dat 3 (.int x14),.row 11]),.row 12])),.row 26 x15,.row 27 x16,.row 28 x17,.row 27 x18,.row 31 x19,.row 26 x20,.row 26 x21,.row 27 x22,.row 28 x23,.row 34 x24,.row 37 x25]
def azk x0 x1 x2:=stO [tsL 0 22 x0,tsI 1 x1,tsP 4 0] [obX 39 x2]
abbrev aOx (m M3:Nat) (rec3:Q37):Prop:=∀x0 x1 x2 x3 x4 x5 x6 x7 x8 x9 x10 x11 x12 x13 x14 x15 x16 x17 x18 x19 x20 x21 x22 x23 x24 x25 x26 x27 x28,l18 jn m atP [] M3 (XP x0 x1 x2 x3 x4 x5 x6 x7 x8 x9 x10 x11 x12 x13 x14 x15 x16 x17 x18 x19 x20 x21 x22 x23 x24 x25 x26 x27 x28)=rec3 x0 x1 x2 x3 x4 x5 x6 x7 x8 x9 x10 x11 x12 x13 x14 x15 x16 x17 x18 x19 x20 x21 x22 x23 x24 x25 x26 x27 x28
theorem acI m M3 rec3 (h3:aOx m M3 rec3) x0 x1 x2 x3 x4 x5 x6 x7 x8 x9 x10 x11 x12 x13 x14 x15 x16 x17 x18 x19 x20 x21 x22 x23 x24 x25 x26 x27 x28:e18 jn m aOv [M3] (XP x0 x1 x2 x3 x4 x5 x6 x7 x8 x9 x10 x11 x12 x13 x14 x15 x16 x17 x18 x19 x20 x21 x22 x23 x24 x25 x26 x27 x28)=Ih m rec3 x0 x1 x2 x3 x4 x5 x6 x7 x8 x9 x10 x11 x12 x13 x14 x15 x16 x17 x18 x19 x20 x21 x22 x23 x24 x25 x26 x27 x28:=
 tq (g:=fun J=>(jj J 1 7 M3 (XP x0 x1 (IntKind.wrap .i64 (x2+1)) x3 x4 x5 x6 x7 x8 x9 x10 x11 x12 x13 x14 x15 x16 x17 x18 x19 x20 x21 x22 x23 x24 x25 x26 x27 x28) (l18 J m atP [] M3))) (by simp only[ah,h3];rfl)
theorem acJ m M3 rec3 (h3:aOx m M3 rec3) x0 x1 x2 x3 x4 x5 x6 x7 x8 x9 x10 x11 x12 x13 x14 x15 x16 x17 x18 x19 x20 x21 x22 x23 x24 x25 x26 x27 x28:e18 jn m aEk [M3] (XP x0 x1 x2 x3 x4 x5 x6 x7 x8 x9 x10 x11 x12 x13 x14 x15 x16 x17 x18 x19 x20 x21 x22 x23 x24 x25 x26 x27 x28)=Ii m rec3 x0 x1 x2 x3 x4 x5 x6 x7 x8 x9 x10 x11 x12 x13 x14 x15 x16 x17 x18 x19 x20 x21 x22 x23 x24 x25 x26 x27 x28:=
 tq (g:=fun J=>((idx x0 x2).bind fun v1=>
  ((app x28 [(Dt.fld v1 1)]).bind fun v2=>
  (jj J 0 8 0 (XP x0 x1 x2 x3 x4 x5 x6 x7 x8 x9 x10 x11 x12 x13 x14 x15 x16 x17 x18 x19 x20 x21 x22 x23 x24 x25 x26 x27 v2) (e18 J m aOv [M3]))))) (by simp only[ah,acI m M3 rec3 h3];rfl)
theorem acK m x0 x1 x2 x3 x4 x5 x6 x7 x8 x9 x10 x11 x12 x13 x14 x15 x16 x17 x18 x19 x20 x21 x22 x23 x24 x25:e18 jn m aOu [] (aOw x0 x1 x2 x3 x4 x5 x6 x7 x8 x9 x10 x11 x12 x13 x14 x15 x16 x17 x18 x19 x20 x21 x22 x23 x24 x25)=Ij m x0 x1 x2 x3 x4 x5 x6 x7 x8 x9 x10 x11 x12 x13 x14 x15 x16 x17 x18 x19 x20 x21 x22 x23 x24 x25:=
 tq (g:=fun J=>Ij m x0 x1 x2 x3 x4 x5 x6 x7 x8 x9 x10 x11 x12 x13 x14 x15 x16 x17 x18 x19 x20 x21 x22 x23 x24 x25) (by rfl)
theorem KG m:∀M3 x0 x1 x2 x3 x4 x5 x6 x7 x8 x9 x10 x11 x12 x13 x14 x15 x16 x17 x18 x19 x20 x21 x22 x23 x24 x25 x26 x27 x28,l18 jn m atP [] M3 (XP x0 x1 x2 x3 x4 x5 x6 x7 x8 x9 x10 x11 x12 x13 x14 x15 x16 x17 x18 x19 x20 x21 x22 x23 x24 x25 x26 x27 x28)=qg m M3 x0 x1 x2 x3 x4 x5 x6 x7 x8 x9 x10 x11 x12 x13 x14 x15 x16 x17 x18 x19 x20 x21 x22 x23 x24 x25 x26 x27 x28
 |0,_,_,_,_,_,_,_,_,_,_,_,_,_,_,_,_,_,_,_,_,_,_,_,_,_,_,_,_,_=>rfl
 | M3+1,x0,x1,x2,x3,x4,x5,x6,x7,x8,x9,x10,x11,x12,x13,x14,x15,x16,x17,x18,x19,x20,x21,x22,x23,x24,x25,x26,x27,x28=>
   tl (g:=fun J=>(bif (decide (x2<x1)) then
  (jj J 0 9 0 (XP x0 x1 x2 x3 x4 x5 x6 x7 x8 x9 x10 x11 x12 x13 x14 x15 x16 x17 x18 x19 x20 x21 x22 x23 x24 x25 x26 x27 x28) (e18 J m aEk [M3]))
   else
  (jj J 0 10 0 (aOw x3 x4 x5 x6 x7 x8 x9 x10 x11 x12 x13 x14 x15 x16 x17 x18 x19 x20 x21 x22 x23 x24 x25 x26 x27 x28) (e18 J m aOu [])))) (by simp only[ah,acJ m M3 (qg m M3) (KG m M3),acK m];rfl)
theorem acL m x0 x1 x2 x3 x4 x5 x6 x7 x8 x9 x10 x11 x12 x13 x14 x15 x16 x17 x18 x19 x20 x21 x22 x23 x24 x25 x26 x27 x28:e18 jn m aEj [] (XP x0 x1 x2 x3 x4 x5 x6 x7 x8 x9 x10 x11 x12 x13 x14 x15 x16 x17 x18 x19 x20 x21 x22 x23 x24 x25 x26 x27 x28)=Ik m x0 x1 x2 x3 x4 x5 x6 x7 x8 x9 x10 x11 x12 x13 x14 x15 x16 x17 x18 x19 x20 x21 x22 x23 x24 x25 x26 x27 x28:=
 tq (g:=fun J=>(jj J 1 7 (Nat.succ m) (XP x0 x1 x2 x3 x4 x5 x6 x7 x8 x9 x10 x11 x12 x13 x14 x15 x16 x17 x18 x19 x20 x21 x22 x23 x24 x25 x26 x27 x28) (l18 J m atP [] (Nat.succ m)))) (by simp only[ah,KG m];rfl)
theorem acM m x0 x1 x2:e18 jn m [1,1,1] [] (azk x0 x1 x2)=Il m x0 x1 x2:=
 tq (g:=fun J=>(jj J 0 7 0 (XP x0 x1 0 x2 20 0 0 (ByteArray.mk (List.toArray [])) 0 0 0 0 0 (ByteArray.mk (List.toArray [])) 0 0 (ByteArray.mk (List.toArray [])) 0 [] [] [] [] [] [] [] [] [] [] []) (e18 J m aEj []))) (by simp only[ah,acL m];rfl)
theorem acN m x0 x1 x2:e18 jn m [1,1] [] (azk x0 x1 x2)=Im m x0 x1 x2:=
 tq (g:=fun J=>(bif (x1==1) then
  ((idx x0 0).bind fun v0=>
  some (Dt.fld v0 1))
   else
  (jj J 0 5 0 (azk x0 x1 x2) (e18 J m [1,1,1] [])))) (by simp only[ah,acM m];rfl)
theorem alx m a0 a1:e18 jn m [] [] ⟨[.dat 22 (.lst a0),.dat 3 (.int a1)],[],0⟩=u7 (m+1) a0 a1:=
 tq (g:=fun J=>(bif (a1==0) then
  some akS
   else
  (jj J 0 3 0 (azk a0 a1 KZ) (e18 J m [1,1] [])))) (by simp only[ah,acN m];rfl)
def aEl:List Nat:=[1,1,1,0,1,0,1]
def atQ:List Nat:=aEl++[0]
def aEm:List Nat:=atQ++[0,1]
def aOy:List Nat:=aEm++[1]
def e24 (J:Q8) m:=evAt Tryz.prog env (ct m) J (m+1) 34 39 Tryz.f34 d24
def l24 (J:Q8) m:=loopAt Tryz.prog env (ct m) J (m+1) 34 39 Tryz.f34 d24
def XQ x0 x1 x2:=stO [tsP 1 0,(3,.row 1),tsI 4 x0] [obX 71 x1,.row 90 x2]
def aEn x0:=stO [(3,.row 0)] [.row 90 x0]
def aOz x0 x1:=stO [tsP 1 0,(3,.row 1)] [obX 71 x0,.row 90 x1]
def aEo x0 x1 x2:=stO [tsP 1 0,(3,.row 1),tsB 12 x0] [obX 71 x1,.row 90 x2]
abbrev aOA (m M3:Nat) (rec3:Q19):Prop:=∀x0 x1 x2,l24 jn m atQ [] M3 (XQ x0 x1 x2)=rec3 x0 x1 x2
theorem Zf m M3 rec3 (h3:aOA m M3 rec3) x0 x1 x2:e24 jn m aOy [M3] (XQ x0 x1 x2)=EK m rec3 x0 x1 x2:=
 tq (g:=fun J=>(jj J 1 6 M3 (XQ (IntKind.wrap .i64 (x0+1)) x1 x2) (l24 J m atQ [] M3))) (by simp only[ah,h3];rfl)
theorem Zg m M3 rec3 (h3:aOA m M3 rec3) x0 x1 x2:e24 jn m aEm [M3] (XQ x0 x1 x2)=EL m rec3 x0 x1 x2:=
 tq (g:=fun J=>((idx (Dt.L x1 13) x0).bind fun v1=>
  ((app x2 [(Dt.lst (Dt.L v1 1))]).bind fun v2=>
  (jj J 0 7 0 (XQ x0 x1 v2) (e24 J m aOy [M3]))))) (by simp only[ah,Zf m M3 rec3 h3];rfl)
theorem Hq m x0:e24 jn m [1,1,1,1] [] (aEn x0)=EM m x0:=
 tq (g:=fun J=>some x0) (by rfl)
theorem Hr m:∀M3 x0 x1 x2,l24 jn m atQ [] M3 (XQ x0 x1 x2)=nX m M3 x0 x1 x2
 |0,_,_,_=>rfl
 | M3+1,x0,x1,x2=>
   tl (g:=fun J=>(bif (decide (x0<(List.length (Dt.L x1 13):Int))) then
  (jj J 0 8 0 (XQ x0 x1 x2) (e24 J m aEm [M3]))
   else
  (jj J 0 9 0 (aEn x2) (e24 J m [1,1,1,1] [])))) (by simp only[ah,Zg m M3 (nX m M3) (Hr m M3),Hq m];rfl)
theorem Zh m x0 x1 x2:e24 jn m aEl [] (XQ x0 x1 x2)=QK m x0 x1 x2:=
 tq (g:=fun J=>(jj J 1 6 (Nat.succ m) (XQ x0 x1 x2) (l24 J m atQ [] (Nat.succ m)))) (by simp only[ah,Hr m];rfl)
theorem Zi m x0 x1:e24 jn m [1,1,1] [] (aOz x0 x1)=yA m x0 x1:=
 tq (g:=fun J=>(bif ((Dt.I x0 0)==11) then
  (jj J 0 6 0 (XQ 0 x0 x1) (e24 J m aEl []))
   else
  (jj J 0 9 0 (aEn x1) (e24 J m [1,1,1,1] [])))) (by simp only[ah,Zh m,Hq m];rfl)
theorem Zj m x0 x1 x2:e24 jn m [1,1,0,1] [] (aEo x0 x1 x2)=sS m x0 x1 x2:=
 tq (g:=fun J=>Cy (fun y0 y1=>jj J 0 4 0 (aOz y0 y1) (e24 J m [1,1,1] [])) x0 x1 x2) (by simp only[ah,Zi m];rfl)
theorem ajE m a0:e24 jn m [] [] ⟨[.dat 71 a0],[],0⟩=oI (m+1) a0:=
 tq (g:=fun J=>(bif ((Dt.I a0 0)==10) then
  (jj J 0 3 0 (aEo true a0 []) (e24 J m [1,1,0,1] []))
   else
  (jj J 0 3 0 (aEo ((Dt.I a0 0)==15) a0 []) (e24 J m [1,1,0,1] [])))) (by simp only[ah,Zj m];rfl)
def aV7:List Nat:=[1,1,1,0,1]
def aEp:List Nat:=[1,1,1,0,1,0]
def aME:List Nat:=aEp++[0,1]
def aT2:List Nat:=aME++[1]
def aT3:List Nat:=aME++[0,0,1,1]
def aEq:List Nat:=aT3++[0]
def aT4:List Nat:=aEq++[0,1]
def aV8:List Nat:=aT4++[1]
def e7 (J:Q1) m:=evAt Tryz.prog env (ct m) J (m+1) 14 58 Tryz.f14 d7
def l7 (J:Q1) m:=loopAt Tryz.prog env (ct m) J (m+1) 14 58 Tryz.f14 d7
def aoX x0 x1 x2 x3 x4 x5:=stO [tsL 0 22 x0,tsI 1 x1,tsI 5 x2,tsI 6 x3,tsL 7 90 x4,tsI 8 x5] []
def aly x0 x1 x2 x3:=stO [tsL 0 22 x0,tsI 1 x1,tsI 5 x2,tsI 6 x3] []
def aEr x0:=stO [tsI 5 x0] []
def aV9 x0 x1:=stO [tsL 0 22 x0,tsI 1 x1] []
def aWa x0 x1 x2:=stO [tsL 0 22 x0,tsI 1 x1,tsB 20 x2] []
abbrev aBD (m M3:Nat) (rec3:Q32):Prop:=∀x0 x1 x2 x3,l7 jn m aEp [] M3 (aly x0 x1 x2 x3)=rec3 x0 x1 x2 x3
abbrev aWb (m M3 M6:Nat) (rec6:Q48):Prop:=∀x0 x1 x2 x3 x4 x5,l7 jn m aEq [M3] M6 (aoX x0 x1 x2 x3 x4 x5)=rec6 x0 x1 x2 x3 x4 x5
theorem acO m M3 rec3 (h3:aBD m M3 rec3) M6 rec6 (h6:aWb m M3 M6 rec6) x0 x1 x2 x3 x4 x5:e7 jn m aV8 [M3,M6] (aoX x0 x1 x2 x3 x4 x5)=Io m (bB m) rec3 rec6 x0 x1 x2 x3 x4 x5:=
 tq (g:=fun J=>(jj J 1 9 M6 (aoX x0 x1 x2 x3 x4 (IntKind.wrap .i64 (x5+1))) (l7 J m aEq [M3] M6))) (by simp only[ah,h6];rfl)
theorem acP m M3 rec3 (h3:aBD m M3 rec3) M6 rec6 (h6:aWb m M3 M6 rec6) x0 x1 x2 x3 x4 x5:e7 jn m aT4 [M3,M6] (aoX x0 x1 x2 x3 x4 x5)=Ip m (bB m) rec3 rec6 x0 x1 x2 x3 x4 x5:=
 tq (g:=fun J=>((idx x4 x5).bind fun v2=>
  ((bB m (Dt.toLst v2) (IntKind.wrap .i64 (x1+1))).bind fun r3=>
  (jj J 0 10 0 (aoX x0 x1 (IntKind.wrap .i64 (x2+r3)) x3 x4 x5) (e7 J m aV8 [M3,M6]))))) (by simp only[ah,acO m M3 rec3 h3 M6 rec6 h6];rfl)
theorem acQ m M3 rec3 (h3:aBD m M3 rec3) x0 x1 x2 x3:e7 jn m aT2 [M3] (aly x0 x1 x2 x3)=vg m (bB m) rec3 x0 x1 x2 x3:=
 tq (g:=fun J=>(jj J 1 5 M3 (aly x0 x1 x2 (IntKind.wrap .i64 (x3+1))) (l7 J m aEp [] M3))) (by simp only[ah,h3];rfl)
theorem KH m M3 rec3 (h3:aBD m M3 rec3):∀M6 x0 x1 x2 x3 x4 x5,l7 jn m aEq [M3] M6 (aoX x0 x1 x2 x3 x4 x5)=qh m (bB m) rec3 M6 x0 x1 x2 x3 x4 x5
 |0,_,_,_,_,_,_=>rfl
 | M6+1,x0,x1,x2,x3,x4,x5=>
   tl (g:=fun J=>(bif (decide (x5<(List.length x4:Int))) then
  (bif (decide (x2≤32)) then
  (jj J 0 11 0 (aoX x0 x1 x2 x3 x4 x5) (e7 J m aT4 [M3,M6]))
  else
  (jj J 0 6 0 (aly x0 x1 x2 x3) (e7 J m aT2 [M3])))
   else
  (jj J 0 6 0 (aly x0 x1 x2 x3) (e7 J m aT2 [M3])))) (by simp only[ah,acP m M3 rec3 h3 M6 (qh m (bB m) rec3 M6) (KH m M3 rec3 h3 M6),acQ m M3 rec3 h3];rfl)
theorem acR m M3 rec3 (h3:aBD m M3 rec3) x0 x1 x2 x3 x4 x5:e7 jn m aT3 [M3] (aoX x0 x1 x2 x3 x4 x5)=UG m (bB m) rec3 x0 x1 x2 x3 x4 x5:=
 tq (g:=fun J=>(jj J 1 9 (Nat.succ m) (aoX x0 x1 x2 x3 x4 x5) (l7 J m aEq [M3] (Nat.succ m)))) (by simp only[ah,KH m M3 rec3 h3];rfl)
theorem acS m M3 rec3 (h3:aBD m M3 rec3) x0 x1 x2 x3:e7 jn m aME [M3] (aly x0 x1 x2 x3)=Iq m (bB m) rec3 x0 x1 x2 x3:=
 tq (g:=fun J=>((idx x0 x3).bind fun v0=>
  ((oI m v0).bind fun r1=>
  (jj J 0 9 0 (aoX x0 x1 x2 x3 r1 0) (e7 J m aT3 [M3]))))) (by simp only[ah,acR m M3 rec3 h3];rfl)
theorem Zk m x0:e7 jn m [1,1,1,1] [] (aEr x0)=EN m (bB m) x0:=
 tq (g:=fun J=>some x0) (by rfl)
theorem KI m:∀M3 x0 x1 x2 x3,l7 jn m aEp [] M3 (aly x0 x1 x2 x3)=qj m (bB m) M3 x0 x1 x2 x3
 |0,_,_,_,_=>rfl
 | M3+1,x0,x1,x2,x3=>
   tl (g:=fun J=>(bif (decide (x3<(List.length x0:Int))) then
  (bif (decide (x2≤32)) then
  (jj J 0 7 0 (aly x0 x1 x2 x3) (e7 J m aME [M3]))
  else
  (jj J 0 12 0 (aEr x2) (e7 J m [1,1,1,1] [])))
   else
  (jj J 0 12 0 (aEr x2) (e7 J m [1,1,1,1] [])))) (by simp only[ah,acS m M3 (qj m (bB m) M3) (KI m M3),Zk m];rfl)
theorem acT m x0 x1 x2 x3:e7 jn m aV7 [] (aly x0 x1 x2 x3)=UH m (bB m) x0 x1 x2 x3:=
 tq (g:=fun J=>(jj J 1 5 (Nat.succ m) (aly x0 x1 x2 x3) (l7 J m aEp [] (Nat.succ m)))) (by simp only[ah,KI m];rfl)
theorem acU m x0 x1:e7 jn m [1,1] [] (aV9 x0 x1)=UJ m (bB m) x0 x1:=
 tq (g:=fun J=>(jj J 0 5 0 (aly x0 x1 (List.length x0:Int) 0) (e7 J m aV7 []))) (by simp only[ah,acT m];rfl)
theorem acV m x0 x1 x2:e7 jn m [1,0,1] [] (aWa x0 x1 x2)=Ai m (bB m) x0 x1 x2:=
 tq (g:=fun J=>(bif x2 then
  some 33
   else
  (jj J 0 3 0 (aV9 x0 x1) (e7 J m [1,1] [])))) (by simp only[ah,acU m];rfl)
theorem alz m a0 a1:e7 jn m [] [] ⟨[.dat 22 (.lst a0),.dat 3 (.int a1)],[],0⟩=bB (m+1) a0 a1:=
 tq (g:=fun J=>P5 (fun y0 y1 y2=>jj J 0 2 0 (aWa y0 y1 y2) (e7 J m [1,0,1] [])) a0 a1) (by simp only[ah,acV m];rfl)
def aOB:List Nat:=[1,1,1,0,1]
def atS:List Nat:=[1,1,1,0,1,0]
def aEs:List Nat:=atS++[0,1,1]
def aOC:List Nat:=aEs++[1]
def e27 (J:Q60) m:=evAt Tryz.prog env (ct m) J (m+1) 39 36 Tryz.f39 d27
def l27 (J:Q60) m:=loopAt Tryz.prog env (ct m) J (m+1) 39 36 Tryz.f39 d27
def XR x0 x1 x2 x3 x4:=(⟨tsOf [tsI 1 x0,tsP 2 0,tsL 23 37 x1,tsI 24 x2,tsI 25 x3],[.box 3 (.dat 3 (.int x4))],1⟩:St)
def aOD x0:=(⟨tsOf [],[.box 3 (.dat 3 (.int x0))],1⟩:St)
def aOE x0 x1 x2:=(⟨tsOf [tsI 1 x0,tsP 2 0,tsP 3 1],[.box 3 (.dat 3 (.int x1)),obX 39 x2],1⟩:St)
def aEt x0 x1 x2 x3:=(⟨tsOf [tsI 1 x0,tsP 2 0,tsP 3 1,tsB 16 x1],[.box 3 (.dat 3 (.int x2)),obX 39 x3],1⟩:St)
abbrev aOF (m M3:Nat) (rec3:Q49):Prop:=∀x0 x1 x2 x3 x4,l27 jn m atS [] M3 (XR x0 x1 x2 x3 x4)=rec3 x0 x1 x2 x3 x4
theorem aBE m M3 rec3 (h3:aOF m M3 rec3) x0 x1 x2 x3 x4:e27 jn m aOC [M3] (XR x0 x1 x2 x3 x4)=asa m (i27 m) rec3 x0 x1 x2 x3 x4:=
 tq (g:=fun J=>(jj J 1 5 M3 (XR x0 x1 x2 (IntKind.wrap .i64 (x3+1)) x4) (l27 J m atS [] M3))) (by simp only[ah,h3];rfl)
theorem aBF m M3 rec3 (h3:aOF m M3 rec3) x0 x1 x2 x3 x4:e27 jn m aEs [M3] (XR x0 x1 x2 x3 x4)=axB m (i27 m) rec3 x0 x1 x2 x3 x4:=
 tq (g:=fun J=>asb (fun y0 y1 y2 y3 y4=>jj J 0 9 0 (XR y0 y1 y2 y3 y4) (e27 J m aOC [M3])) (i27 m) x0 x1 x2 x3 x4) (by simp only[ah,aBE m M3 rec3 h3];rfl)
theorem aBG m x0:e27 jn m [1,1,1,1] [] (aOD x0)=aJm m (i27 m) x0:=
 tq (g:=fun J=>some (true,x0)) (by rfl)
theorem aqn m:∀M3 x0 x1 x2 x3 x4,l27 jn m atS [] M3 (XR x0 x1 x2 x3 x4)=aaV m (i27 m) M3 x0 x1 x2 x3 x4
 |0,_,_,_,_,_=>rfl
 | M3+1,x0,x1,x2,x3,x4=>
   tl (g:=fun J=>(bif (decide (x3<x2)) then
  (jj J 0 6 0 (XR x0 x1 x2 x3 x4) (e27 J m aEs [M3]))
   else
  (jj J 0 10 0 (aOD x4) (e27 J m [1,1,1,1] [])))) (by simp only[ah,aBF m M3 (aaV m (i27 m) M3) (aqn m M3),aBG m];rfl)
theorem aBH m x0 x1 x2 x3 x4:e27 jn m aOB [] (XR x0 x1 x2 x3 x4)=axC m (i27 m) x0 x1 x2 x3 x4:=
 tq (g:=fun J=>(jj J 1 5 (Nat.succ m) (XR x0 x1 x2 x3 x4) (l27 J m atS [] (Nat.succ m)))) (by simp only[ah,aqn m];rfl)
theorem aBI m x0 x1 x2:e27 jn m [1,1] [] (aOE x0 x1 x2)=axD m (i27 m) x0 x1 x2:=
 tq (g:=fun J=>(jj J 0 5 0 (XR x0 (Dt.L x2 8) (List.length (Dt.L x2 8):Int) 0 (IntKind.wrap .i64 (x1+1))) (e27 J m aOB []))) (by simp only[ah,aBH m];rfl)
theorem aBJ m x0 x1 x2 x3:e27 jn m [1,0,1] [] (aEt x0 x1 x2 x3)=asc m (i27 m) x0 x1 x2 x3:=
 tq (g:=fun J=>(bif x1 then
  some (false,x2)
   else
  (jj J 0 3 0 (aOE x0 x2 x3) (e27 J m [1,1] [])))) (by simp only[ah,aBI m];rfl)
theorem aT5 m a0 a1 a2:e27 jn m [] [] ⟨[.dat 39 a0,.dat 3 (.int a1),.ptr 0 [] 0],[.box 3 (.dat 3 (.int a2))],1⟩=i27 (m+1) a0 a1 a2:=
 tq (g:=fun J=>(bif (decide (16<a1)) then
  (jj J 0 2 0 (aEt a1 true a2 a0) (e27 J m [1,0,1] []))
   else
  (jj J 0 2 0 (aEt a1 (a2==256) a2 a0) (e27 J m [1,0,1] [])))) (by simp only[ah,aBJ m];rfl)
def e29 (J:Q8) m:=evAt Tryz.prog env (ct m) J (m+1) 41 5 Tryz.f41 d29
theorem Pm m a0:e29 jn m [] [] ⟨[.dat 26 (.lst a0)],[],0⟩=aM (m+1) a0:=
 tq (g:=fun J=>aM (m+1) a0) (by rfl)
def e13 (J:Q10) m:=evAt Tryz.prog env (ct m) J (m+1) 22 8 Tryz.f22 d13
def l13 (J:Q10) m:=loopAt Tryz.prog env (ct m) J (m+1) 22 8 Tryz.f22 d13
theorem SV m a0:e13 jn m [] [] ⟨[.dat 73 a0],[],0⟩=fG (m+1) a0:=
 tq (g:=fun J=>fG (m+1) a0) (by rfl)
def aOG:List Nat:=[1,1,1,0,1]
def atT:List Nat:=[1,1,1,0,1,0]
def aEu:List Nat:=atT++[0,1,1]
def aOH:List Nat:=aEu++[1]
def e12 (J:Q8) m:=evAt Tryz.prog env (ct m) J (m+1) 21 29 Tryz.f21 d12
def l12 (J:Q8) m:=loopAt Tryz.prog env (ct m) J (m+1) 21 29 Tryz.f21 d12
def XT x0 x1 x2 x3:=stO [(1,.fn 22 []),(5,.row 0),tsL 14 40 x0,tsI 15 x1,tsI 16 x2] [.row 40 x3]
def aOI x0:=stO [(5,.row 0)] [.row 40 x0]
def aOJ x0:=stO [tsL 0 40 x0,(1,.fn 22 [])] []
abbrev aOK (m M2:Nat) (rec2:Q5):Prop:=∀x0 x1 x2 x3,l12 jn m atT [] M2 (XT x0 x1 x2 x3)=rec2 x0 x1 x2 x3
theorem aBK m M2 rec2 (h2:aOK m M2 rec2) x0 x1 x2 x3:e12 jn m aOH [M2] (XT x0 x1 x2 x3)=amr m rec2 x0 x1 x2 x3:=
 tq (g:=fun J=>(jj J 1 5 M2 (XT x0 x1 (IntKind.wrap .i64 (x2+1)) x3) (l12 J m atT [] M2))) (by simp only[ah,h2];rfl)
theorem aBL m M2 rec2 (h2:aOK m M2 rec2) x0 x1 x2 x3:e12 jn m aEu [M2] (XT x0 x1 x2 x3)=ams m rec2 x0 x1 x2 x3:=
 tq (g:=fun J=>aeK (fun y0 y1 y2 y3=>jj J 0 8 0 (XT y0 y1 y2 y3) (e12 J m aOH [M2])) m x0 x1 x2 x3) (by simp only[ah,aBK m M2 rec2 h2];rfl)
theorem aBM m x0:e12 jn m [1,1,1,1] [] (aOI x0)=amt m x0:=
 tq (g:=fun J=>some x0) (by rfl)
theorem aqo m:∀M2 x0 x1 x2 x3,l12 jn m atT [] M2 (XT x0 x1 x2 x3)=aaW m M2 x0 x1 x2 x3
 |0,_,_,_,_=>rfl
 | M2+1,x0,x1,x2,x3=>
   tl (g:=fun J=>(bif (decide (x2<x1)) then
  (jj J 0 6 0 (XT x0 x1 x2 x3) (e12 J m aEu [M2]))
   else
  (jj J 0 9 0 (aOI x3) (e12 J m [1,1,1,1] [])))) (by simp only[ah,aBL m M2 (aaW m M2) (aqo m M2),aBM m];rfl)
theorem aBN m x0 x1 x2 x3:e12 jn m aOG [] (XT x0 x1 x2 x3)=amu m x0 x1 x2 x3:=
 tq (g:=fun J=>(jj J 1 5 (Nat.succ m) (XT x0 x1 x2 x3) (l12 J m atT [] (Nat.succ m)))) (by simp only[ah,aqo m];rfl)
theorem aBO m x0:e12 jn m [1,1] [] (aOJ x0)=amv m x0:=
 tq (g:=fun J=>aeL (fun y0 y1 y2 y3=>jj J 0 5 0 (XT y0 y1 y2 y3) (e12 J m aOG [])) x0) (by simp only[ah,aBN m];rfl)
theorem aT6 m a0:e12 jn m [] [] ⟨[.dat 40 (.lst a0),.fn 22 []],[],0⟩=i12 (m+1) a0:=
 tq (g:=fun J=>(bif ((List.length a0:Int)==0) then
  some []
   else
  (jj J 0 3 0 (aOJ a0) (e12 J m [1,1] [])))) (by simp only[ah,aBO m];rfl)
def e30 (J:Q10) m:=evAt Tryz.prog env (ct m) J (m+1) 42 12 Tryz.f42 d30
theorem SX m a0:e30 jn m [] [] ⟨[.dat 30 a0],[],0⟩=aS (m+1) a0:=
 tq (g:=fun J=>aS (m+1) a0) (by rfl)
def aOL:List Nat:=[1,1,1,0,1]
def atU:List Nat:=[1,1,1,0,1,0]
def aEv:List Nat:=atU++[0,1,1]
def aOM:List Nat:=aEv++[1]
def e31 (J:Q8) m:=evAt Tryz.prog env (ct m) J (m+1) 43 29 Tryz.f43 d31
def l31 (J:Q8) m:=loopAt Tryz.prog env (ct m) J (m+1) 43 29 Tryz.f43 d31
def XU x0 x1 x2 x3:=stO [(1,.fn 42 []),(5,.row 0),tsL 14 27 x0,tsI 15 x1,tsI 16 x2] [.row 27 x3]
def aON x0:=stO [(5,.row 0)] [.row 27 x0]
def aOO x0:=stO [tsL 0 27 x0,(1,.fn 42 [])] []
abbrev aOP (m M2:Nat) (rec2:Q5):Prop:=∀x0 x1 x2 x3,l31 jn m atU [] M2 (XU x0 x1 x2 x3)=rec2 x0 x1 x2 x3
theorem aBP m M2 rec2 (h2:aOP m M2 rec2) x0 x1 x2 x3:e31 jn m aOM [M2] (XU x0 x1 x2 x3)=amw m (aS m) rec2 x0 x1 x2 x3:=
 tq (g:=fun J=>(jj J 1 5 M2 (XU x0 x1 (IntKind.wrap .i64 (x2+1)) x3) (l31 J m atU [] M2))) (by simp only[ah,h2];rfl)
theorem aBQ m M2 rec2 (h2:aOP m M2 rec2) x0 x1 x2 x3:e31 jn m aEv [M2] (XU x0 x1 x2 x3)=amx m (aS m) rec2 x0 x1 x2 x3:=
 tq (g:=fun J=>aeM (fun y0 y1 y2 y3=>jj J 0 8 0 (XU y0 y1 y2 y3) (e31 J m aOM [M2])) (aS m) x0 x1 x2 x3) (by simp only[ah,aBP m M2 rec2 h2];rfl)
theorem aBR m x0:e31 jn m [1,1,1,1] [] (aON x0)=amy m (aS m) x0:=
 tq (g:=fun J=>some x0) (by rfl)
theorem aqp m:∀M2 x0 x1 x2 x3,l31 jn m atU [] M2 (XU x0 x1 x2 x3)=aaX m (aS m) M2 x0 x1 x2 x3
 |0,_,_,_,_=>rfl
 | M2+1,x0,x1,x2,x3=>
   tl (g:=fun J=>(bif (decide (x2<x1)) then
  (jj J 0 6 0 (XU x0 x1 x2 x3) (e31 J m aEv [M2]))
   else
  (jj J 0 9 0 (aON x3) (e31 J m [1,1,1,1] [])))) (by simp only[ah,aBQ m M2 (aaX m (aS m) M2) (aqp m M2),aBR m];rfl)
theorem aBS m x0 x1 x2 x3:e31 jn m aOL [] (XU x0 x1 x2 x3)=amz m (aS m) x0 x1 x2 x3:=
 tq (g:=fun J=>(jj J 1 5 (Nat.succ m) (XU x0 x1 x2 x3) (l31 J m atU [] (Nat.succ m)))) (by simp only[ah,aqp m];rfl)
theorem aBT m x0:e31 jn m [1,1] [] (aOO x0)=amA m (aS m) x0:=
 tq (g:=fun J=>aeN (fun y0 y1 y2 y3=>jj J 0 5 0 (XU y0 y1 y2 y3) (e31 J m aOL [])) x0) (by simp only[ah,aBS m];rfl)
theorem aT7 m a0:e31 jn m [] [] ⟨[.dat 27 (.lst a0),.fn 42 []],[],0⟩=i31 (m+1) a0:=
 tq (g:=fun J=>(bif ((List.length a0:Int)==0) then
  some []
   else
  (jj J 0 3 0 (aOO a0) (e31 J m [1,1] [])))) (by simp only[ah,aBT m];rfl)
def aOQ:List Nat:=[1,1,1,0,1]
def atV:List Nat:=[1,1,1,0,1,0]
def aEw:List Nat:=atV++[0,1,1]
def aOR:List Nat:=aEw++[1]
def e79 (J:Q8) m:=evAt Tryz.prog env (ct m) J (m+1) 98 29 Tryz.f98 d79
def l79 (J:Q8) m:=loopAt Tryz.prog env (ct m) J (m+1) 98 29 Tryz.f98 d79
def XV x0 x1 x2 x3:=stO [(1,.fn 99 []),(5,.row 0),tsL 14 28 x0,tsI 15 x1,tsI 16 x2] [.row 28 x3]
def aOS x0:=stO [(5,.row 0)] [.row 28 x0]
def aOT x0:=stO [tsL 0 28 x0,(1,.fn 99 [])] []
abbrev aOU (m M2:Nat) (rec2:Q5):Prop:=∀x0 x1 x2 x3,l79 jn m atV [] M2 (XV x0 x1 x2 x3)=rec2 x0 x1 x2 x3
theorem aBU m M2 rec2 (h2:aOU m M2 rec2) x0 x1 x2 x3:e79 jn m aOR [M2] (XV x0 x1 x2 x3)=amB m (bn m) rec2 x0 x1 x2 x3:=
 tq (g:=fun J=>(jj J 1 5 M2 (XV x0 x1 (IntKind.wrap .i64 (x2+1)) x3) (l79 J m atV [] M2))) (by simp only[ah,h2];rfl)
theorem aBV m M2 rec2 (h2:aOU m M2 rec2) x0 x1 x2 x3:e79 jn m aEw [M2] (XV x0 x1 x2 x3)=amC m (bn m) rec2 x0 x1 x2 x3:=
 tq (g:=fun J=>aeO (fun y0 y1 y2 y3=>jj J 0 8 0 (XV y0 y1 y2 y3) (e79 J m aOR [M2])) (bn m) x0 x1 x2 x3) (by simp only[ah,aBU m M2 rec2 h2];rfl)
theorem aBW m x0:e79 jn m [1,1,1,1] [] (aOS x0)=amD m (bn m) x0:=
 tq (g:=fun J=>some x0) (by rfl)
theorem aqr m:∀M2 x0 x1 x2 x3,l79 jn m atV [] M2 (XV x0 x1 x2 x3)=aaY m (bn m) M2 x0 x1 x2 x3
 |0,_,_,_,_=>rfl
 | M2+1,x0,x1,x2,x3=>
   tl (g:=fun J=>(bif (decide (x2<x1)) then
  (jj J 0 6 0 (XV x0 x1 x2 x3) (e79 J m aEw [M2]))
   else
  (jj J 0 9 0 (aOS x3) (e79 J m [1,1,1,1] [])))) (by simp only[ah,aBV m M2 (aaY m (bn m) M2) (aqr m M2),aBW m];rfl)
theorem aBX m x0 x1 x2 x3:e79 jn m aOQ [] (XV x0 x1 x2 x3)=amE m (bn m) x0 x1 x2 x3:=
 tq (g:=fun J=>(jj J 1 5 (Nat.succ m) (XV x0 x1 x2 x3) (l79 J m atV [] (Nat.succ m)))) (by simp only[ah,aqr m];rfl)
theorem aBY m x0:e79 jn m [1,1] [] (aOT x0)=amF m (bn m) x0:=
 tq (g:=fun J=>aeP (fun y0 y1 y2 y3=>jj J 0 5 0 (XV y0 y1 y2 y3) (e79 J m aOQ [])) x0) (by simp only[ah,aBX m];rfl)
theorem aT8 m a0:e79 jn m [] [] ⟨[.dat 28 (.lst a0),.fn 99 []],[],0⟩=i79 (m+1) a0:=
 tq (g:=fun J=>(bif ((List.length a0:Int)==0) then
  some []
   else
  (jj J 0 3 0 (aOT a0) (e79 J m [1,1] [])))) (by simp only[ah,aBY m];rfl)
def e80 (J:Q10) m:=evAt Tryz.prog env (ct m) J (m+1) 99 9 Tryz.f99 d80
theorem SY m a0:e80 jn m [] [] ⟨[.dat 156 a0],[],0⟩=bn (m+1) a0:=
 tq (g:=fun J=>bn (m+1) a0) (by rfl)
def e32 (J:Q10) m:=evAt Tryz.prog env (ct m) J (m+1) 44 8 Tryz.f44 d32
theorem S9 m a0:e32 jn m [] [] ⟨[.dat 33 a0],[],0⟩=dD (m+1) a0:=
 tq (g:=fun J=>dD (m+1) a0) (by rfl)
def e33 (J:Q10) m:=evAt Tryz.prog env (ct m) J (m+1) 45 20 Tryz.f45 d33
theorem WB m a0:e33 jn m [] [] ⟨[.dat 36 a0],[],0⟩=aK (m+1) a0:=
 tq (g:=fun J=>aK (m+1) a0) (by rfl)
def aOV:List Nat:=[1,1,1,0,1]
def atW:List Nat:=[1,1,1,0,1,0]
def aEx:List Nat:=atW++[0,1,1]
def aOW:List Nat:=aEx++[1]
def e81 (J:Q8) m:=evAt Tryz.prog env (ct m) J (m+1) 100 29 Tryz.f100 d81
def l81 (J:Q8) m:=loopAt Tryz.prog env (ct m) J (m+1) 100 29 Tryz.f100 d81
def XW x0 x1 x2 x3:=stO [(1,.fn 45 []),(5,.row 0),tsL 14 34 x0,tsI 15 x1,tsI 16 x2] [.row 34 x3]
def aOX x0:=stO [(5,.row 0)] [.row 34 x0]
def aOY x0:=stO [tsL 0 34 x0,(1,.fn 45 [])] []
abbrev aOZ (m M2:Nat) (rec2:Q5):Prop:=∀x0 x1 x2 x3,l81 jn m atW [] M2 (XW x0 x1 x2 x3)=rec2 x0 x1 x2 x3
theorem aBZ m M2 rec2 (h2:aOZ m M2 rec2) x0 x1 x2 x3:e81 jn m aOW [M2] (XW x0 x1 x2 x3)=amG m (aK m) rec2 x0 x1 x2 x3:=
 tq (g:=fun J=>(jj J 1 5 M2 (XW x0 x1 (IntKind.wrap .i64 (x2+1)) x3) (l81 J m atW [] M2))) (by simp only[ah,h2];rfl)
theorem aB0 m M2 rec2 (h2:aOZ m M2 rec2) x0 x1 x2 x3:e81 jn m aEx [M2] (XW x0 x1 x2 x3)=amH m (aK m) rec2 x0 x1 x2 x3:=
 tq (g:=fun J=>aeQ (fun y0 y1 y2 y3=>jj J 0 8 0 (XW y0 y1 y2 y3) (e81 J m aOW [M2])) (aK m) x0 x1 x2 x3) (by simp only[ah,aBZ m M2 rec2 h2];rfl)
theorem aB1 m x0:e81 jn m [1,1,1,1] [] (aOX x0)=amI m (aK m) x0:=
 tq (g:=fun J=>some x0) (by rfl)
theorem aqs m:∀M2 x0 x1 x2 x3,l81 jn m atW [] M2 (XW x0 x1 x2 x3)=aaZ m (aK m) M2 x0 x1 x2 x3
 |0,_,_,_,_=>rfl
 | M2+1,x0,x1,x2,x3=>
   tl (g:=fun J=>(bif (decide (x2<x1)) then
  (jj J 0 6 0 (XW x0 x1 x2 x3) (e81 J m aEx [M2]))
   else
  (jj J 0 9 0 (aOX x3) (e81 J m [1,1,1,1] [])))) (by simp only[ah,aB0 m M2 (aaZ m (aK m) M2) (aqs m M2),aB1 m];rfl)
theorem aB2 m x0 x1 x2 x3:e81 jn m aOV [] (XW x0 x1 x2 x3)=amJ m (aK m) x0 x1 x2 x3:=
 tq (g:=fun J=>(jj J 1 5 (Nat.succ m) (XW x0 x1 x2 x3) (l81 J m atW [] (Nat.succ m)))) (by simp only[ah,aqs m];rfl)
theorem aB3 m x0:e81 jn m [1,1] [] (aOY x0)=amK m (aK m) x0:=
 tq (g:=fun J=>aeR (fun y0 y1 y2 y3=>jj J 0 5 0 (XW y0 y1 y2 y3) (e81 J m aOV [])) x0) (by simp only[ah,aB2 m];rfl)
theorem aT9 m a0:e81 jn m [] [] ⟨[.dat 34 (.lst a0),.fn 45 []],[],0⟩=i81 (m+1) a0:=
 tq (g:=fun J=>(bif ((List.length a0:Int)==0) then
  some []
   else
  (jj J 0 3 0 (aOY a0) (e81 J m [1,1] [])))) (by simp only[ah,aB3 m];rfl)
def e11 (J:Q10) m:=evAt Tryz.prog env (ct m) J (m+1) 20 28 Tryz.f20 d9
theorem WC m a0:e11 jn m [] [] ⟨[.dat 39 a0],[],0⟩=aQ (m+1) a0:=
 tq (g:=fun J=>aQ (m+1) a0) (by rfl)
def aO0:List Nat:=[1,1,1,0,1]
def atX:List Nat:=[1,1,1,0,1,0]
def aEy:List Nat:=atX++[0,1,1]
def aO1:List Nat:=aEy++[1]
def e34 (J:Q8) m:=evAt Tryz.prog env (ct m) J (m+1) 46 29 Tryz.f46 d34
def l34 (J:Q8) m:=loopAt Tryz.prog env (ct m) J (m+1) 46 29 Tryz.f46 d34
def XY x0 x1 x2 x3:=stO [(1,.fn 20 []),(5,.row 0),tsL 14 37 x0,tsI 15 x1,tsI 16 x2] [.row 37 x3]
def aO2 x0:=stO [(5,.row 0)] [.row 37 x0]
def aO3 x0:=stO [tsL 0 37 x0,(1,.fn 20 [])] []
abbrev aO4 (m M2:Nat) (rec2:Q5):Prop:=∀x0 x1 x2 x3,l34 jn m atX [] M2 (XY x0 x1 x2 x3)=rec2 x0 x1 x2 x3
theorem aB4 m M2 rec2 (h2:aO4 m M2 rec2) x0 x1 x2 x3:e34 jn m aO1 [M2] (XY x0 x1 x2 x3)=amL m (aQ m) rec2 x0 x1 x2 x3:=
 tq (g:=fun J=>(jj J 1 5 M2 (XY x0 x1 (IntKind.wrap .i64 (x2+1)) x3) (l34 J m atX [] M2))) (by simp only[ah,h2];rfl)
theorem aB5 m M2 rec2 (h2:aO4 m M2 rec2) x0 x1 x2 x3:e34 jn m aEy [M2] (XY x0 x1 x2 x3)=amM m (aQ m) rec2 x0 x1 x2 x3:=
 tq (g:=fun J=>aeS (fun y0 y1 y2 y3=>jj J 0 8 0 (XY y0 y1 y2 y3) (e34 J m aO1 [M2])) (aQ m) x0 x1 x2 x3) (by simp only[ah,aB4 m M2 rec2 h2];rfl)
theorem aB6 m x0:e34 jn m [1,1,1,1] [] (aO2 x0)=amN m (aQ m) x0:=
 tq (g:=fun J=>some x0) (by rfl)
theorem aqt m:∀M2 x0 x1 x2 x3,l34 jn m atX [] M2 (XY x0 x1 x2 x3)=aa0 m (aQ m) M2 x0 x1 x2 x3
 |0,_,_,_,_=>rfl
 | M2+1,x0,x1,x2,x3=>
   tl (g:=fun J=>(bif (decide (x2<x1)) then
  (jj J 0 6 0 (XY x0 x1 x2 x3) (e34 J m aEy [M2]))
   else
  (jj J 0 9 0 (aO2 x3) (e34 J m [1,1,1,1] [])))) (by simp only[ah,aB5 m M2 (aa0 m (aQ m) M2) (aqt m M2),aB6 m];rfl)
theorem aB7 m x0 x1 x2 x3:e34 jn m aO0 [] (XY x0 x1 x2 x3)=amO m (aQ m) x0 x1 x2 x3:=
 tq (g:=fun J=>(jj J 1 5 (Nat.succ m) (XY x0 x1 x2 x3) (l34 J m atX [] (Nat.succ m)))) (by simp only[ah,aqt m];rfl)
theorem aB8 m x0:e34 jn m [1,1] [] (aO3 x0)=amP m (aQ m) x0:=
 tq (g:=fun J=>aeT (fun y0 y1 y2 y3=>jj J 0 5 0 (XY y0 y1 y2 y3) (e34 J m aO0 [])) x0) (by simp only[ah,aB7 m];rfl)
theorem aUa m a0:e34 jn m [] [] ⟨[.dat 37 (.lst a0),.fn 20 []],[],0⟩=i34 (m+1) a0:=
 tq (g:=fun J=>(bif ((List.length a0:Int)==0) then
  some []
   else
  (jj J 0 3 0 (aO3 a0) (e34 J m [1,1] [])))) (by simp only[ah,aB8 m];rfl)
def aO5:List Nat:=[1,1,1,0,1]
def atY:List Nat:=[1,1,1,0,1,0]
def aEz:List Nat:=atY++[0,1,1]
def aO6:List Nat:=aEz++[1]
def e35 (J:Q8) m:=evAt Tryz.prog env (ct m) J (m+1) 47 29 Tryz.f47 d35
def l35 (J:Q8) m:=loopAt Tryz.prog env (ct m) J (m+1) 47 29 Tryz.f47 d35
def XZ x0 x1 x2 x3:=stO [(1,.fn 41 []),(5,.row 0),tsL 14 41 x0,tsI 15 x1,tsI 16 x2] [.row 41 x3]
def aO7 x0:=stO [(5,.row 0)] [.row 41 x0]
def aO8 x0:=stO [tsL 0 41 x0,(1,.fn 41 [])] []
abbrev aO9 (m M2:Nat) (rec2:Q5):Prop:=∀x0 x1 x2 x3,l35 jn m atY [] M2 (XZ x0 x1 x2 x3)=rec2 x0 x1 x2 x3
theorem aB9 m M2 rec2 (h2:aO9 m M2 rec2) x0 x1 x2 x3:e35 jn m aO6 [M2] (XZ x0 x1 x2 x3)=amQ m rec2 x0 x1 x2 x3:=
 tq (g:=fun J=>(jj J 1 5 M2 (XZ x0 x1 (IntKind.wrap .i64 (x2+1)) x3) (l35 J m atY [] M2))) (by simp only[ah,h2];rfl)
theorem aCa m M2 rec2 (h2:aO9 m M2 rec2) x0 x1 x2 x3:e35 jn m aEz [M2] (XZ x0 x1 x2 x3)=amR m rec2 x0 x1 x2 x3:=
 tq (g:=fun J=>aeU (fun y0 y1 y2 y3=>jj J 0 8 0 (XZ y0 y1 y2 y3) (e35 J m aO6 [M2])) m x0 x1 x2 x3) (by simp only[ah,aB9 m M2 rec2 h2];rfl)
theorem aCb m x0:e35 jn m [1,1,1,1] [] (aO7 x0)=amS m x0:=
 tq (g:=fun J=>some x0) (by rfl)
theorem aqu m:∀M2 x0 x1 x2 x3,l35 jn m atY [] M2 (XZ x0 x1 x2 x3)=aa1 m M2 x0 x1 x2 x3
 |0,_,_,_,_=>rfl
 | M2+1,x0,x1,x2,x3=>
   tl (g:=fun J=>(bif (decide (x2<x1)) then
  (jj J 0 6 0 (XZ x0 x1 x2 x3) (e35 J m aEz [M2]))
   else
  (jj J 0 9 0 (aO7 x3) (e35 J m [1,1,1,1] [])))) (by simp only[ah,aCa m M2 (aa1 m M2) (aqu m M2),aCb m];rfl)
theorem aCc m x0 x1 x2 x3:e35 jn m aO5 [] (XZ x0 x1 x2 x3)=amT m x0 x1 x2 x3:=
 tq (g:=fun J=>(jj J 1 5 (Nat.succ m) (XZ x0 x1 x2 x3) (l35 J m atY [] (Nat.succ m)))) (by simp only[ah,aqu m];rfl)
theorem aCd m x0:e35 jn m [1,1] [] (aO8 x0)=amU m x0:=
 tq (g:=fun J=>aeV (fun y0 y1 y2 y3=>jj J 0 5 0 (XZ y0 y1 y2 y3) (e35 J m aO5 [])) x0) (by simp only[ah,aCc m];rfl)
theorem aUb m a0:e35 jn m [] [] ⟨[.dat 41 (.lst a0),.fn 41 []],[],0⟩=i35 (m+1) a0:=
 tq (g:=fun J=>(bif ((List.length a0:Int)==0) then
  some []
   else
  (jj J 0 3 0 (aO8 a0) (e35 J m [1,1] [])))) (by simp only[ah,aCd m];rfl)
def e37 (J:Q10) m:=evAt Tryz.prog env (ct m) J (m+1) 49 8 Tryz.f49 d37
theorem Ta m a0:e37 jn m [] [] ⟨[.dat 106 a0],[],0⟩=fH (m+1) a0:=
 tq (g:=fun J=>fH (m+1) a0) (by rfl)
def aPa:List Nat:=[1,1,1,0,1]
def atZ:List Nat:=[1,1,1,0,1,0]
def aEA:List Nat:=atZ++[0,1,1]
def aPb:List Nat:=aEA++[1]
def e36 (J:Q8) m:=evAt Tryz.prog env (ct m) J (m+1) 48 29 Tryz.f48 d36
def l36 (J:Q8) m:=loopAt Tryz.prog env (ct m) J (m+1) 48 29 Tryz.f48 d36
def X0 x0 x1 x2 x3:=stO [(1,.fn 49 []),(5,.row 0),tsL 14 42 x0,tsI 15 x1,tsI 16 x2] [.row 42 x3]
def aPc x0:=stO [(5,.row 0)] [.row 42 x0]
def aPd x0:=stO [tsL 0 42 x0,(1,.fn 49 [])] []
abbrev aPe (m M2:Nat) (rec2:Q5):Prop:=∀x0 x1 x2 x3,l36 jn m atZ [] M2 (X0 x0 x1 x2 x3)=rec2 x0 x1 x2 x3
theorem aCe m M2 rec2 (h2:aPe m M2 rec2) x0 x1 x2 x3:e36 jn m aPb [M2] (X0 x0 x1 x2 x3)=amV m rec2 x0 x1 x2 x3:=
 tq (g:=fun J=>(jj J 1 5 M2 (X0 x0 x1 (IntKind.wrap .i64 (x2+1)) x3) (l36 J m atZ [] M2))) (by simp only[ah,h2];rfl)
theorem aCf m M2 rec2 (h2:aPe m M2 rec2) x0 x1 x2 x3:e36 jn m aEA [M2] (X0 x0 x1 x2 x3)=amW m rec2 x0 x1 x2 x3:=
 tq (g:=fun J=>aeW (fun y0 y1 y2 y3=>jj J 0 8 0 (X0 y0 y1 y2 y3) (e36 J m aPb [M2])) m x0 x1 x2 x3) (by simp only[ah,aCe m M2 rec2 h2];rfl)
theorem aCg m x0:e36 jn m [1,1,1,1] [] (aPc x0)=amX m x0:=
 tq (g:=fun J=>some x0) (by rfl)
theorem aqv m:∀M2 x0 x1 x2 x3,l36 jn m atZ [] M2 (X0 x0 x1 x2 x3)=aa2 m M2 x0 x1 x2 x3
 |0,_,_,_,_=>rfl
 | M2+1,x0,x1,x2,x3=>
   tl (g:=fun J=>(bif (decide (x2<x1)) then
  (jj J 0 6 0 (X0 x0 x1 x2 x3) (e36 J m aEA [M2]))
   else
  (jj J 0 9 0 (aPc x3) (e36 J m [1,1,1,1] [])))) (by simp only[ah,aCf m M2 (aa2 m M2) (aqv m M2),aCg m];rfl)
theorem aCh m x0 x1 x2 x3:e36 jn m aPa [] (X0 x0 x1 x2 x3)=amY m x0 x1 x2 x3:=
 tq (g:=fun J=>(jj J 1 5 (Nat.succ m) (X0 x0 x1 x2 x3) (l36 J m atZ [] (Nat.succ m)))) (by simp only[ah,aqv m];rfl)
theorem aCi m x0:e36 jn m [1,1] [] (aPd x0)=amZ m x0:=
 tq (g:=fun J=>aeX (fun y0 y1 y2 y3=>jj J 0 5 0 (X0 y0 y1 y2 y3) (e36 J m aPa [])) x0) (by simp only[ah,aCh m];rfl)
theorem aUc m a0:e36 jn m [] [] ⟨[.dat 42 (.lst a0),.fn 49 []],[],0⟩=i36 (m+1) a0:=
 tq (g:=fun J=>(bif ((List.length a0:Int)==0) then
  some []
   else
  (jj J 0 3 0 (aPd a0) (e36 J m [1,1] [])))) (by simp only[ah,aCi m];rfl)
def e39 (J:Q10) m:=evAt Tryz.prog env (ct m) J (m+1) 51 10 Tryz.f51 d39
theorem Od m a0:e39 jn m [] [] ⟨[.dat 110 a0],[],0⟩=dH (m+1) a0:=
 tq (g:=fun J=>dH (m+1) a0) (by rfl)
def aPf:List Nat:=[1,1,1,0,1]
def at0:List Nat:=[1,1,1,0,1,0]
def aEB:List Nat:=at0++[0,1,1]
def aPg:List Nat:=aEB++[1]
def e38 (J:Q8) m:=evAt Tryz.prog env (ct m) J (m+1) 50 29 Tryz.f50 d38
def l38 (J:Q8) m:=loopAt Tryz.prog env (ct m) J (m+1) 50 29 Tryz.f50 d38
def X3 x0 x1 x2 x3:=stO [(1,.fn 51 []),(5,.row 0),tsL 14 43 x0,tsI 15 x1,tsI 16 x2] [.row 43 x3]
def aPh x0:=stO [(5,.row 0)] [.row 43 x0]
def aPi x0:=stO [tsL 0 43 x0,(1,.fn 51 [])] []
abbrev aPj (m M2:Nat) (rec2:Q5):Prop:=∀x0 x1 x2 x3,l38 jn m at0 [] M2 (X3 x0 x1 x2 x3)=rec2 x0 x1 x2 x3
theorem aCj m M2 rec2 (h2:aPj m M2 rec2) x0 x1 x2 x3:e38 jn m aPg [M2] (X3 x0 x1 x2 x3)=am0 m rec2 x0 x1 x2 x3:=
 tq (g:=fun J=>(jj J 1 5 M2 (X3 x0 x1 (IntKind.wrap .i64 (x2+1)) x3) (l38 J m at0 [] M2))) (by simp only[ah,h2];rfl)
theorem aCk m M2 rec2 (h2:aPj m M2 rec2) x0 x1 x2 x3:e38 jn m aEB [M2] (X3 x0 x1 x2 x3)=am1 m rec2 x0 x1 x2 x3:=
 tq (g:=fun J=>aeY (fun y0 y1 y2 y3=>jj J 0 8 0 (X3 y0 y1 y2 y3) (e38 J m aPg [M2])) m x0 x1 x2 x3) (by simp only[ah,aCj m M2 rec2 h2];rfl)
theorem aCl m x0:e38 jn m [1,1,1,1] [] (aPh x0)=am2 m x0:=
 tq (g:=fun J=>some x0) (by rfl)
theorem aqw m:∀M2 x0 x1 x2 x3,l38 jn m at0 [] M2 (X3 x0 x1 x2 x3)=aa3 m M2 x0 x1 x2 x3
 |0,_,_,_,_=>rfl
 | M2+1,x0,x1,x2,x3=>
   tl (g:=fun J=>(bif (decide (x2<x1)) then
  (jj J 0 6 0 (X3 x0 x1 x2 x3) (e38 J m aEB [M2]))
   else
  (jj J 0 9 0 (aPh x3) (e38 J m [1,1,1,1] [])))) (by simp only[ah,aCk m M2 (aa3 m M2) (aqw m M2),aCl m];rfl)
theorem aCm m x0 x1 x2 x3:e38 jn m aPf [] (X3 x0 x1 x2 x3)=am3 m x0 x1 x2 x3:=
 tq (g:=fun J=>(jj J 1 5 (Nat.succ m) (X3 x0 x1 x2 x3) (l38 J m at0 [] (Nat.succ m)))) (by simp only[ah,aqw m];rfl)
theorem aCn m x0:e38 jn m [1,1] [] (aPi x0)=am4 m x0:=
 tq (g:=fun J=>aeZ (fun y0 y1 y2 y3=>jj J 0 5 0 (X3 y0 y1 y2 y3) (e38 J m aPf [])) x0) (by simp only[ah,aCm m];rfl)
theorem aUd m a0:e38 jn m [] [] ⟨[.dat 43 (.lst a0),.fn 51 []],[],0⟩=i38 (m+1) a0:=
 tq (g:=fun J=>(bif ((List.length a0:Int)==0) then
  some []
   else
  (jj J 0 3 0 (aPi a0) (e38 J m [1,1] [])))) (by simp only[ah,aCn m];rfl)
def e14 (J:Q10) m:=evAt Tryz.prog env (ct m) J (m+1) 23 16 Tryz.f23 d14
def l14 (J:Q10) m:=loopAt Tryz.prog env (ct m) J (m+1) 23 16 Tryz.f23 d14
theorem Pn m a0:e14 jn m [] [] ⟨[.dat 45 a0],[],0⟩=bW (m+1) a0:=
 tq (g:=fun J=>bW (m+1) a0) (by rfl)
def e41 (J:Q10) m:=evAt Tryz.prog env (ct m) J (m+1) 53 12 Tryz.f53 d41
theorem Zl m a0:e41 jn m [] [] ⟨[.dat 114 a0],[],0⟩=iC (m+1) a0:=
 tq (g:=fun J=>iC (m+1) a0) (by rfl)
def aPk:List Nat:=[1,1,1,0,1]
def at1:List Nat:=[1,1,1,0,1,0]
def aEC:List Nat:=at1++[0,1,1]
def aPl:List Nat:=aEC++[1]
def e40 (J:Q8) m:=evAt Tryz.prog env (ct m) J (m+1) 52 29 Tryz.f52 d40
def l40 (J:Q8) m:=loopAt Tryz.prog env (ct m) J (m+1) 52 29 Tryz.f52 d40
def X4 x0 x1 x2 x3:=stO [(1,.fn 53 []),(5,.row 0),tsL 14 59 x0,tsI 15 x1,tsI 16 x2] [.row 59 x3]
def aPm x0:=stO [(5,.row 0)] [.row 59 x0]
def aPn x0:=stO [tsL 0 59 x0,(1,.fn 53 [])] []
abbrev aPo (m M2:Nat) (rec2:Q5):Prop:=∀x0 x1 x2 x3,l40 jn m at1 [] M2 (X4 x0 x1 x2 x3)=rec2 x0 x1 x2 x3
theorem aCo m M2 rec2 (h2:aPo m M2 rec2) x0 x1 x2 x3:e40 jn m aPl [M2] (X4 x0 x1 x2 x3)=am5 m rec2 x0 x1 x2 x3:=
 tq (g:=fun J=>(jj J 1 5 M2 (X4 x0 x1 (IntKind.wrap .i64 (x2+1)) x3) (l40 J m at1 [] M2))) (by simp only[ah,h2];rfl)
theorem aCp m M2 rec2 (h2:aPo m M2 rec2) x0 x1 x2 x3:e40 jn m aEC [M2] (X4 x0 x1 x2 x3)=am6 m rec2 x0 x1 x2 x3:=
 tq (g:=fun J=>ae0 (fun y0 y1 y2 y3=>jj J 0 8 0 (X4 y0 y1 y2 y3) (e40 J m aPl [M2])) m x0 x1 x2 x3) (by simp only[ah,aCo m M2 rec2 h2];rfl)
theorem aCq m x0:e40 jn m [1,1,1,1] [] (aPm x0)=am7 m x0:=
 tq (g:=fun J=>some x0) (by rfl)
theorem aqx m:∀M2 x0 x1 x2 x3,l40 jn m at1 [] M2 (X4 x0 x1 x2 x3)=aa4 m M2 x0 x1 x2 x3
 |0,_,_,_,_=>rfl
 | M2+1,x0,x1,x2,x3=>
   tl (g:=fun J=>(bif (decide (x2<x1)) then
  (jj J 0 6 0 (X4 x0 x1 x2 x3) (e40 J m aEC [M2]))
   else
  (jj J 0 9 0 (aPm x3) (e40 J m [1,1,1,1] [])))) (by simp only[ah,aCp m M2 (aa4 m M2) (aqx m M2),aCq m];rfl)
theorem aCr m x0 x1 x2 x3:e40 jn m aPk [] (X4 x0 x1 x2 x3)=am8 m x0 x1 x2 x3:=
 tq (g:=fun J=>(jj J 1 5 (Nat.succ m) (X4 x0 x1 x2 x3) (l40 J m at1 [] (Nat.succ m)))) (by simp only[ah,aqx m];rfl)
theorem aCs m x0:e40 jn m [1,1] [] (aPn x0)=am9 m x0:=
 tq (g:=fun J=>ae1 (fun y0 y1 y2 y3=>jj J 0 5 0 (X4 y0 y1 y2 y3) (e40 J m aPk [])) x0) (by simp only[ah,aCr m];rfl)
theorem aUe m a0:e40 jn m [] [] ⟨[.dat 59 (.lst a0),.fn 53 []],[],0⟩=i40 (m+1) a0:=
 tq (g:=fun J=>(bif ((List.length a0:Int)==0) then
  some []
   else
  (jj J 0 3 0 (aPn a0) (e40 J m [1,1] [])))) (by simp only[ah,aCs m];rfl)
def e43 (J:Q10) m:=evAt Tryz.prog env (ct m) J (m+1) 55 8 Tryz.f55 d43
theorem Zm m a0:e43 jn m [] [] ⟨[.dat 118 a0],[],0⟩=iD (m+1) a0:=
 tq (g:=fun J=>iD (m+1) a0) (by rfl)
def aPp:List Nat:=[1,1,1,0,1]
def at5:List Nat:=[1,1,1,0,1,0]
def aED:List Nat:=at5++[0,1,1]
def aPq:List Nat:=aED++[1]
def e42 (J:Q8) m:=evAt Tryz.prog env (ct m) J (m+1) 54 29 Tryz.f54 d42
def l42 (J:Q8) m:=loopAt Tryz.prog env (ct m) J (m+1) 54 29 Tryz.f54 d42
def X5 x0 x1 x2 x3:=stO [(1,.fn 55 []),(5,.row 0),tsL 14 62 x0,tsI 15 x1,tsI 16 x2] [.row 62 x3]
def aPr x0:=stO [(5,.row 0)] [.row 62 x0]
def aPs x0:=stO [tsL 0 62 x0,(1,.fn 55 [])] []
abbrev aPt (m M2:Nat) (rec2:Q5):Prop:=∀x0 x1 x2 x3,l42 jn m at5 [] M2 (X5 x0 x1 x2 x3)=rec2 x0 x1 x2 x3
theorem aCt m M2 rec2 (h2:aPt m M2 rec2) x0 x1 x2 x3:e42 jn m aPq [M2] (X5 x0 x1 x2 x3)=ana m rec2 x0 x1 x2 x3:=
 tq (g:=fun J=>(jj J 1 5 M2 (X5 x0 x1 (IntKind.wrap .i64 (x2+1)) x3) (l42 J m at5 [] M2))) (by simp only[ah,h2];rfl)
theorem aCu m M2 rec2 (h2:aPt m M2 rec2) x0 x1 x2 x3:e42 jn m aED [M2] (X5 x0 x1 x2 x3)=anb m rec2 x0 x1 x2 x3:=
 tq (g:=fun J=>ae2 (fun y0 y1 y2 y3=>jj J 0 8 0 (X5 y0 y1 y2 y3) (e42 J m aPq [M2])) m x0 x1 x2 x3) (by simp only[ah,aCt m M2 rec2 h2];rfl)
theorem aCv m x0:e42 jn m [1,1,1,1] [] (aPr x0)=anc m x0:=
 tq (g:=fun J=>some x0) (by rfl)
theorem aqy m:∀M2 x0 x1 x2 x3,l42 jn m at5 [] M2 (X5 x0 x1 x2 x3)=aa5 m M2 x0 x1 x2 x3
 |0,_,_,_,_=>rfl
 | M2+1,x0,x1,x2,x3=>
   tl (g:=fun J=>(bif (decide (x2<x1)) then
  (jj J 0 6 0 (X5 x0 x1 x2 x3) (e42 J m aED [M2]))
   else
  (jj J 0 9 0 (aPr x3) (e42 J m [1,1,1,1] [])))) (by simp only[ah,aCu m M2 (aa5 m M2) (aqy m M2),aCv m];rfl)
theorem aCw m x0 x1 x2 x3:e42 jn m aPp [] (X5 x0 x1 x2 x3)=ane m x0 x1 x2 x3:=
 tq (g:=fun J=>(jj J 1 5 (Nat.succ m) (X5 x0 x1 x2 x3) (l42 J m at5 [] (Nat.succ m)))) (by simp only[ah,aqy m];rfl)
theorem aCx m x0:e42 jn m [1,1] [] (aPs x0)=anf m x0:=
 tq (g:=fun J=>ae3 (fun y0 y1 y2 y3=>jj J 0 5 0 (X5 y0 y1 y2 y3) (e42 J m aPp [])) x0) (by simp only[ah,aCw m];rfl)
theorem aUf m a0:e42 jn m [] [] ⟨[.dat 62 (.lst a0),.fn 55 []],[],0⟩=i42 (m+1) a0:=
 tq (g:=fun J=>(bif ((List.length a0:Int)==0) then
  some []
   else
  (jj J 0 3 0 (aPs a0) (e42 J m [1,1] [])))) (by simp only[ah,aCx m];rfl)
def aPu:List Nat:=[1,1,1,0,1]
def at6:List Nat:=[1,1,1,0,1,0]
def aEE:List Nat:=at6++[0,1,1]
def aPv:List Nat:=aEE++[1]
def e15 (J:Q8) m:=evAt Tryz.prog env (ct m) J (m+1) 24 29 Tryz.f24 d15
def l15 (J:Q8) m:=loopAt Tryz.prog env (ct m) J (m+1) 24 29 Tryz.f24 d15
def X6 x0 x1 x2 x3:=stO [(1,.fn 25 []),(5,.row 0),tsL 14 22 x0,tsI 15 x1,tsI 16 x2] [.row 22 x3]
def aPw x0:=stO [(5,.row 0)] [.row 22 x0]
def aPx x0:=stO [tsL 0 22 x0,(1,.fn 25 [])] []
abbrev aPy (m M2:Nat) (rec2:Q5):Prop:=∀x0 x1 x2 x3,l15 jn m at6 [] M2 (X6 x0 x1 x2 x3)=rec2 x0 x1 x2 x3
theorem aCy m M2 rec2 (h2:aPy m M2 rec2) x0 x1 x2 x3:e15 jn m aPv [M2] (X6 x0 x1 x2 x3)=ang m (aX m) rec2 x0 x1 x2 x3:=
 tq (g:=fun J=>(jj J 1 5 M2 (X6 x0 x1 (IntKind.wrap .i64 (x2+1)) x3) (l15 J m at6 [] M2))) (by simp only[ah,h2];rfl)
theorem aCz m M2 rec2 (h2:aPy m M2 rec2) x0 x1 x2 x3:e15 jn m aEE [M2] (X6 x0 x1 x2 x3)=anh m (aX m) rec2 x0 x1 x2 x3:=
 tq (g:=fun J=>ae4 (fun y0 y1 y2 y3=>jj J 0 8 0 (X6 y0 y1 y2 y3) (e15 J m aPv [M2])) (aX m) x0 x1 x2 x3) (by simp only[ah,aCy m M2 rec2 h2];rfl)
theorem aCA m x0:e15 jn m [1,1,1,1] [] (aPw x0)=ani m (aX m) x0:=
 tq (g:=fun J=>some x0) (by rfl)
theorem aqz m:∀M2 x0 x1 x2 x3,l15 jn m at6 [] M2 (X6 x0 x1 x2 x3)=aa6 m (aX m) M2 x0 x1 x2 x3
 |0,_,_,_,_=>rfl
 | M2+1,x0,x1,x2,x3=>
   tl (g:=fun J=>(bif (decide (x2<x1)) then
  (jj J 0 6 0 (X6 x0 x1 x2 x3) (e15 J m aEE [M2]))
   else
  (jj J 0 9 0 (aPw x3) (e15 J m [1,1,1,1] [])))) (by simp only[ah,aCz m M2 (aa6 m (aX m) M2) (aqz m M2),aCA m];rfl)
theorem aCB m x0 x1 x2 x3:e15 jn m aPu [] (X6 x0 x1 x2 x3)=anj m (aX m) x0 x1 x2 x3:=
 tq (g:=fun J=>(jj J 1 5 (Nat.succ m) (X6 x0 x1 x2 x3) (l15 J m at6 [] (Nat.succ m)))) (by simp only[ah,aqz m];rfl)
theorem aCC m x0:e15 jn m [1,1] [] (aPx x0)=ank m (aX m) x0:=
 tq (g:=fun J=>ae5 (fun y0 y1 y2 y3=>jj J 0 5 0 (X6 y0 y1 y2 y3) (e15 J m aPu [])) x0) (by simp only[ah,aCB m];rfl)
theorem aUg m a0:e15 jn m [] [] ⟨[.dat 22 (.lst a0),.fn 25 []],[],0⟩=i15 (m+1) a0:=
 tq (g:=fun J=>(bif ((List.length a0:Int)==0) then
  some []
   else
  (jj J 0 3 0 (aPx a0) (e15 J m [1,1] [])))) (by simp only[ah,aCC m];rfl)
def e16 (J:Q10) m:=evAt Tryz.prog env (ct m) J (m+1) 25 94 Tryz.f25 d16
theorem Tc m a0:e16 jn m [] [] ⟨[.dat 71 a0],[],0⟩=aX (m+1) a0:=
 tq (g:=fun J=>aX (m+1) a0) (by rfl)
def aPz:List Nat:=[1,1,1,0,1]
def at7:List Nat:=[1,1,1,0,1,0]
def aEF:List Nat:=at7++[0,1,1]
def aPA:List Nat:=aEF++[1]
def e44 (J:Q8) m:=evAt Tryz.prog env (ct m) J (m+1) 56 29 Tryz.f56 d44
def l44 (J:Q8) m:=loopAt Tryz.prog env (ct m) J (m+1) 56 29 Tryz.f56 d44
def X7 x0 x1 x2 x3:=stO [(1,.fn 57 []),(5,.row 0),tsL 14 67 x0,tsI 15 x1,tsI 16 x2] [.row 67 x3]
def aPB x0:=stO [(5,.row 0)] [.row 67 x0]
def aPC x0:=stO [tsL 0 67 x0,(1,.fn 57 [])] []
abbrev aPD (m M2:Nat) (rec2:Q5):Prop:=∀x0 x1 x2 x3,l44 jn m at7 [] M2 (X7 x0 x1 x2 x3)=rec2 x0 x1 x2 x3
theorem aCD m M2 rec2 (h2:aPD m M2 rec2) x0 x1 x2 x3:e44 jn m aPA [M2] (X7 x0 x1 x2 x3)=anl m (aZ m) rec2 x0 x1 x2 x3:=
 tq (g:=fun J=>(jj J 1 5 M2 (X7 x0 x1 (IntKind.wrap .i64 (x2+1)) x3) (l44 J m at7 [] M2))) (by simp only[ah,h2];rfl)
theorem aCE m M2 rec2 (h2:aPD m M2 rec2) x0 x1 x2 x3:e44 jn m aEF [M2] (X7 x0 x1 x2 x3)=anm m (aZ m) rec2 x0 x1 x2 x3:=
 tq (g:=fun J=>ae6 (fun y0 y1 y2 y3=>jj J 0 8 0 (X7 y0 y1 y2 y3) (e44 J m aPA [M2])) (aZ m) x0 x1 x2 x3) (by simp only[ah,aCD m M2 rec2 h2];rfl)
theorem aCF m x0:e44 jn m [1,1,1,1] [] (aPB x0)=ano m (aZ m) x0:=
 tq (g:=fun J=>some x0) (by rfl)
theorem aqA m:∀M2 x0 x1 x2 x3,l44 jn m at7 [] M2 (X7 x0 x1 x2 x3)=aa7 m (aZ m) M2 x0 x1 x2 x3
 |0,_,_,_,_=>rfl
 | M2+1,x0,x1,x2,x3=>
   tl (g:=fun J=>(bif (decide (x2<x1)) then
  (jj J 0 6 0 (X7 x0 x1 x2 x3) (e44 J m aEF [M2]))
   else
  (jj J 0 9 0 (aPB x3) (e44 J m [1,1,1,1] [])))) (by simp only[ah,aCE m M2 (aa7 m (aZ m) M2) (aqA m M2),aCF m];rfl)
theorem aCG m x0 x1 x2 x3:e44 jn m aPz [] (X7 x0 x1 x2 x3)=anp m (aZ m) x0 x1 x2 x3:=
 tq (g:=fun J=>(jj J 1 5 (Nat.succ m) (X7 x0 x1 x2 x3) (l44 J m at7 [] (Nat.succ m)))) (by simp only[ah,aqA m];rfl)
theorem aCH m x0:e44 jn m [1,1] [] (aPC x0)=anq m (aZ m) x0:=
 tq (g:=fun J=>ae7 (fun y0 y1 y2 y3=>jj J 0 5 0 (X7 y0 y1 y2 y3) (e44 J m aPz [])) x0) (by simp only[ah,aCG m];rfl)
theorem aUh m a0:e44 jn m [] [] ⟨[.dat 67 (.lst a0),.fn 57 []],[],0⟩=i44 (m+1) a0:=
 tq (g:=fun J=>(bif ((List.length a0:Int)==0) then
  some []
   else
  (jj J 0 3 0 (aPC a0) (e44 J m [1,1] [])))) (by simp only[ah,aCH m];rfl)
def e45 (J:Q10) m:=evAt Tryz.prog env (ct m) J (m+1) 57 8 Tryz.f57 d45
theorem Td m a0:e45 jn m [] [] ⟨[.dat 122 a0],[],0⟩=aZ (m+1) a0:=
 tq (g:=fun J=>aZ (m+1) a0) (by rfl)
def aPE:List Nat:=[1,1,1,0,1]
def aua:List Nat:=[1,1,1,0,1,0]
def aEG:List Nat:=aua++[0,1]
def aPF:List Nat:=aEG++[1]
def e46 (J:Q1) m:=evAt Tryz.prog env (ct m) J (m+1) 58 37 Tryz.f58 d7
def l46 (J:Q1) m:=loopAt Tryz.prog env (ct m) J (m+1) 58 37 Tryz.f58 d7
def X8 x0 x1 x2 x3:=stO [tsI 1 x0,tsI 2 x1,tsP 3 0,tsI 7 x2] [obX 39 x3]
def aEH x0:=stO [tsI 2 x0] []
def aPG x0 x1 x2:=stO [tsI 1 x0,tsI 2 x1,tsP 3 0] [obX 39 x2]
def aEI x0 x1 x2 x3:=stO [tsI 1 x0,tsI 2 x1,tsP 3 0,tsB 13 x2] [obX 39 x3]
abbrev aPH (m M3:Nat) (rec3:Q50):Prop:=∀x0 x1 x2 x3,l46 jn m aua [] M3 (X8 x0 x1 x2 x3)=rec3 x0 x1 x2 x3
theorem acW m M3 rec3 (h3:aPH m M3 rec3) x0 x1 x2 x3:e46 jn m aPF [M3] (X8 x0 x1 x2 x3)=vk m (bF m) rec3 x0 x1 x2 x3:=
 tq (g:=fun J=>(jj J 1 5 M3 (X8 x0 x1 (IntKind.wrap .i64 (x2+1)) x3) (l46 J m aua [] M3))) (by simp only[ah,h3];rfl)
theorem acX m M3 rec3 (h3:aPH m M3 rec3) x0 x1 x2 x3:e46 jn m aEG [M3] (X8 x0 x1 x2 x3)=Aj m (bF m) rec3 x0 x1 x2 x3:=
 tq (g:=fun J=>((idx (Dt.L x3 8) x2).bind fun v0=>
  ((bF m v0 (IntKind.wrap .i64 (x0-1)) x1).bind fun r1=>
  (jj J 0 6 0 (X8 x0 r1 x2 x3) (e46 J m aPF [M3]))))) (by simp only[ah,acW m M3 rec3 h3];rfl)
theorem acY m x0:e46 jn m [1,1,1,1] [] (aEH x0)=Ir m (bF m) x0:=
 tq (g:=fun J=>some x0) (by rfl)
theorem KJ m:∀M3 x0 x1 x2 x3,l46 jn m aua [] M3 (X8 x0 x1 x2 x3)=gN m (bF m) M3 x0 x1 x2 x3
 |0,_,_,_,_=>rfl
 | M3+1,x0,x1,x2,x3=>
   tl (g:=fun J=>(bif (decide (x2<(List.length (Dt.L x3 8):Int))) then
  (bif (decide (0≤x1)) then
  (jj J 0 7 0 (X8 x0 x1 x2 x3) (e46 J m aEG [M3]))
  else
  (jj J 0 8 0 (aEH x1) (e46 J m [1,1,1,1] [])))
   else
  (jj J 0 8 0 (aEH x1) (e46 J m [1,1,1,1] [])))) (by simp only[ah,acX m M3 (gN m (bF m) M3) (KJ m M3),acY m];rfl)
theorem acZ m x0 x1 x2 x3:e46 jn m aPE [] (X8 x0 x1 x2 x3)=Iu m (bF m) x0 x1 x2 x3:=
 tq (g:=fun J=>(jj J 1 5 (Nat.succ m) (X8 x0 x1 x2 x3) (l46 J m aua [] (Nat.succ m)))) (by simp only[ah,KJ m];rfl)
theorem ac0 m x0 x1 x2:e46 jn m [1,1] [] (aPG x0 x1 x2)=Iw m (bF m) x0 x1 x2:=
 tq (g:=fun J=>(jj J 0 5 0 (X8 x0 (IntKind.wrap .i64 (x1-1)) 0 x2) (e46 J m aPE []))) (by simp only[ah,acZ m];rfl)
theorem ac1 m x0 x1 x2 x3:e46 jn m [1,0,1] [] (aEI x0 x1 x2 x3)=ql m (bF m) x0 x1 x2 x3:=
 tq (g:=fun J=>(bif x2 then
  some (-1)
   else
  (jj J 0 3 0 (aPG x0 x1 x3) (e46 J m [1,1] [])))) (by simp only[ah,ac0 m];rfl)
theorem alA m a0 a1 a2:e46 jn m [] [] ⟨[.dat 39 a0,.dat 3 (.int a1),.dat 3 (.int a2)],[],0⟩=bF (m+1) a0 a1 a2:=
 tq (g:=fun J=>(bif (a1==0) then
  (jj J 0 2 0 (aEI a1 a2 true a0) (e46 J m [1,0,1] []))
   else
  (jj J 0 2 0 (aEI a1 a2 (decide (a2≤0)) a0) (e46 J m [1,0,1] [])))) (by simp only[ah,ac1 m];rfl)
def azl:List Nat:=[1,1,0,1,0]
def aPI:List Nat:=[1,1,1,0,1]
def aub:List Nat:=[1,1,1,0,1,0]
def aEJ:List Nat:=[1,1,0,1,0,0,1]
def aPJ:List Nat:=aEJ++[1]
def azm:List Nat:=aub++[0,1]
def aPK:List Nat:=azm++[1]
def aPL:List Nat:=azm++[0,0,1]
def e49 (J:Q0) m:=evAt Tryz.prog env (ct m) J (m+1) 60 99 Tryz.f60 d17
def l49 (J:Q0) m:=loopAt Tryz.prog env (ct m) J (m+1) 60 99 Tryz.f60 d17
def X9 x0 x1 x2:=stO [tsP 2 0,tsP 3 1,tsI 5 x0] [obX 30 x1,obX 30 x2]
def LB x0 x1 x2:=stO [tsP 2 0,tsP 3 1,tsI 6 x0] [obX 30 x1,obX 30 x2]
def aEK x0 x1 x2 x3:=stO [tsP 2 0,tsP 3 1,tsI 6 x0,tsB 98 x1] [obX 30 x2,obX 30 x3]
def aEL:=stO [] []
def azn x0 x1:=stO [tsP 2 0,tsP 3 1] [obX 30 x0,obX 30 x1]
def aPM x0 x1 x2:=stO [tsP 2 0,tsP 3 1,tsB 43 x0] [obX 30 x1,obX 30 x2]
abbrev aPN (m M3:Nat) (rec3:Q3):Prop:=∀x0 x1 x2,l49 jn m azl [] M3 (X9 x0 x1 x2)=rec3 x0 x1 x2
theorem agH m M3 rec3 (h3:aPN m M3 rec3) x0 x1 x2:e49 jn m aPJ [M3] (X9 x0 x1 x2)=eP m (aC m) rec3 x0 x1 x2:=
 tq (g:=fun J=>(jj J 1 4 M3 (X9 (IntKind.wrap .i64 (x0+1)) x1 x2) (l49 J m azl [] M3))) (by simp only[ah,h3];rfl)
theorem agI m M3 rec3 (h3:aPN m M3 rec3) x0 x1 x2:e49 jn m aEJ [M3] (X9 x0 x1 x2)=eU m (aC m) rec3 x0 x1 x2:=
 tq (g:=fun J=>dL (fun y0 y1 y2=>jj J 0 5 0 (X9 y0 y1 y2) (e49 J m aPJ [M3])) (aC m) x0 x1 x2) (by simp only[ah,agH m M3 rec3 h3];rfl)
abbrev aEM (m M8:Nat) (rec8:Q3):Prop:=∀x0 x1 x2,l49 jn m aub [] M8 (LB x0 x1 x2)=rec8 x0 x1 x2
theorem ac2 m M8 rec8 (h8:aEM m M8 rec8) x0 x1 x2:e49 jn m aPK [M8] (LB x0 x1 x2)=dM m (aC m) rec8 x0 x1 x2:=
 tq (g:=fun J=>(jj J 1 9 M8 (LB (IntKind.wrap .i64 (x0+1)) x1 x2) (l49 J m aub [] M8))) (by simp only[ah,h8];rfl)
theorem ac3 m M8 rec8 (h8:aEM m M8 rec8) x0 x1 x2 x3:e49 jn m aPL [M8] (aEK x0 x1 x2 x3)=dN m (aC m) rec8 x0 x1 x2 x3:=
 tq (g:=fun J=>(bif x1 then
  some false
   else
  (jj J 0 10 0 (LB x0 x2 x3) (e49 J m aPK [M8])))) (by simp only[ah,ac2 m M8 rec8 h8];rfl)
theorem agJ m M8 rec8 (h8:aEM m M8 rec8) x0 x1 x2:e49 jn m azm [M8] (LB x0 x1 x2)=eX m (aC m) rec8 x0 x1 x2:=
 tq (g:=fun J=>dO (fun y0 y1 y2 y3=>jj J 0 12 0 (aEK y0 y1 y2 y3) (e49 J m aPL [M8])) (aC m) x0 x1 x2) (by simp only[ah,ac3 m M8 rec8 h8];rfl)
theorem ac4 m:e49 jn m [1,1,1,1] [] aEL=dP m (aC m):=
 tq (g:=fun J=>some true) (by rfl)
theorem Oe m:∀M8 x0 x1 x2,l49 jn m aub [] M8 (LB x0 x1 x2)=iX m (aC m) M8 x0 x1 x2
 |0,_,_,_=>rfl
 | M8+1,x0,x1,x2=>
   tl (g:=fun J=>(bif (decide (x0<(List.length (Dt.L x1 4):Int))) then
  (jj J 0 11 0 (LB x0 x1 x2) (e49 J m azm [M8]))
   else
  (jj J 0 13 0 aEL (e49 J m [1,1,1,1] [])))) (by simp only[ah,agJ m M8 (iX m (aC m) M8) (Oe m M8),ac4 m];rfl)
theorem agK m x0 x1 x2:e49 jn m aPI [] (LB x0 x1 x2)=eY m (aC m) x0 x1 x2:=
 tq (g:=fun J=>(jj J 1 9 (Nat.succ m) (LB x0 x1 x2) (l49 J m aub [] (Nat.succ m)))) (by simp only[ah,Oe m];rfl)
theorem agL m x0 x1:e49 jn m [1,1,1] [] (azn x0 x1)=eZ m (aC m) x0 x1:=
 tq (g:=fun J=>(jj J 0 9 0 (LB 0 x0 x1) (e49 J m aPI []))) (by simp only[ah,agK m];rfl)
theorem Og m:∀M3 x0 x1 x2,l49 jn m azl [] M3 (X9 x0 x1 x2)=mD m (aC m) M3 x0 x1 x2
 |0,_,_,_=>rfl
 | M3+1,x0,x1,x2=>
   tl (g:=fun J=>(bif (decide (x0<(List.length (Dt.L x1 3):Int))) then
  (jj J 0 6 0 (X9 x0 x1 x2) (e49 J m aEJ [M3]))
   else
  (jj J 0 8 0 (azn x1 x2) (e49 J m [1,1,1] [])))) (by simp only[ah,agI m M3 (mD m (aC m) M3) (Og m M3),agL m];rfl)
theorem agM m x0 x1 x2:e49 jn m [1,1,0,1] [] (X9 x0 x1 x2)=fq m (aC m) x0 x1 x2:=
 tq (g:=fun J=>(jj J 1 4 (Nat.succ m) (X9 x0 x1 x2) (l49 J m azl [] (Nat.succ m)))) (by simp only[ah,Og m];rfl)
theorem agN m x0 x1:e49 jn m [1,1] [] (azn x0 x1)=fu m (aC m) x0 x1:=
 tq (g:=fun J=>(jj J 0 4 0 (X9 0 x0 x1) (e49 J m [1,1,0,1] []))) (by simp only[ah,agM m];rfl)
theorem agO m x0 x1 x2:e49 jn m [1,0,1] [] (aPM x0 x1 x2)=bI m (aC m) x0 x1 x2:=
 tq (g:=fun J=>(bif x0 then
  some false
   else
  (jj J 0 3 0 (azn x1 x2) (e49 J m [1,1] [])))) (by simp only[ah,agN m];rfl)
theorem aoY m a0 a1:e49 jn m [] [] ⟨[.dat 30 a0,.dat 30 a1],[],0⟩=aC (m+1) a0 a1:=
 tq (g:=fun J=>Er (fun y0 y1 y2=>jj J 0 2 0 (aPM y0 y1 y2) (e49 J m [1,0,1] [])) a0 a1) (by simp only[ah,agO m];rfl)
def e50 (J:Q0) m:=evAt Tryz.prog env (ct m) J (m+1) 61 10 Tryz.f61 d17
theorem ac5 m a0 a1:e50 jn m [] [] ⟨[.dat 27 (.lst a0),.dat 27 (.lst a1)],[],0⟩=cu (m+1) a0 a1:=
 tq (g:=fun J=>cu (m+1) a0 a1) (by rfl)
def azo:List Nat:=[1,1,0,1,0]
def aEN:List Nat:=[1,1,0,1,0,0,1]
def aPO:List Nat:=aEN++[1]
def e53 (J:Q0) m:=evAt Tryz.prog env (ct m) J (m+1) 72 45 Tryz.f72 d17
def l53 (J:Q0) m:=loopAt Tryz.prog env (ct m) J (m+1) 72 45 Tryz.f72 d17
def Ya x0 x1 x2:=stO [tsP 2 0,tsP 3 1,tsI 5 x0] [obX 33 x1,obX 33 x2]
def aPP:=stO [] []
def aPQ x0 x1:=stO [tsP 2 0,tsP 3 1] [obX 33 x0,obX 33 x1]
def aPR x0 x1 x2:=stO [tsP 2 0,tsP 3 1,tsB 26 x0] [obX 33 x1,obX 33 x2]
abbrev aPS (m M3:Nat) (rec3:Q3):Prop:=∀x0 x1 x2,l53 jn m azo [] M3 (Ya x0 x1 x2)=rec3 x0 x1 x2
theorem Ri m M3 rec3 (h3:aPS m M3 rec3) x0 x1 x2:e53 jn m aPO [M3] (Ya x0 x1 x2)=iJ m rec3 x0 x1 x2:=
 tq (g:=fun J=>(jj J 1 4 M3 (Ya (IntKind.wrap .i64 (x0+1)) x1 x2) (l53 J m azo [] M3))) (by simp only[ah,h3];rfl)
theorem Rj m M3 rec3 (h3:aPS m M3 rec3) x0 x1 x2:e53 jn m aEN [M3] (Ya x0 x1 x2)=iK m rec3 x0 x1 x2:=
 tq (g:=fun J=>ig (fun y0 y1 y2=>jj J 0 5 0 (Ya y0 y1 y2) (e53 J m aPO [M3])) x0 x1 x2) (by simp only[ah,Ri m M3 rec3 h3];rfl)
theorem Rk m:e53 jn m [1,1,1] [] aPP=iL m:=
 tq (g:=fun J=>some true) (by rfl)
theorem Cm m:∀M3 x0 x1 x2,l53 jn m azo [] M3 (Ya x0 x1 x2)=gB m M3 x0 x1 x2
 |0,_,_,_=>rfl
 | M3+1,x0,x1,x2=>
   tl (g:=fun J=>(bif (decide (x0<(List.length (Dt.L x1 1):Int))) then
  (jj J 0 6 0 (Ya x0 x1 x2) (e53 J m aEN [M3]))
   else
  (jj J 0 8 0 aPP (e53 J m [1,1,1] [])))) (by simp only[ah,Rj m M3 (gB m M3) (Cm m M3),Rk m];rfl)
theorem Rl m x0 x1 x2:e53 jn m [1,1,0,1] [] (Ya x0 x1 x2)=iM m x0 x1 x2:=
 tq (g:=fun J=>(jj J 1 4 (Nat.succ m) (Ya x0 x1 x2) (l53 J m azo [] (Nat.succ m)))) (by simp only[ah,Cm m];rfl)
theorem Rm m x0 x1:e53 jn m [1,1] [] (aPQ x0 x1)=iN m x0 x1:=
 tq (g:=fun J=>(jj J 0 4 0 (Ya 0 x0 x1) (e53 J m [1,1,0,1] []))) (by simp only[ah,Rl m];rfl)
theorem Rn m x0 x1 x2:e53 jn m [1,0,1] [] (aPR x0 x1 x2)=dW m x0 x1 x2:=
 tq (g:=fun J=>(bif x0 then
  some false
   else
  (jj J 0 3 0 (aPQ x1 x2) (e53 J m [1,1] [])))) (by simp only[ah,Rm m];rfl)
theorem Zn m a0 a1:e53 jn m [] [] ⟨[.dat 33 a0,.dat 33 a1],[],0⟩=aW (m+1) a0 a1:=
 tq (g:=fun J=>wF (fun y0 y1 y2=>jj J 0 2 0 (aPR y0 y1 y2) (e53 J m [1,0,1] [])) a0 a1) (by simp only[ah,Rn m];rfl)
def aEO:List Nat:=[1,0,1,0,0,1]
def aPT:List Nat:=aEO++[1]
def e72 (J:Q0) m:=evAt Tryz.prog env (ct m) J (m+1) 74 18 Tryz.f74 d17
def l72 (J:Q0) m:=loopAt Tryz.prog env (ct m) J (m+1) 74 18 Tryz.f74 d17
def Yb x0 x1 x2:=stO [tsI 0 x0,tsL 1 164 x1,tsI 5 x2] []
def aPU:=stO [] []
abbrev aPV (m M1:Nat) (rec1:Q51):Prop:=∀x0 x1 x2,l72 jn m [1,0,1,0] [] M1 (Yb x0 x1 x2)=rec1 x0 x1 x2
theorem agP m M1 rec1 (h1:aPV m M1 rec1) x0 x1 x2:e72 jn m aPT [M1] (Yb x0 x1 x2)=Ma m rec1 x0 x1 x2:=
 tq (g:=fun J=>(jj J 1 2 M1 (Yb x0 x1 (IntKind.wrap .i64 (x2+1))) (l72 J m [1,0,1,0] [] M1))) (by simp only[ah,h1];rfl)
theorem agQ m M1 rec1 (h1:aPV m M1 rec1) x0 x1 x2:e72 jn m aEO [M1] (Yb x0 x1 x2)=Mc m rec1 x0 x1 x2:=
 tq (g:=fun J=>((idx x1 x2).bind fun v0=>
  (bif ((Dt.toInt v0)==x0) then
  some true
  else
  (jj J 0 3 0 (Yb x0 x1 x2) (e72 J m aPT [M1]))))) (by simp only[ah,agP m M1 rec1 h1];rfl)
theorem agR m:e72 jn m [1,1] [] aPU=Yy m:=
 tq (g:=fun J=>some false) (by rfl)
theorem Oh m:∀M1 x0 x1 x2,l72 jn m [1,0,1,0] [] M1 (Yb x0 x1 x2)=uj m M1 x0 x1 x2
 |0,_,_,_=>rfl
 | M1+1,x0,x1,x2=>
   tl (g:=fun J=>(bif (decide (x2<(List.length x1:Int))) then
  (jj J 0 4 0 (Yb x0 x1 x2) (e72 J m aEO [M1]))
   else
  (jj J 0 6 0 aPU (e72 J m [1,1] [])))) (by simp only[ah,agQ m M1 (uj m M1) (Oh m M1),agR m];rfl)
theorem agS m x0 x1 x2:e72 jn m [1,0,1] [] (Yb x0 x1 x2)=Yz m x0 x1 x2:=
 tq (g:=fun J=>(jj J 1 2 (Nat.succ m) (Yb x0 x1 x2) (l72 J m [1,0,1,0] [] (Nat.succ m)))) (by simp only[ah,Oh m];rfl)
theorem aoZ m a0 a1:e72 jn m [] [] ⟨[.dat 3 (.int a0),.dat 164 (.lst a1)],[],0⟩=bY (m+1) a0 a1:=
 tq (g:=fun J=>(jj J 0 2 0 (Yb a0 a1 0) (e72 J m [1,0,1] []))) (by simp only[ah,agS m];rfl)
def e74 (J:Q0) m:=evAt Tryz.prog env (ct m) J (m+1) 79 22 Tryz.f79 d17
theorem Zo m a0:e74 jn m [] [] ⟨[.dat 69 a0],[],0⟩=fA (m+1) a0:=
 tq (g:=fun J=>fA (m+1) a0) (by rfl)
def e77 (J:Q0) m:=evAt Tryz.prog env (ct m) J (m+1) 78 29 Tryz.f78 d17
theorem WG m a0:e77 jn m [] [] ⟨[.dat 66 a0],[],0⟩=bL (m+1) a0:=
 tq (g:=fun J=>bL (m+1) a0) (by rfl)
def e82 (J:Q0) m:=evAt Tryz.prog env (ct m) J (m+1) 104 9 Tryz.f104 d17
theorem ajF m a0:e82 jn m [] [] ⟨[.dat 3 (.int a0)],[],0⟩=iY (m+1) a0:=
 tq (g:=fun J=>iY (m+1) a0) (by rfl)
def e86 (J:Q0) m:=evAt Tryz.prog env (ct m) J (m+1) 102 13 Tryz.f102 d17
theorem agT m a0:e86 jn m [] [] ⟨[.dat 3 (.int a0)],[],0⟩=bX (m+1) a0:=
 tq (g:=fun J=>bX (m+1) a0) (by rfl)
def e90 (J:Q0) m:=evAt Tryz.prog env (ct m) J (m+1) 108 13 Tryz.f108 d17
theorem agU m a0:e90 jn m [] [] ⟨[.dat 3 (.int a0)],[],0⟩=fZ (m+1) a0:=
 tq (g:=fun J=>fZ (m+1) a0) (by rfl)
def e84 (J:Q0) m:=evAt Tryz.prog env (ct m) J (m+1) 106 13 Tryz.f106 d17
theorem ajG m a0:e84 jn m [] [] ⟨[.dat 3 (.int a0)],[],0⟩=gP (m+1) a0:=
 tq (g:=fun J=>gP (m+1) a0) (by rfl)
def aPW:List Nat:=[1,0,1,0,1]
def aPX:List Nat:=[1,0,1,0,1,1,1]
def e91 (J:Q0) m:=evAt Tryz.prog env (ct m) J (m+1) 101 24 Tryz.f101 d17
def aPY x0:=stO [tsP 1 0] [obX 39 x0]
def aPZ x0 x1:=stO [tsP 1 0,tsB 12 x0] [obX 39 x1]
def aP0 x0 x1 x2:=stO [tsP 1 0,tsI 4 x0,tsB 5 x1] [obX 39 x2]
theorem agV m x0:e91 jn m [1,1] [] (aPY x0)=xI m x0:=
 tq (g:=fun J=>xI m x0) (by rfl)
theorem agW m x0 x1:e91 jn m aPX [] (aPZ x0 x1)=DK m x0 x1:=
 tq (g:=fun J=>(bif x0 then
  some (decide (0<(List.length (Dt.L x1 8):Int)))
   else
  (jj J 0 9 0 (aPY x1) (e91 J m [1,1] [])))) (by simp only[ah,agV m];rfl)
theorem agX m x0 x1 x2:e91 jn m aPW [] (aP0 x0 x1 x2)=DL m x0 x1 x2:=
 tq (g:=fun J=>Ak (fun y0 y1=>jj J 0 8 0 (aPZ y0 y1) (e91 J m aPX [])) x0 x1 x2) (by simp only[ah,agW m];rfl)
theorem ao0 m a0:e91 jn m [] [] ⟨[.dat 39 a0],[],0⟩=vo (m+1) a0:=
 tq (g:=fun J=>K4 (fun y0 y1 y2=>jj J 0 4 0 (aP0 y0 y1 y2) (e91 J m aPW [])) a0) (by simp only[ah,agX m];rfl)
def e92 (J:Q0) m:=evAt Tryz.prog env (ct m) J (m+1) 103 47 Tryz.f103 d17
def aP1:=stO [] []
theorem WH m:e92 jn m [1,1] [] aP1=Cz m:=
 tq (g:=fun J=>some true) (by rfl)
theorem agY m a0:e92 jn m [] [] ⟨[.dat 39 a0],[],0⟩=iZ (m+1) a0:=
 tq (g:=fun J=>Al (jj J 0 10 0 aP1 (e92 J m [1,1] [])) a0) (by simp only[ah,WH m];rfl)
def azp:List Nat:=[1,1,0,1,0]
def aEP:List Nat:=[1,1,0,1,0,0,1]
def aP2:List Nat:=aEP++[1]
def e93 (J:Q0) m:=evAt Tryz.prog env (ct m) J (m+1) 73 26 Tryz.f73 d17
def l93 (J:Q0) m:=loopAt Tryz.prog env (ct m) J (m+1) 73 26 Tryz.f73 d17
def Yc x0 x1 x2:=stO [tsL 0 26 x0,tsL 1 26 x1,tsI 5 x2] []
def aP3:=stO [] []
def aP4 x0 x1:=stO [tsL 0 26 x0,tsL 1 26 x1] []
abbrev aP5 (m M2:Nat) (rec2:Q11):Prop:=∀x0 x1 x2,l93 jn m azp [] M2 (Yc x0 x1 x2)=rec2 x0 x1 x2
theorem Zp m M2 rec2 (h2:aP5 m M2 rec2) x0 x1 x2:e93 jn m aP2 [M2] (Yc x0 x1 x2)=nY m rec2 x0 x1 x2:=
 tq (g:=fun J=>(jj J 1 4 M2 (Yc x0 x1 (IntKind.wrap .i64 (x2+1))) (l93 J m azp [] M2))) (by simp only[ah,h2];rfl)
theorem Zq m M2 rec2 (h2:aP5 m M2 rec2) x0 x1 x2:e93 jn m aEP [M2] (Yc x0 x1 x2)=nZ m rec2 x0 x1 x2:=
 tq (g:=fun J=>mI (fun y0 y1 y2=>jj J 0 5 0 (Yc y0 y1 y2) (e93 J m aP2 [M2])) x0 x1 x2) (by simp only[ah,Zp m M2 rec2 h2];rfl)
theorem Zr m:e93 jn m [1,1,1] [] aP3=sU m:=
 tq (g:=fun J=>some true) (by rfl)
theorem Ht m:∀M2 x0 x1 x2,l93 jn m azp [] M2 (Yc x0 x1 x2)=iE m M2 x0 x1 x2
 |0,_,_,_=>rfl
 | M2+1,x0,x1,x2=>
   tl (g:=fun J=>(bif (decide (x2<(List.length x0:Int))) then
  (jj J 0 6 0 (Yc x0 x1 x2) (e93 J m aEP [M2]))
   else
  (jj J 0 8 0 aP3 (e93 J m [1,1,1] [])))) (by simp only[ah,Zq m M2 (iE m M2) (Ht m M2),Zr m];rfl)
theorem Zt m x0 x1 x2:e93 jn m [1,1,0,1] [] (Yc x0 x1 x2)=sV m x0 x1 x2:=
 tq (g:=fun J=>(jj J 1 4 (Nat.succ m) (Yc x0 x1 x2) (l93 J m azp [] (Nat.succ m)))) (by simp only[ah,Ht m];rfl)
theorem Zu m x0 x1:e93 jn m [1,1] [] (aP4 x0 x1)=sW m x0 x1:=
 tq (g:=fun J=>(jj J 0 4 0 (Yc x0 x1 0) (e93 J m [1,1,0,1] []))) (by simp only[ah,Zt m];rfl)
theorem ajH m a0 a1:e93 jn m [] [] ⟨[.dat 26 (.lst a0),.dat 26 (.lst a1)],[],0⟩=jc (m+1) a0 a1:=
 tq (g:=fun J=>(bif (decide ((List.length a1:Int)<(List.length a0:Int))) then
  some false
   else
  (jj J 0 3 0 (aP4 a0 a1) (e93 J m [1,1] [])))) (by simp only[ah,Zu m];rfl)
def e48 (J:Q0) m:=evAt Tryz.prog env (ct m) J (m+1) 33 15 Tryz.f33 d17
theorem ao1 m a0 a1:e48 jn m [] [] ⟨[.dat 26 (.lst a0),.dat 26 (.lst a1)],[],0⟩=aL (m+1) a0 a1:=
 tq (g:=fun J=>aL (m+1) a0 a1) (by rfl)
def azq:List Nat:=[1,1,0,1,0]
def azr:List Nat:=[1,1,0,1,0,0,1]
def aP6:List Nat:=azr++[1]
def aP7:List Nat:=azr++[0,0,1]
def e21 (J:Q0) m:=evAt Tryz.prog env (ct m) J (m+1) 13 42 Tryz.f13 d17
def l21 (J:Q0) m:=loopAt Tryz.prog env (ct m) J (m+1) 13 42 Tryz.f13 d17
def Yd x0 x1 x2:=stO [tsL 0 40 x0,tsL 1 40 x1,tsI 5 x2] []
def aP8 x0 x1 x2 x3:=stO [tsL 0 40 x0,tsL 1 40 x1,tsI 5 x2,tsB 41 x3] []
def aP9:=stO [] []
def aQa x0 x1:=stO [tsL 0 40 x0,tsL 1 40 x1] []
abbrev aEQ (m M2:Nat) (rec2:Q11):Prop:=∀x0 x1 x2,l21 jn m azq [] M2 (Yd x0 x1 x2)=rec2 x0 x1 x2
theorem Po m M2 rec2 (h2:aEQ m M2 rec2) x0 x1 x2:e21 jn m aP6 [M2] (Yd x0 x1 x2)=kW m rec2 x0 x1 x2:=
 tq (g:=fun J=>(jj J 1 4 M2 (Yd x0 x1 (IntKind.wrap .i64 (x2+1))) (l21 J m azq [] M2))) (by simp only[ah,h2];rfl)
theorem Pp m M2 rec2 (h2:aEQ m M2 rec2) x0 x1 x2 x3:e21 jn m aP7 [M2] (aP8 x0 x1 x2 x3)=kX m rec2 x0 x1 x2 x3:=
 tq (g:=fun J=>(bif x3 then
  some false
   else
  (jj J 0 5 0 (Yd x0 x1 x2) (e21 J m aP6 [M2])))) (by simp only[ah,Po m M2 rec2 h2];rfl)
theorem Pq m M2 rec2 (h2:aEQ m M2 rec2) x0 x1 x2:e21 jn m azr [M2] (Yd x0 x1 x2)=kY m rec2 x0 x1 x2:=
 tq (g:=fun J=>jg (fun y0 y1 y2 y3=>jj J 0 7 0 (aP8 y0 y1 y2 y3) (e21 J m aP7 [M2])) m x0 x1 x2) (by simp only[ah,Pp m M2 rec2 h2];rfl)
theorem Pv m:e21 jn m [1,1,1] [] aP9=kZ m:=
 tq (g:=fun J=>some true) (by rfl)
theorem Ac m:∀M2 x0 x1 x2,l21 jn m azq [] M2 (Yd x0 x1 x2)=iq m M2 x0 x1 x2
 |0,_,_,_=>rfl
 | M2+1,x0,x1,x2=>
   tl (g:=fun J=>(bif (decide (x2<(List.length x0:Int))) then
  (jj J 0 6 0 (Yd x0 x1 x2) (e21 J m azr [M2]))
   else
  (jj J 0 8 0 aP9 (e21 J m [1,1,1] [])))) (by simp only[ah,Pq m M2 (iq m M2) (Ac m M2),Pv m];rfl)
theorem Pw m x0 x1 x2:e21 jn m [1,1,0,1] [] (Yd x0 x1 x2)=lg m x0 x1 x2:=
 tq (g:=fun J=>(jj J 1 4 (Nat.succ m) (Yd x0 x1 x2) (l21 J m azq [] (Nat.succ m)))) (by simp only[ah,Ac m];rfl)
theorem Px m x0 x1:e21 jn m [1,1] [] (aQa x0 x1)=lq m x0 x1:=
 tq (g:=fun J=>(jj J 0 4 0 (Yd x0 x1 0) (e21 J m [1,1,0,1] []))) (by simp only[ah,Pw m];rfl)
theorem WI m a0 a1:e21 jn m [] [] ⟨[.dat 40 (.lst a0),.dat 40 (.lst a1)],[],0⟩=gF (m+1) a0 a1:=
 tq (g:=fun J=>(bif ((List.length a0:Int) !=(List.length a1:Int)) then
  some false
   else
  (jj J 0 3 0 (aQa a0 a1) (e21 J m [1,1] [])))) (by simp only[ah,Px m];rfl)
def azs:List Nat:=[1,1,0,1,0]
def aER:List Nat:=[1,1,0,1,0,0,1]
def aQb:List Nat:=aER++[1]
def e51 (J:Q0) m:=evAt Tryz.prog env (ct m) J (m+1) 62 77 Tryz.f62 d17
def l51 (J:Q0) m:=loopAt Tryz.prog env (ct m) J (m+1) 62 77 Tryz.f62 d17
def Ye x0 x1 x2:=stO [tsP 2 0,tsP 3 1,tsI 5 x0] [obX 36 x1,obX 36 x2]
def aQc:=stO [] []
def aQd x0 x1:=stO [tsP 2 0,tsP 3 1] [obX 36 x0,obX 36 x1]
def aQe x0 x1 x2:=stO [tsP 2 0,tsP 3 1,tsB 57 x0] [obX 36 x1,obX 36 x2]
abbrev aQf (m M3:Nat) (rec3:Q3):Prop:=∀x0 x1 x2,l51 jn m azs [] M3 (Ye x0 x1 x2)=rec3 x0 x1 x2
theorem agZ m M3 rec3 (h3:aQf m M3 rec3) x0 x1 x2:e51 jn m aQb [M3] (Ye x0 x1 x2)=xJ m (dz m) rec3 x0 x1 x2:=
 tq (g:=fun J=>(jj J 1 4 M3 (Ye (IntKind.wrap .i64 (x0+1)) x1 x2) (l51 J m azs [] M3))) (by simp only[ah,h3];rfl)
theorem ag0 m M3 rec3 (h3:aQf m M3 rec3) x0 x1 x2:e51 jn m aER [M3] (Ye x0 x1 x2)=xK m (dz m) rec3 x0 x1 x2:=
 tq (g:=fun J=>vv (fun y0 y1 y2=>jj J 0 5 0 (Ye y0 y1 y2) (e51 J m aQb [M3])) (dz m) x0 x1 x2) (by simp only[ah,agZ m M3 rec3 h3];rfl)
theorem ag1 m:e51 jn m [1,1,1] [] aQc=xL m (dz m):=
 tq (g:=fun J=>some true) (by rfl)
theorem Oi m:∀M3 x0 x1 x2,l51 jn m azs [] M3 (Ye x0 x1 x2)=um m (dz m) M3 x0 x1 x2
 |0,_,_,_=>rfl
 | M3+1,x0,x1,x2=>
   tl (g:=fun J=>(bif (decide (x0<(List.length (Dt.L x1 6):Int))) then
  (jj J 0 6 0 (Ye x0 x1 x2) (e51 J m aER [M3]))
   else
  (jj J 0 8 0 aQc (e51 J m [1,1,1] [])))) (by simp only[ah,ag0 m M3 (um m (dz m) M3) (Oi m M3),ag1 m];rfl)
theorem ag2 m x0 x1 x2:e51 jn m [1,1,0,1] [] (Ye x0 x1 x2)=xM m (dz m) x0 x1 x2:=
 tq (g:=fun J=>(jj J 1 4 (Nat.succ m) (Ye x0 x1 x2) (l51 J m azs [] (Nat.succ m)))) (by simp only[ah,Oi m];rfl)
theorem ag3 m x0 x1:e51 jn m [1,1] [] (aQd x0 x1)=xO m (dz m) x0 x1:=
 tq (g:=fun J=>(jj J 0 4 0 (Ye 0 x0 x1) (e51 J m [1,1,0,1] []))) (by simp only[ah,ag2 m];rfl)
theorem ag4 m x0 x1 x2:e51 jn m [1,0,1] [] (aQe x0 x1 x2)=xP m (dz m) x0 x1 x2:=
 tq (g:=fun J=>(bif x0 then
  some false
   else
  (jj J 0 3 0 (aQd x1 x2) (e51 J m [1,1] [])))) (by simp only[ah,ag3 m];rfl)
theorem ao2 m a0 a1:e51 jn m [] [] ⟨[.dat 36 a0,.dat 36 a1],[],0⟩=dz (m+1) a0 a1:=
 tq (g:=fun J=>UK (fun y0 y1 y2=>jj J 0 2 0 (aQe y0 y1 y2) (e51 J m [1,0,1] [])) m a0 a1) (by simp only[ah,ag4 m];rfl)
def aQg:List Nat:=[1,1,1,1,1]
def aQh:List Nat:=[1,1,1,0,1]
def auc:List Nat:=[1,1,1,0,1,0]
def aES:List Nat:=[1,1,1,1,0,1]
def aud:List Nat:=aES++[0]
def aET:List Nat:=auc++[0,1]
def aQi:List Nat:=aET++[1]
def aEU:List Nat:=aud++[0,1]
def aQj:List Nat:=aEU++[1]
def e20 (J:Q0) m:=evAt Tryz.prog env (ct m) J (m+1) 29 134 Tryz.f29 d17
def l20 (J:Q0) m:=loopAt Tryz.prog env (ct m) J (m+1) 29 134 Tryz.f29 d17
def Yf x0 x1 x2:=stO [tsP 2 0,tsP 3 1,tsI 5 x0] [obX 39 x1,obX 39 x2]
def LC x0 x1 x2:=stO [tsP 2 0,tsP 3 1,tsI 6 x0] [obX 39 x1,obX 39 x2]
def aEV:=stO [] []
def aqB x0 x1:=stO [tsP 2 0,tsP 3 1] [obX 39 x0,obX 39 x1]
def aQk x0 x1 x2:=stO [tsP 2 0,tsP 3 1,tsB 93 x0] [obX 39 x1,obX 39 x2]
def aQl x0 x1 x2:=stO [tsP 2 0,tsP 3 1,tsB 57 x0] [obX 39 x1,obX 39 x2]
abbrev aQm (m M5:Nat) (rec5:Q3):Prop:=∀x0 x1 x2,l20 jn m auc [] M5 (Yf x0 x1 x2)=rec5 x0 x1 x2
theorem Tf m M5 rec5 (h5:aQm m M5 rec5) x0 x1 x2:e20 jn m aQi [M5] (Yf x0 x1 x2)=Ao m (aR m) rec5 x0 x1 x2:=
 tq (g:=fun J=>(jj J 1 6 M5 (Yf (IntKind.wrap .i64 (x0+1)) x1 x2) (l20 J m auc [] M5))) (by simp only[ah,h5];rfl)
theorem Tg m M5 rec5 (h5:aQm m M5 rec5) x0 x1 x2:e20 jn m aET [M5] (Yf x0 x1 x2)=Ap m (aR m) rec5 x0 x1 x2:=
 tq (g:=fun J=>zf (fun y0 y1 y2=>jj J 0 7 0 (Yf y0 y1 y2) (e20 J m aQi [M5])) x0 x1 x2) (by simp only[ah,Tf m M5 rec5 h5];rfl)
abbrev aEW (m M10:Nat) (rec10:Q3):Prop:=∀x0 x1 x2,l20 jn m aud [] M10 (LC x0 x1 x2)=rec10 x0 x1 x2
theorem Ro m M10 rec10 (h10:aEW m M10 rec10) x0 x1 x2:e20 jn m aQj [M10] (LC x0 x1 x2)=zh m (aR m) rec10 x0 x1 x2:=
 tq (g:=fun J=>(jj J 1 11 M10 (LC (IntKind.wrap .i64 (x0+1)) x1 x2) (l20 J m aud [] M10))) (by simp only[ah,h10];rfl)
theorem Rp m M10 rec10 (h10:aEW m M10 rec10) x0 x1 x2:e20 jn m aEU [M10] (LC x0 x1 x2)=zk m (aR m) rec10 x0 x1 x2:=
 tq (g:=fun J=>wX (fun y0 y1 y2=>jj J 0 12 0 (LC y0 y1 y2) (e20 J m aQj [M10])) (aR m) x0 x1 x2) (by simp only[ah,Ro m M10 rec10 h10];rfl)
theorem Rq m:e20 jn m aQg [] aEV=zl m (aR m):=
 tq (g:=fun J=>some true) (by rfl)
theorem Co m:∀M10 x0 x1 x2,l20 jn m aud [] M10 (LC x0 x1 x2)=iO m (aR m) M10 x0 x1 x2
 |0,_,_,_=>rfl
 | M10+1,x0,x1,x2=>
   tl (g:=fun J=>(bif (decide (x0<(List.length (Dt.L x1 8):Int))) then
  (jj J 0 13 0 (LC x0 x1 x2) (e20 J m aEU [M10]))
   else
  (jj J 0 15 0 aEV (e20 J m aQg [])))) (by simp only[ah,Rp m M10 (iO m (aR m) M10) (Co m M10),Rq m];rfl)
theorem Ti m x0 x1 x2:e20 jn m aES [] (LC x0 x1 x2)=K6 m (aR m) x0 x1 x2:=
 tq (g:=fun J=>(jj J 1 11 (Nat.succ m) (LC x0 x1 x2) (l20 J m aud [] (Nat.succ m)))) (by simp only[ah,Co m];rfl)
theorem Tj m x0 x1:e20 jn m [1,1,1,1] [] (aqB x0 x1)=Aq m (aR m) x0 x1:=
 tq (g:=fun J=>(jj J 0 11 0 (LC 0 x0 x1) (e20 J m aES []))) (by simp only[ah,Ti m];rfl)
theorem Ed m:∀M5 x0 x1 x2,l20 jn m auc [] M5 (Yf x0 x1 x2)=jD m (aR m) M5 x0 x1 x2
 |0,_,_,_=>rfl
 | M5+1,x0,x1,x2=>
   tl (g:=fun J=>(bif (decide (x0<((List.length (Dt.L (Dt.fld x1 6) 1)):Int))) then
  (jj J 0 8 0 (Yf x0 x1 x2) (e20 J m aET [M5]))
   else
  (jj J 0 10 0 (aqB x1 x2) (e20 J m [1,1,1,1] [])))) (by simp only[ah,Tg m M5 (jD m (aR m) M5) (Ed m M5),Tj m];rfl)
theorem Tk m x0 x1 x2:e20 jn m aQh [] (Yf x0 x1 x2)=Ar m (aR m) x0 x1 x2:=
 tq (g:=fun J=>(jj J 1 6 (Nat.succ m) (Yf x0 x1 x2) (l20 J m auc [] (Nat.succ m)))) (by simp only[ah,Ed m];rfl)
theorem Tm m x0 x1:e20 jn m [1,1,1] [] (aqB x0 x1)=Au m (aR m) x0 x1:=
 tq (g:=fun J=>(jj J 0 6 0 (Yf 0 x0 x1) (e20 J m aQh []))) (by simp only[ah,Tk m];rfl)
theorem Tn m x0 x1 x2:e20 jn m [1,1,0,1] [] (aQk x0 x1 x2)=Av m (aR m) x0 x1 x2:=
 tq (g:=fun J=>(bif x0 then
  some false
   else
  (jj J 0 5 0 (aqB x1 x2) (e20 J m [1,1,1] [])))) (by simp only[ah,Tm m];rfl)
theorem Tp m x0 x1:e20 jn m [1,1] [] (aqB x0 x1)=Ay m (aR m) x0 x1:=
 tq (g:=fun J=>zm (fun y0 y1 y2=>jj J 0 4 0 (aQk y0 y1 y2) (e20 J m [1,1,0,1] [])) x0 x1) (by simp only[ah,Tn m];rfl)
theorem Tq m x0 x1 x2:e20 jn m [1,0,1] [] (aQl x0 x1 x2)=Az m (aR m) x0 x1 x2:=
 tq (g:=fun J=>(bif x0 then
  some false
   else
  (jj J 0 3 0 (aqB x1 x2) (e20 J m [1,1] [])))) (by simp only[ah,Tp m];rfl)
theorem ac6 m a0 a1:e20 jn m [] [] ⟨[.dat 39 a0,.dat 39 a1],[],0⟩=aR (m+1) a0 a1:=
 tq (g:=fun J=>EO (fun y0 y1 y2=>jj J 0 2 0 (aQl y0 y1 y2) (e20 J m [1,0,1] [])) m a0 a1) (by simp only[ah,Tq m];rfl)
def azt:List Nat:=[1,1,0,1,0]
def aEX:List Nat:=[1,1,0,1,0,0,1]
def aQn:List Nat:=aEX++[1]
def e52 (J:Q0) m:=evAt Tryz.prog env (ct m) J (m+1) 63 27 Tryz.f63 d17
def l52 (J:Q0) m:=loopAt Tryz.prog env (ct m) J (m+1) 63 27 Tryz.f63 d17
def Yg x0 x1 x2:=stO [tsL 0 41 x0,tsL 1 41 x1,tsI 5 x2] []
def aQo:=stO [] []
def aQp x0 x1:=stO [tsL 0 41 x0,tsL 1 41 x1] []
abbrev aQq (m M2:Nat) (rec2:Q11):Prop:=∀x0 x1 x2,l52 jn m azt [] M2 (Yg x0 x1 x2)=rec2 x0 x1 x2
theorem Tt m M2 rec2 (h2:aQq m M2 rec2) x0 x1 x2:e52 jn m aQn [M2] (Yg x0 x1 x2)=jE m rec2 x0 x1 x2:=
 tq (g:=fun J=>(jj J 1 4 M2 (Yg x0 x1 (IntKind.wrap .i64 (x2+1))) (l52 J m azt [] M2))) (by simp only[ah,h2];rfl)
theorem Tw m M2 rec2 (h2:aQq m M2 rec2) x0 x1 x2:e52 jn m aEX [M2] (Yg x0 x1 x2)=jF m rec2 x0 x1 x2:=
 tq (g:=fun J=>iP (fun y0 y1 y2=>jj J 0 5 0 (Yg y0 y1 y2) (e52 J m aQn [M2])) m x0 x1 x2) (by simp only[ah,Tt m M2 rec2 h2];rfl)
theorem Tz m:e52 jn m [1,1,1] [] aQo=jG m:=
 tq (g:=fun J=>some true) (by rfl)
theorem Ee m:∀M2 x0 x1 x2,l52 jn m azt [] M2 (Yg x0 x1 x2)=gQ m M2 x0 x1 x2
 |0,_,_,_=>rfl
 | M2+1,x0,x1,x2=>
   tl (g:=fun J=>(bif (decide (x2<(List.length x0:Int))) then
  (jj J 0 6 0 (Yg x0 x1 x2) (e52 J m aEX [M2]))
   else
  (jj J 0 8 0 aQo (e52 J m [1,1,1] [])))) (by simp only[ah,Tw m M2 (gQ m M2) (Ee m M2),Tz m];rfl)
theorem TA m x0 x1 x2:e52 jn m [1,1,0,1] [] (Yg x0 x1 x2)=jH m x0 x1 x2:=
 tq (g:=fun J=>(jj J 1 4 (Nat.succ m) (Yg x0 x1 x2) (l52 J m azt [] (Nat.succ m)))) (by simp only[ah,Ee m];rfl)
theorem TD m x0 x1:e52 jn m [1,1] [] (aQp x0 x1)=jI m x0 x1:=
 tq (g:=fun J=>(jj J 0 4 0 (Yg x0 x1 0) (e52 J m [1,1,0,1] []))) (by simp only[ah,TA m];rfl)
theorem ac7 m a0 a1:e52 jn m [] [] ⟨[.dat 41 (.lst a0),.dat 41 (.lst a1)],[],0⟩=cB (m+1) a0 a1:=
 tq (g:=fun J=>(bif ((List.length a0:Int) !=(List.length a1:Int)) then
  some false
   else
  (jj J 0 3 0 (aQp a0 a1) (e52 J m [1,1] [])))) (by simp only[ah,TD m];rfl)
def azu:List Nat:=[1,1,0,1,0]
def aQr:List Nat:=[1,1,1,0,1]
def aue:List Nat:=[1,1,1,0,1,0]
def azv:List Nat:=[1,1,0,1,0,0,1]
def aQs:List Nat:=azv++[1]
def azw:List Nat:=aue++[0,1]
def aQt:List Nat:=azw++[1]
def aQu:List Nat:=azv++[0,0,1,1]
def aQv:List Nat:=azw++[0,0,1]
def e22 (J:Q0) m:=evAt Tryz.prog env (ct m) J (m+1) 30 121 Tryz.f30 d17
def l22 (J:Q0) m:=loopAt Tryz.prog env (ct m) J (m+1) 30 121 Tryz.f30 d17
def Yh x0 x1 x2:=stO [tsP 2 0,tsP 3 1,tsI 5 x0] [obX 45 x1,obX 45 x2]
def aQw x0 x1 x2 x3:=stO [tsP 2 0,tsP 3 1,tsI 5 x0,tsB 83 x1] [obX 45 x2,obX 45 x3]
def LD x0 x1 x2:=stO [tsP 2 0,tsP 3 1,tsI 8 x0] [obX 45 x1,obX 45 x2]
def aEY x0 x1 x2 x3:=stO [tsP 2 0,tsP 3 1,tsI 8 x0,tsB 120 x1] [obX 45 x2,obX 45 x3]
def aEZ:=stO [] []
def azx x0 x1:=stO [tsP 2 0,tsP 3 1] [obX 45 x0,obX 45 x1]
def aQx x0 x1 x2:=stO [tsP 2 0,tsP 3 1,tsB 46 x0] [obX 45 x1,obX 45 x2]
abbrev aE0 (m M3:Nat) (rec3:Q3):Prop:=∀x0 x1 x2,l22 jn m azu [] M3 (Yh x0 x1 x2)=rec3 x0 x1 x2
theorem ag5 m M3 rec3 (h3:aE0 m M3 rec3) x0 x1 x2:e22 jn m aQs [M3] (Yh x0 x1 x2)=Md m rec3 x0 x1 x2:=
 tq (g:=fun J=>(jj J 1 4 M3 (Yh (IntKind.wrap .i64 (x0+1)) x1 x2) (l22 J m azu [] M3))) (by simp only[ah,h3];rfl)
theorem ag6 m M3 rec3 (h3:aE0 m M3 rec3) x0 x1 x2 x3:e22 jn m aQu [M3] (aQw x0 x1 x2 x3)=Me m rec3 x0 x1 x2 x3:=
 tq (g:=fun J=>(bif x1 then
  some false
   else
  (jj J 0 5 0 (Yh x0 x2 x3) (e22 J m aQs [M3])))) (by simp only[ah,ag5 m M3 rec3 h3];rfl)
theorem ag7 m M3 rec3 (h3:aE0 m M3 rec3) x0 x1 x2:e22 jn m azv [M3] (Yh x0 x1 x2)=Mg m rec3 x0 x1 x2:=
 tq (g:=fun J=>Iy (fun y0 y1 y2 y3=>jj J 0 8 0 (aQw y0 y1 y2 y3) (e22 J m aQu [M3])) m x0 x1 x2) (by simp only[ah,ag6 m M3 rec3 h3];rfl)
abbrev aE1 (m M9:Nat) (rec9:Q3):Prop:=∀x0 x1 x2,l22 jn m aue [] M9 (LD x0 x1 x2)=rec9 x0 x1 x2
theorem ac8 m M9 rec9 (h9:aE1 m M9 rec9) x0 x1 x2:e22 jn m aQt [M9] (LD x0 x1 x2)=Iz m rec9 x0 x1 x2:=
 tq (g:=fun J=>(jj J 1 10 M9 (LD (IntKind.wrap .i64 (x0+1)) x1 x2) (l22 J m aue [] M9))) (by simp only[ah,h9];rfl)
theorem ac9 m M9 rec9 (h9:aE1 m M9 rec9) x0 x1 x2 x3:e22 jn m aQv [M9] (aEY x0 x1 x2 x3)=IB m rec9 x0 x1 x2 x3:=
 tq (g:=fun J=>(bif x1 then
  some false
   else
  (jj J 0 11 0 (LD x0 x2 x3) (e22 J m aQt [M9])))) (by simp only[ah,ac8 m M9 rec9 h9];rfl)
theorem ada m M9 rec9 (h9:aE1 m M9 rec9) x0 x1 x2:e22 jn m azw [M9] (LD x0 x1 x2)=IC m rec9 x0 x1 x2:=
 tq (g:=fun J=>EP (fun y0 y1 y2 y3=>jj J 0 13 0 (aEY y0 y1 y2 y3) (e22 J m aQv [M9])) m x0 x1 x2) (by simp only[ah,ac9 m M9 rec9 h9];rfl)
theorem adb m:e22 jn m [1,1,1,1] [] aEZ=IE m:=
 tq (g:=fun J=>some true) (by rfl)
theorem Oj m:∀M9 x0 x1 x2,l22 jn m aue [] M9 (LD x0 x1 x2)=uo m M9 x0 x1 x2
 |0,_,_,_=>rfl
 | M9+1,x0,x1,x2=>
   tl (g:=fun J=>(bif (decide (x0<(List.length (Dt.L x1 4):Int))) then
  (jj J 0 12 0 (LD x0 x1 x2) (e22 J m azw [M9]))
   else
  (jj J 0 14 0 aEZ (e22 J m [1,1,1,1] [])))) (by simp only[ah,ada m M9 (uo m M9) (Oj m M9),adb m];rfl)
theorem ag8 m x0 x1 x2:e22 jn m aQr [] (LD x0 x1 x2)=YA m x0 x1 x2:=
 tq (g:=fun J=>(jj J 1 10 (Nat.succ m) (LD x0 x1 x2) (l22 J m aue [] (Nat.succ m)))) (by simp only[ah,Oj m];rfl)
theorem ag9 m x0 x1:e22 jn m [1,1,1] [] (azx x0 x1)=Mh m x0 x1:=
 tq (g:=fun J=>(jj J 0 10 0 (LD 0 x0 x1) (e22 J m aQr []))) (by simp only[ah,ag8 m];rfl)
theorem Ol m:∀M3 x0 x1 x2,l22 jn m azu [] M3 (Yh x0 x1 x2)=uq m M3 x0 x1 x2
 |0,_,_,_=>rfl
 | M3+1,x0,x1,x2=>
   tl (g:=fun J=>(bif (decide (x0<(List.length (Dt.L x1 3):Int))) then
  (jj J 0 6 0 (Yh x0 x1 x2) (e22 J m azv [M3]))
   else
  (jj J 0 9 0 (azx x1 x2) (e22 J m [1,1,1] [])))) (by simp only[ah,ag7 m M3 (uq m M3) (Ol m M3),ag9 m];rfl)
theorem aha m x0 x1 x2:e22 jn m [1,1,0,1] [] (Yh x0 x1 x2)=Mi m x0 x1 x2:=
 tq (g:=fun J=>(jj J 1 4 (Nat.succ m) (Yh x0 x1 x2) (l22 J m azu [] (Nat.succ m)))) (by simp only[ah,Ol m];rfl)
theorem ahb m x0 x1:e22 jn m [1,1] [] (azx x0 x1)=Mj m x0 x1:=
 tq (g:=fun J=>(jj J 0 4 0 (Yh 0 x0 x1) (e22 J m [1,1,0,1] []))) (by simp only[ah,aha m];rfl)
theorem ahc m x0 x1 x2:e22 jn m [1,0,1] [] (aQx x0 x1 x2)=Mk m x0 x1 x2:=
 tq (g:=fun J=>(bif x0 then
  some false
   else
  (jj J 0 3 0 (azx x1 x2) (e22 J m [1,1] [])))) (by simp only[ah,ahb m];rfl)
theorem ao3 m a0 a1:e22 jn m [] [] ⟨[.dat 45 a0,.dat 45 a1],[],0⟩=vw (m+1) a0 a1:=
 tq (g:=fun J=>UL (fun y0 y1 y2=>jj J 0 2 0 (aQx y0 y1 y2) (e22 J m [1,0,1] [])) m a0 a1) (by simp only[ah,ahc m];rfl)
def e5 (J:Q0) m:=evAt Tryz.prog env (ct m) J (m+1) 9 45 Tryz.f9 d17
theorem Zv m a0 a1:e5 jn m [] [] ⟨[.dat 47 a0,.dat 47 a1],[],0⟩=jV (m+1) a0 a1:=
 tq (g:=fun J=>jV (m+1) a0 a1) (by rfl)
def azy:List Nat:=[1,1,0,1,0]
def aE2:List Nat:=[1,1,0,1,0,0,1]
def aQy:List Nat:=aE2++[1]
def e55 (J:Q0) m:=evAt Tryz.prog env (ct m) J (m+1) 68 77 Tryz.f68 d17
def l55 (J:Q0) m:=loopAt Tryz.prog env (ct m) J (m+1) 68 77 Tryz.f68 d17
def Yi x0 x1 x2:=stO [tsP 2 0,tsP 3 1,tsI 5 x0] [obX 36 x1,obX 36 x2]
def aQz:=stO [] []
def aQA x0 x1:=stO [tsP 2 0,tsP 3 1] [obX 36 x0,obX 36 x1]
def aQB x0 x1 x2:=stO [tsP 2 0,tsP 3 1,tsB 57 x0] [obX 36 x1,obX 36 x2]
abbrev aQC (m M3:Nat) (rec3:Q3):Prop:=∀x0 x1 x2,l55 jn m azy [] M3 (Yi x0 x1 x2)=rec3 x0 x1 x2
theorem TF m M3 rec3 (h3:aQC m M3 rec3) x0 x1 x2:e55 jn m aQy [M3] (Yi x0 x1 x2)=jJ m (aD m) rec3 x0 x1 x2:=
 tq (g:=fun J=>(jj J 1 4 M3 (Yi (IntKind.wrap .i64 (x0+1)) x1 x2) (l55 J m azy [] M3))) (by simp only[ah,h3];rfl)
theorem TG m M3 rec3 (h3:aQC m M3 rec3) x0 x1 x2:e55 jn m aE2 [M3] (Yi x0 x1 x2)=jK m (aD m) rec3 x0 x1 x2:=
 tq (g:=fun J=>iQ (fun y0 y1 y2=>jj J 0 5 0 (Yi y0 y1 y2) (e55 J m aQy [M3])) (aD m) x0 x1 x2) (by simp only[ah,TF m M3 rec3 h3];rfl)
theorem TH m:e55 jn m [1,1,1] [] aQz=jL m (aD m):=
 tq (g:=fun J=>some true) (by rfl)
theorem Ef m:∀M3 x0 x1 x2,l55 jn m azy [] M3 (Yi x0 x1 x2)=fI m (aD m) M3 x0 x1 x2
 |0,_,_,_=>rfl
 | M3+1,x0,x1,x2=>
   tl (g:=fun J=>(bif (decide (x0<(List.length (Dt.L x1 6):Int))) then
  (jj J 0 6 0 (Yi x0 x1 x2) (e55 J m aE2 [M3]))
   else
  (jj J 0 8 0 aQz (e55 J m [1,1,1] [])))) (by simp only[ah,TG m M3 (fI m (aD m) M3) (Ef m M3),TH m];rfl)
theorem TK m x0 x1 x2:e55 jn m [1,1,0,1] [] (Yi x0 x1 x2)=gT m (aD m) x0 x1 x2:=
 tq (g:=fun J=>(jj J 1 4 (Nat.succ m) (Yi x0 x1 x2) (l55 J m azy [] (Nat.succ m)))) (by simp only[ah,Ef m];rfl)
theorem TL m x0 x1:e55 jn m [1,1] [] (aQA x0 x1)=gU m (aD m) x0 x1:=
 tq (g:=fun J=>(jj J 0 4 0 (Yi 0 x0 x1) (e55 J m [1,1,0,1] []))) (by simp only[ah,TK m];rfl)
theorem TM m x0 x1 x2:e55 jn m [1,0,1] [] (aQB x0 x1 x2)=bq m (aD m) x0 x1 x2:=
 tq (g:=fun J=>(bif x0 then
  some false
   else
  (jj J 0 3 0 (aQA x1 x2) (e55 J m [1,1] [])))) (by simp only[ah,TL m];rfl)
theorem ade m a0 a1:e55 jn m [] [] ⟨[.dat 36 a0,.dat 36 a1],[],0⟩=aD (m+1) a0 a1:=
 tq (g:=fun J=>sZ (fun y0 y1 y2=>jj J 0 2 0 (aQB y0 y1 y2) (e55 J m [1,0,1] [])) m a0 a1) (by simp only[ah,TM m];rfl)
def azz:List Nat:=[1,1,0,1,0]
def aE3:List Nat:=[1,1,0,1,0,0,1]
def aQD:List Nat:=aE3++[1]
def e58 (J:Q0) m:=evAt Tryz.prog env (ct m) J (m+1) 64 93 Tryz.f64 d17
def l58 (J:Q0) m:=loopAt Tryz.prog env (ct m) J (m+1) 64 93 Tryz.f64 d17
def Yj x0 x1 x2:=stO [tsP 2 0,tsP 3 1,tsI 5 x0] [obX 39 x1,obX 39 x2]
def aQE:=stO [] []
def aQF x0 x1:=stO [tsP 2 0,tsP 3 1] [obX 39 x0,obX 39 x1]
abbrev aQG (m M2:Nat) (rec2:Q3):Prop:=∀x0 x1 x2,l58 jn m azz [] M2 (Yj x0 x1 x2)=rec2 x0 x1 x2
theorem TN m M2 rec2 (h2:aQG m M2 rec2) x0 x1 x2:e58 jn m aQD [M2] (Yj x0 x1 x2)=jM m (aY m) rec2 x0 x1 x2:=
 tq (g:=fun J=>(jj J 1 4 M2 (Yj (IntKind.wrap .i64 (x0+1)) x1 x2) (l58 J m azz [] M2))) (by simp only[ah,h2];rfl)
theorem TP m M2 rec2 (h2:aQG m M2 rec2) x0 x1 x2:e58 jn m aE3 [M2] (Yj x0 x1 x2)=jN m (aY m) rec2 x0 x1 x2:=
 tq (g:=fun J=>iR (fun y0 y1 y2=>jj J 0 5 0 (Yj y0 y1 y2) (e58 J m aQD [M2])) (aY m) x0 x1 x2) (by simp only[ah,TN m M2 rec2 h2];rfl)
theorem TW m:e58 jn m [1,1,1] [] aQE=jO m (aY m):=
 tq (g:=fun J=>some true) (by rfl)
theorem Eh m:∀M2 x0 x1 x2,l58 jn m azz [] M2 (Yj x0 x1 x2)=gV m (aY m) M2 x0 x1 x2
 |0,_,_,_=>rfl
 | M2+1,x0,x1,x2=>
   tl (g:=fun J=>(bif (decide (x0<(List.length (Dt.L x1 8):Int))) then
  (jj J 0 6 0 (Yj x0 x1 x2) (e58 J m aE3 [M2]))
   else
  (jj J 0 8 0 aQE (e58 J m [1,1,1] [])))) (by simp only[ah,TP m M2 (gV m (aY m) M2) (Eh m M2),TW m];rfl)
theorem TY m x0 x1 x2:e58 jn m [1,1,0,1] [] (Yj x0 x1 x2)=jP m (aY m) x0 x1 x2:=
 tq (g:=fun J=>(jj J 1 4 (Nat.succ m) (Yj x0 x1 x2) (l58 J m azz [] (Nat.succ m)))) (by simp only[ah,Eh m];rfl)
theorem T9 m x0 x1:e58 jn m [1,1] [] (aQF x0 x1)=jQ m (aY m) x0 x1:=
 tq (g:=fun J=>(jj J 0 4 0 (Yj 0 x0 x1) (e58 J m [1,1,0,1] []))) (by simp only[ah,TY m];rfl)
theorem adf m a0 a1:e58 jn m [] [] ⟨[.dat 39 a0,.dat 39 a1],[],0⟩=aY (m+1) a0 a1:=
 tq (g:=fun J=>yB (fun y0 y1=>jj J 0 3 0 (aQF y0 y1) (e58 J m [1,1] [])) m a0 a1) (by simp only[ah,T9 m];rfl)
def azA:List Nat:=[1,1,0,1,0]
def azB:List Nat:=[1,1,0,1,0,0,1]
def aQH:List Nat:=azB++[1]
def aQI:List Nat:=azB++[0,0,1]
def e61 (J:Q0) m:=evAt Tryz.prog env (ct m) J (m+1) 67 42 Tryz.f67 d17
def l61 (J:Q0) m:=loopAt Tryz.prog env (ct m) J (m+1) 67 42 Tryz.f67 d17
def Yk x0 x1 x2:=stO [tsL 0 40 x0,tsL 1 40 x1,tsI 5 x2] []
def aQJ x0 x1 x2 x3:=stO [tsL 0 40 x0,tsL 1 40 x1,tsI 5 x2,tsB 41 x3] []
def aQK:=stO [] []
def aQL x0 x1:=stO [tsL 0 40 x0,tsL 1 40 x1] []
abbrev aE4 (m M2:Nat) (rec2:Q11):Prop:=∀x0 x1 x2,l61 jn m azA [] M2 (Yk x0 x1 x2)=rec2 x0 x1 x2
theorem Py m M2 rec2 (h2:aE4 m M2 rec2) x0 x1 x2:e61 jn m aQH [M2] (Yk x0 x1 x2)=lu m rec2 x0 x1 x2:=
 tq (g:=fun J=>(jj J 1 4 M2 (Yk x0 x1 (IntKind.wrap .i64 (x2+1))) (l61 J m azA [] M2))) (by simp only[ah,h2];rfl)
theorem Pz m M2 rec2 (h2:aE4 m M2 rec2) x0 x1 x2 x3:e61 jn m aQI [M2] (aQJ x0 x1 x2 x3)=lC m rec2 x0 x1 x2 x3:=
 tq (g:=fun J=>(bif x3 then
  some false
   else
  (jj J 0 5 0 (Yk x0 x1 x2) (e61 J m aQH [M2])))) (by simp only[ah,Py m M2 rec2 h2];rfl)
theorem PD m M2 rec2 (h2:aE4 m M2 rec2) x0 x1 x2:e61 jn m azB [M2] (Yk x0 x1 x2)=lD m rec2 x0 x1 x2:=
 tq (g:=fun J=>jh (fun y0 y1 y2 y3=>jj J 0 7 0 (aQJ y0 y1 y2 y3) (e61 J m aQI [M2])) m x0 x1 x2) (by simp only[ah,Pz m M2 rec2 h2];rfl)
theorem PE m:e61 jn m [1,1,1] [] aQK=lF m:=
 tq (g:=fun J=>some true) (by rfl)
theorem Ad m:∀M2 x0 x1 x2,l61 jn m azA [] M2 (Yk x0 x1 x2)=iw m M2 x0 x1 x2
 |0,_,_,_=>rfl
 | M2+1,x0,x1,x2=>
   tl (g:=fun J=>(bif (decide (x2<(List.length x0:Int))) then
  (jj J 0 6 0 (Yk x0 x1 x2) (e61 J m azB [M2]))
   else
  (jj J 0 8 0 aQK (e61 J m [1,1,1] [])))) (by simp only[ah,PD m M2 (iw m M2) (Ad m M2),PE m];rfl)
theorem PG m x0 x1 x2:e61 jn m [1,1,0,1] [] (Yk x0 x1 x2)=lG m x0 x1 x2:=
 tq (g:=fun J=>(jj J 1 4 (Nat.succ m) (Yk x0 x1 x2) (l61 J m azA [] (Nat.succ m)))) (by simp only[ah,Ad m];rfl)
theorem PI m x0 x1:e61 jn m [1,1] [] (aQL x0 x1)=lH m x0 x1:=
 tq (g:=fun J=>(jj J 0 4 0 (Yk x0 x1 0) (e61 J m [1,1,0,1] []))) (by simp only[ah,PG m];rfl)
theorem WJ m a0 a1:e61 jn m [] [] ⟨[.dat 40 (.lst a0),.dat 40 (.lst a1)],[],0⟩=dA (m+1) a0 a1:=
 tq (g:=fun J=>(bif ((List.length a0:Int) !=(List.length a1:Int)) then
  some false
   else
  (jj J 0 3 0 (aQL a0 a1) (e61 J m [1,1] [])))) (by simp only[ah,PI m];rfl)
def azC:List Nat:=[1,1,0,1,0]
def azD:List Nat:=[1,1,0,1,0,0,1]
def aQM:List Nat:=azD++[1]
def aQN:List Nat:=azD++[0,0,1,1]
def e56 (J:Q0) m:=evAt Tryz.prog env (ct m) J (m+1) 69 75 Tryz.f69 d17
def l56 (J:Q0) m:=loopAt Tryz.prog env (ct m) J (m+1) 69 75 Tryz.f69 d17
def Yl x0 x1 x2:=stO [tsP 2 0,tsP 3 1,tsI 5 x0] [obX 61 x1,obX 61 x2]
def aQO x0 x1 x2 x3:=stO [tsP 2 0,tsP 3 1,tsI 5 x0,tsB 74 x1] [obX 61 x2,obX 61 x3]
def aQP:=stO [] []
def aQQ x0 x1:=stO [tsP 2 0,tsP 3 1] [obX 61 x0,obX 61 x1]
def aQR x0 x1 x2:=stO [tsP 2 0,tsP 3 1,tsB 22 x0] [obX 61 x1,obX 61 x2]
abbrev aE5 (m M3:Nat) (rec3:Q3):Prop:=∀x0 x1 x2,l56 jn m azC [] M3 (Yl x0 x1 x2)=rec3 x0 x1 x2
theorem Rs m M3 rec3 (h3:aE5 m M3 rec3) x0 x1 x2:e56 jn m aQM [M3] (Yl x0 x1 x2)=mU m rec3 x0 x1 x2:=
 tq (g:=fun J=>(jj J 1 4 M3 (Yl (IntKind.wrap .i64 (x0+1)) x1 x2) (l56 J m azC [] M3))) (by simp only[ah,h3];rfl)
theorem Rt m M3 rec3 (h3:aE5 m M3 rec3) x0 x1 x2 x3:e56 jn m aQN [M3] (aQO x0 x1 x2 x3)=mV m rec3 x0 x1 x2 x3:=
 tq (g:=fun J=>(bif x1 then
  some false
   else
  (jj J 0 5 0 (Yl x0 x2 x3) (e56 J m aQM [M3])))) (by simp only[ah,Rs m M3 rec3 h3];rfl)
theorem Ru m M3 rec3 (h3:aE5 m M3 rec3) x0 x1 x2:e56 jn m azD [M3] (Yl x0 x1 x2)=mW m rec3 x0 x1 x2:=
 tq (g:=fun J=>lI (fun y0 y1 y2 y3=>jj J 0 8 0 (aQO y0 y1 y2 y3) (e56 J m aQN [M3])) m x0 x1 x2) (by simp only[ah,Rt m M3 rec3 h3];rfl)
theorem Rv m:e56 jn m [1,1,1] [] aQP=mX m:=
 tq (g:=fun J=>some true) (by rfl)
theorem Cq m:∀M3 x0 x1 x2,l56 jn m azC [] M3 (Yl x0 x1 x2)=iT m M3 x0 x1 x2
 |0,_,_,_=>rfl
 | M3+1,x0,x1,x2=>
   tl (g:=fun J=>(bif (decide (x0<(List.length (Dt.L x1 1):Int))) then
  (jj J 0 6 0 (Yl x0 x1 x2) (e56 J m azD [M3]))
   else
  (jj J 0 9 0 aQP (e56 J m [1,1,1] [])))) (by simp only[ah,Ru m M3 (iT m M3) (Cq m M3),Rv m];rfl)
theorem Rw m x0 x1 x2:e56 jn m [1,1,0,1] [] (Yl x0 x1 x2)=mY m x0 x1 x2:=
 tq (g:=fun J=>(jj J 1 4 (Nat.succ m) (Yl x0 x1 x2) (l56 J m azC [] (Nat.succ m)))) (by simp only[ah,Cq m];rfl)
theorem Rx m x0 x1:e56 jn m [1,1] [] (aQQ x0 x1)=mZ m x0 x1:=
 tq (g:=fun J=>(jj J 0 4 0 (Yl 0 x0 x1) (e56 J m [1,1,0,1] []))) (by simp only[ah,Rw m];rfl)
theorem Ry m x0 x1 x2:e56 jn m [1,0,1] [] (aQR x0 x1 x2)=ng m x0 x1 x2:=
 tq (g:=fun J=>(bif x0 then
  some false
   else
  (jj J 0 3 0 (aQQ x1 x2) (e56 J m [1,1] [])))) (by simp only[ah,Rx m];rfl)
theorem Zw m a0 a1:e56 jn m [] [] ⟨[.dat 61 a0,.dat 61 a1],[],0⟩=jW (m+1) a0 a1:=
 tq (g:=fun J=>CB (fun y0 y1 y2=>jj J 0 2 0 (aQR y0 y1 y2) (e56 J m [1,0,1] [])) m a0 a1) (by simp only[ah,Ry m];rfl)
def azE:List Nat:=[1,1,0,1,0]
def azF:List Nat:=[1,1,0,1,0,0,1]
def aQS:List Nat:=azF++[1]
def aQT:List Nat:=azF++[0,0,1,1]
def e57 (J:Q0) m:=evAt Tryz.prog env (ct m) J (m+1) 70 89 Tryz.f70 d17
def l57 (J:Q0) m:=loopAt Tryz.prog env (ct m) J (m+1) 70 89 Tryz.f70 d17
def Ym x0 x1 x2:=stO [tsP 2 0,tsP 3 1,tsI 5 x0] [obX 64 x1,obX 64 x2]
def aQU x0 x1 x2 x3:=stO [tsP 2 0,tsP 3 1,tsI 5 x0,tsB 88 x1] [obX 64 x2,obX 64 x3]
def aQV:=stO [] []
def aQW x0 x1:=stO [tsP 2 0,tsP 3 1] [obX 64 x0,obX 64 x1]
def aQX x0 x1 x2:=stO [tsP 2 0,tsP 3 1,tsB 30 x0] [obX 64 x1,obX 64 x2]
abbrev aE6 (m M3:Nat) (rec3:Q3):Prop:=∀x0 x1 x2,l57 jn m azE [] M3 (Ym x0 x1 x2)=rec3 x0 x1 x2
theorem PK m M3 rec3 (h3:aE6 m M3 rec3) x0 x1 x2:e57 jn m aQS [M3] (Ym x0 x1 x2)=lJ m rec3 x0 x1 x2:=
 tq (g:=fun J=>(jj J 1 4 M3 (Ym (IntKind.wrap .i64 (x0+1)) x1 x2) (l57 J m azE [] M3))) (by simp only[ah,h3];rfl)
theorem PL m M3 rec3 (h3:aE6 m M3 rec3) x0 x1 x2 x3:e57 jn m aQT [M3] (aQU x0 x1 x2 x3)=lK m rec3 x0 x1 x2 x3:=
 tq (g:=fun J=>(bif x1 then
  some false
   else
  (jj J 0 5 0 (Ym x0 x2 x3) (e57 J m aQS [M3])))) (by simp only[ah,PK m M3 rec3 h3];rfl)
theorem PN m M3 rec3 (h3:aE6 m M3 rec3) x0 x1 x2:e57 jn m azF [M3] (Ym x0 x1 x2)=lM m rec3 x0 x1 x2:=
 tq (g:=fun J=>jk (fun y0 y1 y2 y3=>jj J 0 8 0 (aQU y0 y1 y2 y3) (e57 J m aQT [M3])) m x0 x1 x2) (by simp only[ah,PL m M3 rec3 h3];rfl)
theorem PO m:e57 jn m [1,1,1] [] aQV=lN m:=
 tq (g:=fun J=>some true) (by rfl)
theorem Ae m:∀M3 x0 x1 x2,l57 jn m azE [] M3 (Ym x0 x1 x2)=iy m M3 x0 x1 x2
 |0,_,_,_=>rfl
 | M3+1,x0,x1,x2=>
   tl (g:=fun J=>(bif (decide (x0<(List.length (Dt.L x1 2):Int))) then
  (jj J 0 6 0 (Ym x0 x1 x2) (e57 J m azF [M3]))
   else
  (jj J 0 9 0 aQV (e57 J m [1,1,1] [])))) (by simp only[ah,PN m M3 (iy m M3) (Ae m M3),PO m];rfl)
theorem PS m x0 x1 x2:e57 jn m [1,1,0,1] [] (Ym x0 x1 x2)=lQ m x0 x1 x2:=
 tq (g:=fun J=>(jj J 1 4 (Nat.succ m) (Ym x0 x1 x2) (l57 J m azE [] (Nat.succ m)))) (by simp only[ah,Ae m];rfl)
theorem PU m x0 x1:e57 jn m [1,1] [] (aQW x0 x1)=lS m x0 x1:=
 tq (g:=fun J=>(jj J 0 4 0 (Ym 0 x0 x1) (e57 J m [1,1,0,1] []))) (by simp only[ah,PS m];rfl)
theorem PV m x0 x1 x2:e57 jn m [1,0,1] [] (aQX x0 x1 x2)=lT m x0 x1 x2:=
 tq (g:=fun J=>(bif x0 then
  some false
   else
  (jj J 0 3 0 (aQW x1 x2) (e57 J m [1,1] [])))) (by simp only[ah,PU m];rfl)
theorem WK m a0 a1:e57 jn m [] [] ⟨[.dat 64 a0,.dat 64 a1],[],0⟩=iU (m+1) a0 a1:=
 tq (g:=fun J=>AA (fun y0 y1 y2=>jj J 0 2 0 (aQX y0 y1 y2) (e57 J m [1,0,1] [])) m a0 a1) (by simp only[ah,PV m];rfl)
def e73 (J:Q0) m:=evAt Tryz.prog env (ct m) J (m+1) 75 6 Tryz.f75 d17
theorem adg m a0:e73 jn m [] [] ⟨[.dat 36 a0],[],0⟩=dB (m+1) a0:=
 tq (g:=fun J=>dB (m+1) a0) (by rfl)
def e75 (J:Q0) m:=evAt Tryz.prog env (ct m) J (m+1) 76 12 Tryz.f76 d17
theorem Zx m a0:e75 jn m [] [] ⟨[.dat 61 a0],[],0⟩=iF (m+1) a0:=
 tq (g:=fun J=>iF (m+1) a0) (by rfl)
def e76 (J:Q0) m:=evAt Tryz.prog env (ct m) J (m+1) 77 18 Tryz.f77 d17
theorem WL m a0:e76 jn m [] [] ⟨[.dat 64 a0],[],0⟩=dQ (m+1) a0:=
 tq (g:=fun J=>dQ (m+1) a0) (by rfl)
def azG:List Nat:=[1,1,0,1,0]
def azH:List Nat:=[1,1,0,1,0,0,1]
def aQY:List Nat:=azH++[1]
def aQZ:List Nat:=azH++[0,0,1]
def e94 (J:Q0) m:=evAt Tryz.prog env (ct m) J (m+1) 112 43 Tryz.f112 d17
def l94 (J:Q0) m:=loopAt Tryz.prog env (ct m) J (m+1) 112 43 Tryz.f112 d17
def Yn x0 x1 x2:=stO [tsL 0 43 x0,tsL 1 43 x1,tsI 5 x2] []
def aQ0 x0 x1 x2 x3:=stO [tsL 0 43 x0,tsL 1 43 x1,tsI 5 x2,tsB 42 x3] []
def aQ1:=stO [] []
def aQ2 x0 x1:=stO [tsL 0 43 x0,tsL 1 43 x1] []
abbrev aE7 (m M2:Nat) (rec2:Q11):Prop:=∀x0 x1 x2,l94 jn m azG [] M2 (Yn x0 x1 x2)=rec2 x0 x1 x2
theorem LG m M2 rec2 (h2:aE7 m M2 rec2) x0 x1 x2:e94 jn m aQY [M2] (Yn x0 x1 x2)=fK m rec2 x0 x1 x2:=
 tq (g:=fun J=>(jj J 1 4 M2 (Yn x0 x1 (IntKind.wrap .i64 (x2+1))) (l94 J m azG [] M2))) (by simp only[ah,h2];rfl)
theorem LH m M2 rec2 (h2:aE7 m M2 rec2) x0 x1 x2 x3:e94 jn m aQZ [M2] (aQ0 x0 x1 x2 x3)=fM m rec2 x0 x1 x2 x3:=
 tq (g:=fun J=>(bif x3 then
  some false
   else
  (jj J 0 5 0 (Yn x0 x1 x2) (e94 J m aQY [M2])))) (by simp only[ah,LG m M2 rec2 h2];rfl)
theorem LJ m M2 rec2 (h2:aE7 m M2 rec2) x0 x1 x2:e94 jn m azH [M2] (Yn x0 x1 x2)=fO m rec2 x0 x1 x2:=
 tq (g:=fun J=>fB (fun y0 y1 y2 y3=>jj J 0 7 0 (aQ0 y0 y1 y2 y3) (e94 J m aQZ [M2])) m x0 x1 x2) (by simp only[ah,LH m M2 rec2 h2];rfl)
theorem LK m:e94 jn m [1,1,1] [] aQ1=fP m:=
 tq (g:=fun J=>some true) (by rfl)
theorem xH m:∀M2 x0 x1 x2,l94 jn m azG [] M2 (Yn x0 x1 x2)=dS m M2 x0 x1 x2
 |0,_,_,_=>rfl
 | M2+1,x0,x1,x2=>
   tl (g:=fun J=>(bif (decide (x2<(List.length x0:Int))) then
  (jj J 0 6 0 (Yn x0 x1 x2) (e94 J m azH [M2]))
   else
  (jj J 0 8 0 aQ1 (e94 J m [1,1,1] [])))) (by simp only[ah,LJ m M2 (dS m M2) (xH m M2),LK m];rfl)
theorem LM m x0 x1 x2:e94 jn m [1,1,0,1] [] (Yn x0 x1 x2)=fQ m x0 x1 x2:=
 tq (g:=fun J=>(jj J 1 4 (Nat.succ m) (Yn x0 x1 x2) (l94 J m azG [] (Nat.succ m)))) (by simp only[ah,xH m];rfl)
theorem LP m x0 x1:e94 jn m [1,1] [] (aQ2 x0 x1)=fT m x0 x1:=
 tq (g:=fun J=>(jj J 0 4 0 (Yn x0 x1 0) (e94 J m [1,1,0,1] []))) (by simp only[ah,LM m];rfl)
theorem Rz m a0 a1:e94 jn m [] [] ⟨[.dat 43 (.lst a0),.dat 43 (.lst a1)],[],0⟩=cO (m+1) a0 a1:=
 tq (g:=fun J=>(bif ((List.length a0:Int) !=(List.length a1:Int)) then
  some false
   else
  (jj J 0 3 0 (aQ2 a0 a1) (e94 J m [1,1] [])))) (by simp only[ah,LP m];rfl)
def azI:List Nat:=[1,1,0,1,0]
def azJ:List Nat:=[1,1,0,1,0,0,1]
def aQ3:List Nat:=azJ++[1]
def aQ4:List Nat:=azJ++[0,0,1,1]
def e59 (J:Q0) m:=evAt Tryz.prog env (ct m) J (m+1) 65 79 Tryz.f65 d17
def l59 (J:Q0) m:=loopAt Tryz.prog env (ct m) J (m+1) 65 79 Tryz.f65 d17
def Yo x0 x1 x2:=stO [tsP 2 0,tsP 3 1,tsI 5 x0] [obX 45 x1,obX 45 x2]
def aQ5 x0 x1 x2 x3:=stO [tsP 2 0,tsP 3 1,tsI 5 x0,tsB 73 x1] [obX 45 x2,obX 45 x3]
def azK x0 x1:=stO [tsP 2 0,tsP 3 1] [obX 45 x0,obX 45 x1]
def aQ6 x0 x1 x2:=stO [tsP 2 0,tsP 3 1,tsB 36 x0] [obX 45 x1,obX 45 x2]
abbrev aE8 (m M3:Nat) (rec3:Q3):Prop:=∀x0 x1 x2,l59 jn m azI [] M3 (Yo x0 x1 x2)=rec3 x0 x1 x2
theorem Om m M3 rec3 (h3:aE8 m M3 rec3) x0 x1 x2:e59 jn m aQ3 [M3] (Yo x0 x1 x2)=dX m rec3 x0 x1 x2:=
 tq (g:=fun J=>(jj J 1 4 M3 (Yo (IntKind.wrap .i64 (x0+1)) x1 x2) (l59 J m azI [] M3))) (by simp only[ah,h3];rfl)
theorem Oo m M3 rec3 (h3:aE8 m M3 rec3) x0 x1 x2 x3:e59 jn m aQ4 [M3] (aQ5 x0 x1 x2 x3)=dY m rec3 x0 x1 x2 x3:=
 tq (g:=fun J=>(bif x1 then
  some false
   else
  (jj J 0 5 0 (Yo x0 x2 x3) (e59 J m aQ3 [M3])))) (by simp only[ah,Om m M3 rec3 h3];rfl)
theorem Oq m M3 rec3 (h3:aE8 m M3 rec3) x0 x1 x2:e59 jn m azJ [M3] (Yo x0 x1 x2)=dZ m rec3 x0 x1 x2:=
 tq (g:=fun J=>dU (fun y0 y1 y2 y3=>jj J 0 8 0 (aQ5 y0 y1 y2 y3) (e59 J m aQ4 [M3])) m x0 x1 x2) (by simp only[ah,Oo m M3 rec3 h3];rfl)
theorem Ot m x0 x1:e59 jn m [1,1,1] [] (azK x0 x1)=dI m x0 x1:=
 tq (g:=fun J=>dI m x0 x1) (by rfl)
theorem zV m:∀M3 x0 x1 x2,l59 jn m azI [] M3 (Yo x0 x1 x2)=eu m M3 x0 x1 x2
 |0,_,_,_=>rfl
 | M3+1,x0,x1,x2=>
   tl (g:=fun J=>(bif (decide (x0<(List.length (Dt.L x1 3):Int))) then
  (jj J 0 6 0 (Yo x0 x1 x2) (e59 J m azJ [M3]))
   else
  (jj J 0 9 0 (azK x1 x2) (e59 J m [1,1,1] [])))) (by simp only[ah,Oq m M3 (eu m M3) (zV m M3),Ot m];rfl)
theorem Ou m x0 x1 x2:e59 jn m [1,1,0,1] [] (Yo x0 x1 x2)=eB m x0 x1 x2:=
 tq (g:=fun J=>(jj J 1 4 (Nat.succ m) (Yo x0 x1 x2) (l59 J m azI [] (Nat.succ m)))) (by simp only[ah,zV m];rfl)
theorem Ov m x0 x1:e59 jn m [1,1] [] (azK x0 x1)=eD m x0 x1:=
 tq (g:=fun J=>(jj J 0 4 0 (Yo 0 x0 x1) (e59 J m [1,1,0,1] []))) (by simp only[ah,Ou m];rfl)
theorem Ow m x0 x1 x2:e59 jn m [1,0,1] [] (aQ6 x0 x1 x2)=cK m x0 x1 x2:=
 tq (g:=fun J=>(bif x0 then
  some false
   else
  (jj J 0 3 0 (azK x1 x2) (e59 J m [1,1] [])))) (by simp only[ah,Ov m];rfl)
theorem Ua m a0 a1:e59 jn m [] [] ⟨[.dat 45 a0,.dat 45 a1],[],0⟩=bM (m+1) a0 a1:=
 tq (g:=fun J=>rP (fun y0 y1 y2=>jj J 0 2 0 (aQ6 y0 y1 y2) (e59 J m [1,0,1] [])) m a0 a1) (by simp only[ah,Ow m];rfl)
def aQ7:List Nat:=[1,1,1,0,1]
def e26 (J:Q0) m:=evAt Tryz.prog env (ct m) J (m+1) 35 180 Tryz.f35 d17
def aqC x0:=stO [tsP 1 0] [obX 71 x0]
def aQ8 x0 x1:=stO [tsP 1 0,tsB 136 x0] [obX 71 x1]
def aQ9 x0 x1:=stO [tsP 1 0,tsB 90 x0] [obX 71 x1]
def aRa x0 x1:=stO [tsP 1 0,tsB 46 x0] [obX 71 x1]
theorem adh m x0:e26 jn m [1,1,1,1] [] (aqC x0)=vB m x0:=
 tq (g:=fun J=>vB m x0) (by rfl)
theorem adi m x0 x1:e26 jn m aQ7 [] (aQ8 x0 x1)=AB m x0 x1:=
 tq (g:=fun J=>(bif x0 then
  some true
   else
  (jj J 0 7 0 (aqC x1) (e26 J m [1,1,1,1] [])))) (by simp only[ah,adh m];rfl)
theorem adj m x0:e26 jn m [1,1,1] [] (aqC x0)=AJ m x0:=
 tq (g:=fun J=>ER (fun y0 y1=>jj J 0 6 0 (aQ8 y0 y1) (e26 J m aQ7 [])) m x0) (by simp only[ah,adi m];rfl)
theorem adk m x0 x1:e26 jn m [1,1,0,1] [] (aQ9 x0 x1)=AL m x0 x1:=
 tq (g:=fun J=>(bif x0 then
  some true
   else
  (jj J 0 5 0 (aqC x1) (e26 J m [1,1,1] [])))) (by simp only[ah,adj m];rfl)
theorem adl m x0:e26 jn m [1,1] [] (aqC x0)=AO m x0:=
 tq (g:=fun J=>ES (fun y0 y1=>jj J 0 4 0 (aQ9 y0 y1) (e26 J m [1,1,0,1] [])) m x0) (by simp only[ah,adk m];rfl)
theorem adn m x0 x1:e26 jn m [1,0,1] [] (aRa x0 x1)=AP m x0 x1:=
 tq (g:=fun J=>(bif x0 then
  some true
   else
  (jj J 0 3 0 (aqC x1) (e26 J m [1,1] [])))) (by simp only[ah,adl m];rfl)
theorem alB m a0:e26 jn m [] [] ⟨[.dat 71 a0],[],0⟩=qX (m+1) a0:=
 tq (g:=fun J=>P6 (fun y0 y1=>jj J 0 2 0 (aRa y0 y1) (e26 J m [1,0,1] [])) m a0) (by simp only[ah,adn m];rfl)
def e60 (J:Q0) m:=evAt Tryz.prog env (ct m) J (m+1) 66 10 Tryz.f66 d17
theorem ado m a0 a1:e60 jn m [] [] ⟨[.dat 43 (.lst a0),.dat 43 (.lst a1)],[],0⟩=ni (m+1) a0 a1:=
 tq (g:=fun J=>ni (m+1) a0 a1) (by rfl)
end Go.Proofs.YtjnkagkoolbodaaGreatDoor
