/- Generated: each function's run in the abstract machine is its shallow function. -/
import Derived.Test.YtmecfjhdnbgfeaaGreatDoorCt
import Derived.Test.YtmecfjhdnbgfeaaGreatDoorAmEnv
import Derived.KernelRfl
set_option linter.unusedVariables false
set_option linter.unusedSimpArgs false
noncomputable section
namespace Go.Proofs.YtmecfjhdnbgfeaaGreatDoor
open Go.Am
set_option maxRecDepth 100000
def amG:List Nat:=[1,1,0,1,0]
def e5 (J:Q1) (m:Nat):=evAt Tryz.prog env (ct m) J (m+1) 13 27 Tryz.f13 d5
def l5 (J:Q1) (m:Nat):=loopAt Tryz.prog env (ct m) J (m+1) 13 27 Tryz.f13 d5
def amH (x0 x1:List Dt) (x2 x3:Int):St:=⟨tsOf [(0,.dat 23 (.lst x0)),(1,.dat 23 (.lst x1)),(12,.dat 3 (.int x2)),(13,.dat 3 (.int x3))],[],0⟩
theorem tu m:∀M2 x0 x1 x2 x3,l5 jn m amG [] M2 (amH x0 x1 x2 x3)=jB m (bH m) M2 x0 x1 x2 x3
 |0,_,_,_,_=>rfl
 | M2+1,x0,x1,x2,x3=>
   tl (g:=fun J=>(bif (decide (x3<x2)) then
  (((idx x0 x3).bind fun v0=>((idx x1 x3).bind fun v1=>((bH m v0 v1).bind fun r2=>(bif (Bool.not r2) then some false else((jj J 1 4 M2 (amH x0 x1 x2 (IntKind.wrap .i64 (x3+1))) (l5 J m amG [] M2))))))))
   else
  (some true))) (by simp only[aj,(tu m M2)];rfl)
theorem FI m a0 a1:e5 jn m [] [] ⟨[.dat 23 (.lst a0),.dat 23 (.lst a1)],[],0⟩=aZ (m+1) a0 a1:=
 tq (g:=fun J=>(bif ((List.length a0:Int) !=(List.length a1:Int)) then
  some false
   else
  (((jj J 1 4 (Nat.succ m) (amH a0 a1 (List.length a0:Int) 0) (l5 J m amG [] (Nat.succ m))))))) (by simp only[aj,tu m];rfl)
def abf:List Nat:=[1,1,0,1,0]
def apN:List Nat:=[1,1,0,1,0,0,1,1]
def agz:List Nat:=apN++[0,0,1,1]
def e22 (J:Q1) (m:Nat):=evAt Tryz.prog env (ct m) J (m+1) 42 75 Tryz.f42 d5
def l22 (J:Q1) (m:Nat):=loopAt Tryz.prog env (ct m) J (m+1) 42 75 Tryz.f42 d5
def abg (x0 x1:Int) (x2 x3:Dt):St:=⟨tsOf [(2,.ptr 0 [] 0),(3,.ptr 1 [] 0),(36,.dat 3 (.int x0)),(37,.dat 3 (.int x1))],[.box 26 (.dat 26 x2),.box 26 (.dat 26 x3)],0⟩
def agA (x0 x1:Int) (x2:Bool) (x3 x4:Dt):St:=⟨tsOf [(2,.ptr 0 [] 0),(3,.ptr 1 [] 0),(36,.dat 3 (.int x0)),(37,.dat 3 (.int x1)),(68,.dat 4 (.bool x2))],[.box 26 (.dat 26 x3),.box 26 (.dat 26 x4)],0⟩
def Wo (x0:Bool) (x1 x2:Dt):St:=⟨tsOf [(2,.ptr 0 [] 0),(3,.ptr 1 [] 0),(33,.dat 4 (.bool x0))],[.box 26 (.dat 26 x1),.box 26 (.dat 26 x2)],0⟩
abbrev apO (m M3:Nat) (rec3:Q42):Prop:=∀x0 x1 x2 x3,l22 jn m abf [] M3 (abg x0 x1 x2 x3)=rec3 x0 x1 x2 x3
theorem H9 m M3 rec3 (h3:apO m M3 rec3) x0 x1 x2 x3 x4:e22 jn m agz [M3] (agA x0 x1 x2 x3 x4)=rW m (aZ m) (bH m) rec3 x0 x1 x2 x3 x4:=
 tq (g:=fun J=>(bif x2 then
  some false
   else
  ((jj J 1 4 M3 (abg x0 (IntKind.wrap .i64 (x1+1)) x3 x4) (l22 J m abf [] M3))))) (by simp only[aj,h3];rfl)
theorem yO m:∀M3 x0 x1 x2 x3,l22 jn m abf [] M3 (abg x0 x1 x2 x3)=jV m (aZ m) (bH m) M3 x0 x1 x2 x3
 |0,_,_,_,_=>rfl
 | M3+1,x0,x1,x2,x3=>
   tl (g:=fun J=>(bif (decide (x1<x0)) then
  (((idx (Dt.L x2 4) x1).bind fun v0=>((idx (Dt.L x3 4) x1).bind fun v1=>(bif (Bool.not ((ByteArray.toList (Dt.S v0 0))==(ByteArray.toList (Dt.S v1 0)))) then(jj J 0 7 0 (agA x0 x1 true x2 x3) (e22 J m agz [M3])) else((idx (Dt.L x2 4) x1).bind fun v2=>((idx (Dt.L x3 4) x1).bind fun v3=>((bH m (Dt.fld v2 1) (Dt.fld v3 1)).bind fun r4=>(jj J 0 7 0 (agA x0 x1 (Bool.not r4) x2 x3) (e22 J m agz [M3])))))))))
   else
  (((aZ m (Dt.L x2 3) (Dt.L x3 3)).bind fun r5=>some r5)))) (by simp only[aj,H9 m M3 (jV m (aZ m) (bH m) M3) (yO m M3)];rfl)
theorem Ia m x0 x1 x2:e22 jn m [1,0,1] [] (Wo x0 x1 x2)=mV m (aZ m) (bH m) x0 x1 x2:=
 tq (g:=fun J=>(bif x0 then
  some false
   else
  (((jj J 1 4 (Nat.succ m) (abg (List.length (Dt.L x1 4):Int) 0 x1 x2) (l22 J m abf [] (Nat.succ m))))))) (by simp only[aj,yO m];rfl)
theorem Pq m a0 a1:e22 jn m [] [] ⟨[.dat 26 a0,.dat 26 a1],[],0⟩=bH (m+1) a0 a1:=
 tq (g:=fun J=>(bif ((Dt.I a0 0) !=(Dt.I a1 0)) then
  (jj J 0 2 0 (Wo true a0 a1) (e22 J m [1,0,1] []))
   else
  (bif ((Dt.I a0 1) !=(Dt.I a1 1)) then
  (jj J 0 2 0 (Wo true a0 a1) (e22 J m [1,0,1] []))
  else
  (bif (Bool.not ((ByteArray.toList (Dt.S a0 2))==(ByteArray.toList (Dt.S a1 2)))) then
  (jj J 0 2 0 (Wo true a0 a1) (e22 J m [1,0,1] []))
  else
  (jj J 0 2 0 (Wo ((List.length (Dt.L a0 4):Int) !=(List.length (Dt.L a1 4):Int)) a0 a1) (e22 J m [1,0,1] [])))))) (by simp only[aj,Ia m];rfl)
def agB:List Nat:=[1,1,1,0,1,0]
def apP:List Nat:=[1,1,1,1,0,1]
def agC:List Nat:=apP++[0]
def e16 (J:Q0) (m:Nat):=evAt Tryz.prog env (ct m) J (m+1) 58 46 Tryz.f58 d16
def l16 (J:Q0) (m:Nat):=loopAt Tryz.prog env (ct m) J (m+1) 58 46 Tryz.f58 d16
def agD (x0:List Dt) (x1 x2:Int) (x3 x4:Dt) (x5 x6:Int) (x7:ByteArray) (x8 x9:List Dt):St:=⟨tsOf [(1,.ptr 0 [] 0),(2,.ptr 1 [] 0),(3,.ptr 2 [] 0),(12,.dat 23 (.lst x0)),(13,.dat 3 (.int x1)),(14,.dat 3 (.int x2))],[.box 26 (.dat 26 x3),.box 26 (.dat 26 x4),.box 26 (.agg 26 [.dat 3 (.int x5),.dat 3 (.int x6),.dat 9 (.str x7),.row 3,.row 4]),.row 23 x8,.row 24 x9],0⟩
def agE (x0:List Dt) (x1 x2:Int) (x3:Dt) (x4 x5:Int) (x6:ByteArray) (x7 x8:List Dt):St:=⟨tsOf [(2,.ptr 0 [] 0),(3,.ptr 1 [] 0),(27,.dat 24 (.lst x0)),(28,.dat 3 (.int x1)),(29,.dat 3 (.int x2))],[.box 26 (.dat 26 x3),.box 26 (.agg 26 [.dat 3 (.int x4),.dat 3 (.int x5),.dat 9 (.str x6),.row 2,.row 3]),.row 23 x7,.row 24 x8],0⟩
theorem qm m:∀M6 x0 x1 x2 x3 x4 x5 x6 x7 x8,l16 jn m agC [] M6 (agE x0 x1 x2 x3 x4 x5 x6 x7 x8)=gD m (aL m) M6 x0 x1 x2 x3 x4 x5 x6 x7 x8
 |0,_,_,_,_,_,_,_,_,_=>rfl
 | M6+1,x0,x1,x2,x3,x4,x5,x6,x7,x8=>
   tl (g:=fun J=>(bif (decide (x2<x1)) then
  (((idx x0 x2).bind fun v3=>((aL m (Dt.fld v3 1)).bind fun r4=>((app x8 [(Dt.agg [(Dt.str (Dt.S v3 0)),r4])]).bind fun v5=>((jj J 1 9 M6 (agE x0 x1 (IntKind.wrap .i64 (x2+1)) x3 x4 x5 x6 x7 v5) (l16 J m agC [] M6)))))))
   else
  (some (Dt.agg [(Dt.int x4),(Dt.int x5),(Dt.str x6),(Dt.lst x7),(Dt.lst x8)])))) (by simp only[aj,(qm m M6)];rfl)
theorem qo m:∀M1 x0 x1 x2 x3 x4 x5 x6 x7 x8 x9,l16 jn m agB [] M1 (agD x0 x1 x2 x3 x4 x5 x6 x7 x8 x9)=eu m (aL m) M1 x0 x1 x2 x3 x4 x5 x6 x7 x8 x9
 |0,_,_,_,_,_,_,_,_,_,_=>rfl
 | M1+1,x0,x1,x2,x3,x4,x5,x6,x7,x8,x9=>
   tl (g:=fun J=>(bif (decide (x2<x1)) then
  (((idx x0 x2).bind fun v0=>((aL m v0).bind fun r1=>((app x8 [r1]).bind fun v2=>((jj J 1 4 M1 (agD x0 x1 (IntKind.wrap .i64 (x2+1)) x3 x4 x5 x6 x7 v2 x9) (l16 J m agB [] M1)))))))
   else
  (((jj J 1 9 (Nat.succ m) (agE (Dt.L x3 4) (List.length (Dt.L x3 4):Int) 0 x4 x5 x6 x7 x8 x9) (l16 J m agC [] (Nat.succ m))))))) (by simp only[aj,(qo m M1),qm m];rfl)
theorem Bg m a0:e16 jn m [] [] ⟨[.dat 26 a0],[],0⟩=aL (m+1) a0:=
 tq (g:=fun J=>((jj J 1 4 (Nat.succ m) (agD (Dt.L a0 3) (List.length (Dt.L a0 3):Int) 0 a0 kza2373 (Dt.I a0 0) (Dt.I a0 1) (Dt.S a0 2) [] []) (l16 J m agB [] (Nat.succ m))))) (by simp only[aj,qo m];rfl)
def e21 (J:Q0) (m:Nat):=evAt Tryz.prog env (ct m) J (m+1) 59 2 Tryz.f59 d16
theorem Pv m:e21 jn m [] [] ⟨[],[],0⟩=rz (m+1):=
 tq (g:=fun J=>some nC) (by rfl)
def apQ:List Nat:=[1,1,0,1,0,1,1]
def Wp:List Nat:=apQ++[0]
def apR:List Nat:=[1,1,1,0,1,0,1,1]
def FJ:List Nat:=apR++[0]
def agF:List Nat:=Wp++[0,1,1]
def ak2:List Nat:=agF++[1]
def Wq:List Nat:=FJ++[0,1,1]
def abh:List Nat:=Wq++[1]
def e29 (J:Q0) (m:Nat):=evAt Tryz.prog env (ct m) J (m+1) 83 68 Tryz.f83 d16
def l29 (J:Q0) (m:Nat):=loopAt Tryz.prog env (ct m) J (m+1) 83 68 Tryz.f83 d16
def Jy (x0:List Dt) (x1 x2:Int) (x3 x4:Dt) (x5 x6:Int) (x7:ByteArray) (x8:List Dt):St:=⟨tsOf [(1,.ptr 0 [] 0),(2,.ptr 1 [] 0),(3,.ptr 2 [] 0),(25,.dat 23 (.lst x0)),(26,.dat 3 (.int x1)),(27,.dat 3 (.int x2))],[.box 26 (.dat 26 x3),.box 26 (.dat 26 x4),.box 26 (.agg 26 [.dat 3 (.int x5),.dat 3 (.int x6),.dat 9 (.str x7),.row 3,.nils 24]),.row 23 x8],0⟩
def Jz (x0:List Dt) (x1 x2:Int) (x3:Dt) (x4 x5:Int) (x6:ByteArray) (x7 x8:List Dt):St:=⟨tsOf [(2,.ptr 0 [] 0),(3,.ptr 1 [] 0),(49,.dat 24 (.lst x0)),(50,.dat 3 (.int x1)),(51,.dat 3 (.int x2))],[.box 26 (.dat 26 x3),.box 26 (.agg 26 [.dat 3 (.int x4),.dat 3 (.int x5),.dat 9 (.str x6),.row 2,.row 3]),.row 23 x7,.row 24 x8],0⟩
def ak3 (x0:Dt) (x1 x2:Int) (x3:ByteArray) (x4 x5:List Dt):St:=⟨tsOf [(2,.ptr 0 [] 0),(3,.ptr 1 [] 0)],[.box 26 (.dat 26 x0),.box 26 (.agg 26 [.dat 3 (.int x1),.dat 3 (.int x2),.dat 9 (.str x3),.row 2,.row 3]),.row 23 x4,.row 24 x5],0⟩
def agG (x0:Dt) (x1 x2:Int) (x3:ByteArray) (x4:List Dt):St:=⟨tsOf [(2,.ptr 0 [] 0),(3,.ptr 1 [] 0)],[.box 26 (.dat 26 x0),.box 26 (.agg 26 [.dat 3 (.int x1),.dat 3 (.int x2),.dat 9 (.str x3),.row 2,.nils 24]),.row 23 x4],0⟩
def ak4 (x0 x1:Dt) (x2 x3:Int) (x4:ByteArray) (x5:List Dt):St:=⟨tsOf [(1,.ptr 0 [] 0),(2,.ptr 1 [] 0),(3,.ptr 2 [] 0)],[.box 26 (.dat 26 x0),.box 26 (.dat 26 x1),.box 26 (.agg 26 [.dat 3 (.int x2),.dat 3 (.int x3),.dat 9 (.str x4),.row 3,.nils 24]),.row 23 x5],0⟩
def Bh (x0:List Dt) (x1 x2:Int) (x3:Dt) (x4 x5:Int) (x6:ByteArray) (x7 x8:List Dt):St:=⟨tsOf [(2,.ptr 0 [] 0),(3,.ptr 1 [] 0),(49,.dat 24 (.lst x0)),(50,.dat 3 (.int x1)),(51,.dat 3 (.int x2))],[.box 26 (.dat 26 x3),.box 26 (.agg 26 [.dat 3 (.int x4),.dat 3 (.int x5),.dat 9 (.str x6),.dat 23 (.lst x7),.row 2]),.row 24 x8],0⟩
def agH (x0:Dt) (x1 x2:Int) (x3:ByteArray) (x4 x5:List Dt):St:=⟨tsOf [(2,.ptr 0 [] 0),(3,.ptr 1 [] 0)],[.box 26 (.dat 26 x0),.box 26 (.agg 26 [.dat 3 (.int x1),.dat 3 (.int x2),.dat 9 (.str x3),.dat 23 (.lst x4),.row 2]),.row 24 x5],0⟩
def agI (x0 x1:Dt):St:=⟨tsOf [(2,.ptr 0 [] 0),(3,.ptr 1 [] 0)],[.box 26 (.dat 26 x0),.box 26 (.dat 26 x1)],0⟩
def agJ (x0 x1 x2:Dt):St:=⟨tsOf [(1,.ptr 0 [] 0),(2,.ptr 1 [] 0),(3,.ptr 2 [] 0)],[.box 26 (.dat 26 x0),.box 26 (.dat 26 x1),.box 26 (.dat 26 x2)],0⟩
abbrev ak5 (m M1:Nat) (rec1:Q52):Prop:=∀x0 x1 x2 x3 x4 x5 x6 x7 x8,l29 jn m Wp [] M1 (Jy x0 x1 x2 x3 x4 x5 x6 x7 x8)=rec1 x0 x1 x2 x3 x4 x5 x6 x7 x8
theorem Ib m M1 rec1 (h1:ak5 m M1 rec1) x0 x1 x2 x3 x4 x5 x6 x7 x8:e29 jn m ak2 [M1] (Jy x0 x1 x2 x3 x4 x5 x6 x7 x8)=xG m (aJ m) rec1 x0 x1 x2 x3 x4 x5 x6 x7 x8:=
 tq (g:=fun J=>(jj J 1 5 M1 (Jy x0 x1 (IntKind.wrap .i64 (x2+1)) x3 x4 x5 x6 x7 x8) (l29 J m Wp [] M1))) (by simp only[aj,h1];rfl)
theorem Ic m M1 rec1 (h1:ak5 m M1 rec1) x0 x1 x2 x3 x4 x5 x6 x7 x8:e29 jn m agF [M1] (Jy x0 x1 x2 x3 x4 x5 x6 x7 x8)=xH m (aJ m) rec1 x0 x1 x2 x3 x4 x5 x6 x7 x8:=
 tq (g:=fun J=>((idx x0 x2).bind fun v1=>
  ((aJ m v1).bind fun r2=>
  ((inL x8 x2).bind fun v3=>
  ((x8[(Int.toNat x2)]?).bind fun v4=>
  (jj J 0 8 0 (Jy x0 x1 x2 x3 x4 x5 x6 x7 (List.set x8 (Int.toNat x2) r2)) (e29 J m ak2 [M1]))))))) (by simp only[aj,Ib m M1 rec1 h1];rfl)
abbrev ak6 (m M6:Nat) (rec6:Q15):Prop:=∀x0 x1 x2 x3 x4 x5 x6 x7 x8,l29 jn m FJ [] M6 (Jz x0 x1 x2 x3 x4 x5 x6 x7 x8)=rec6 x0 x1 x2 x3 x4 x5 x6 x7 x8
theorem Ie m M6 rec6 (h6:ak6 m M6 rec6) x0 x1 x2 x3 x4 x5 x6 x7 x8:e29 jn m abh [M6] (Jz x0 x1 x2 x3 x4 x5 x6 x7 x8)=xI m (aJ m) rec6 x0 x1 x2 x3 x4 x5 x6 x7 x8:=
 tq (g:=fun J=>(jj J 1 12 M6 (Jz x0 x1 (IntKind.wrap .i64 (x2+1)) x3 x4 x5 x6 x7 x8) (l29 J m FJ [] M6))) (by simp only[aj,h6];rfl)
theorem Ig m M6 rec6 (h6:ak6 m M6 rec6) x0 x1 x2 x3 x4 x5 x6 x7 x8:e29 jn m Wq [M6] (Jz x0 x1 x2 x3 x4 x5 x6 x7 x8)=xJ m (aJ m) rec6 x0 x1 x2 x3 x4 x5 x6 x7 x8:=
 tq (g:=fun J=>((idx x0 x2).bind fun v6=>
  ((aJ m (Dt.fld v6 1)).bind fun r7=>
  ((inL x8 x2).bind fun v8=>
  ((x8[(Int.toNat x2)]?).bind fun v9=>
  (jj J 0 15 0 (Jz x0 x1 x2 x3 x4 x5 x6 x7 (List.set x8 (Int.toNat x2) (Dt.agg [(Dt.str (Dt.S v6 0)),r7]))) (e29 J m abh [M6]))))))) (by simp only[aj,Ie m M6 rec6 h6];rfl)
theorem Ih m x0 x1 x2 x3 x4 x5:e29 jn m [1,1,1,1] [] (ak3 x0 x1 x2 x3 x4 x5)=xK m (aJ m) x0 x1 x2 x3 x4 x5:=
 tq (g:=fun J=>some (Dt.agg [(Dt.int x1),(Dt.int x2),(Dt.str x3),(Dt.lst x4),(Dt.lst x5)])) (by rfl)
theorem yP m:∀M6 x0 x1 x2 x3 x4 x5 x6 x7 x8,l29 jn m FJ [] M6 (Jz x0 x1 x2 x3 x4 x5 x6 x7 x8)=mW m (aJ m) M6 x0 x1 x2 x3 x4 x5 x6 x7 x8
 |0,_,_,_,_,_,_,_,_,_=>rfl
 | M6+1,x0,x1,x2,x3,x4,x5,x6,x7,x8=>
   tl (g:=fun J=>(bif (decide (x2<x1)) then
  (jj J 0 13 0 (Jz x0 x1 x2 x3 x4 x5 x6 x7 x8) (e29 J m Wq [M6]))
   else
  (jj J 0 16 0 (ak3 x3 x4 x5 x6 x7 x8) (e29 J m [1,1,1,1] [])))) (by simp only[aj,Ig m M6 (mW m (aJ m) M6) (yP m M6),Ih m];rfl)
theorem FK m x0 x1 x2 x3 x4:e29 jn m [1,1,1,1] [] (agG x0 x1 x2 x3 x4)=Ag m (aJ m) x0 x1 x2 x3 x4:=
 tq (g:=fun J=>some (Dt.agg [(Dt.int x1),(Dt.int x2),(Dt.str x3),(Dt.lst x4),(Dt.lst [])])) (by rfl)
theorem Ii m x0 x1 x2 x3 x4 x5:e29 jn m [1,1,1] [] (ak4 x0 x1 x2 x3 x4 x5)=xL m (aJ m) x0 x1 x2 x3 x4 x5:=
 tq (g:=fun J=>(bif (decide (0<(List.length (Dt.L x0 4):Int))) then
  ((mkL (List.length (Dt.L x0 4):Int) (List.length (Dt.L x0 4):Int) BM).bind fun v5=>
  ((jj J 1 12 (Nat.succ m) (Jz (Dt.L x0 4) (List.length (Dt.L x0 4):Int) 0 x1 x2 x3 x4 x5 v5) (l29 J m FJ [] (Nat.succ m)))))
   else
  (jj J 0 16 0 (agG x1 x2 x3 x4 x5) (e29 J m [1,1,1,1] [])))) (by simp only[aj,yP m,FK m];rfl)
theorem yQ m:∀M1 x0 x1 x2 x3 x4 x5 x6 x7 x8,l29 jn m Wp [] M1 (Jy x0 x1 x2 x3 x4 x5 x6 x7 x8)=jW m (aJ m) M1 x0 x1 x2 x3 x4 x5 x6 x7 x8
 |0,_,_,_,_,_,_,_,_,_=>rfl
 | M1+1,x0,x1,x2,x3,x4,x5,x6,x7,x8=>
   tl (g:=fun J=>(bif (decide (x2<x1)) then
  (jj J 0 6 0 (Jy x0 x1 x2 x3 x4 x5 x6 x7 x8) (e29 J m agF [M1]))
   else
  (jj J 0 9 0 (ak4 x3 x4 x5 x6 x7 x8) (e29 J m [1,1,1] [])))) (by simp only[aj,Ic m M1 (jW m (aJ m) M1) (yQ m M1),Ii m];rfl)
abbrev agK (m M13:Nat) (rec13:Q15):Prop:=∀x0 x1 x2 x3 x4 x5 x6 x7 x8,l29 jn m FJ [] M13 (Bh x0 x1 x2 x3 x4 x5 x6 x7 x8)=rec13 x0 x1 x2 x3 x4 x5 x6 x7 x8
theorem FL m M13 rec13 (h13:agK m M13 rec13) x0 x1 x2 x3 x4 x5 x6 x7 x8:e29 jn m abh [M13] (Bh x0 x1 x2 x3 x4 x5 x6 x7 x8)=uJ m (aJ m) rec13 x0 x1 x2 x3 x4 x5 x6 x7 x8:=
 tq (g:=fun J=>(jj J 1 12 M13 (Bh x0 x1 (IntKind.wrap .i64 (x2+1)) x3 x4 x5 x6 x7 x8) (l29 J m FJ [] M13))) (by simp only[aj,h13];rfl)
theorem FM m M13 rec13 (h13:agK m M13 rec13) x0 x1 x2 x3 x4 x5 x6 x7 x8:e29 jn m Wq [M13] (Bh x0 x1 x2 x3 x4 x5 x6 x7 x8)=uK m (aJ m) rec13 x0 x1 x2 x3 x4 x5 x6 x7 x8:=
 tq (g:=fun J=>((idx x0 x2).bind fun v11=>
  ((aJ m (Dt.fld v11 1)).bind fun r12=>
  ((inL x8 x2).bind fun v13=>
  ((x8[(Int.toNat x2)]?).bind fun v14=>
  (jj J 0 15 0 (Bh x0 x1 x2 x3 x4 x5 x6 x7 (List.set x8 (Int.toNat x2) (Dt.agg [(Dt.str (Dt.S v11 0)),r12]))) (e29 J m abh [M13]))))))) (by simp only[aj,FL m M13 rec13 h13];rfl)
theorem FN m x0 x1 x2 x3 x4 x5:e29 jn m [1,1,1,1] [] (agH x0 x1 x2 x3 x4 x5)=uL m (aJ m) x0 x1 x2 x3 x4 x5:=
 tq (g:=fun J=>some (Dt.agg [(Dt.int x1),(Dt.int x2),(Dt.str x3),(Dt.lst x4),(Dt.lst x5)])) (by rfl)
theorem wR m:∀M13 x0 x1 x2 x3 x4 x5 x6 x7 x8,l29 jn m FJ [] M13 (Bh x0 x1 x2 x3 x4 x5 x6 x7 x8)=j6 m (aJ m) M13 x0 x1 x2 x3 x4 x5 x6 x7 x8
 |0,_,_,_,_,_,_,_,_,_=>rfl
 | M13+1,x0,x1,x2,x3,x4,x5,x6,x7,x8=>
   tl (g:=fun J=>(bif (decide (x2<x1)) then
  (jj J 0 13 0 (Bh x0 x1 x2 x3 x4 x5 x6 x7 x8) (e29 J m Wq [M13]))
   else
  (jj J 0 16 0 (agH x3 x4 x5 x6 x7 x8) (e29 J m [1,1,1,1] [])))) (by simp only[aj,FM m M13 (j6 m (aJ m) M13) (wR m M13),FN m];rfl)
theorem FP m x0 x1:e29 jn m [1,1,1,1] [] (agI x0 x1)=Ah m (aJ m) x0 x1:=
 tq (g:=fun J=>some x1) (by rfl)
theorem FR m x0 x1 x2:e29 jn m [1,1,1] [] (agJ x0 x1 x2)=Ai m (aJ m) x0 x1 x2:=
 tq (g:=fun J=>(bif (decide (0<(List.length (Dt.L x0 4):Int))) then
  ((mkL (List.length (Dt.L x0 4):Int) (List.length (Dt.L x0 4):Int) BM).bind fun v10=>
  ((jj J 1 12 (Nat.succ m) (Bh (Dt.L x0 4) (List.length (Dt.L x0 4):Int) 0 x1 (Dt.I x2 0) (Dt.I x2 1) (Dt.S x2 2) (Dt.L x2 3) v10) (l29 J m FJ [] (Nat.succ m)))))
   else
  (jj J 0 16 0 (agI x1 x2) (e29 J m [1,1,1,1] [])))) (by simp only[aj,wR m,FP m];rfl)
theorem Pw m a0:e29 jn m [] [] ⟨[.dat 26 a0],[],0⟩=aJ (m+1) a0:=
 tq (g:=fun J=>(bif (decide (0<(List.length (Dt.L a0 3):Int))) then
  ((mkL (List.length (Dt.L a0 3):Int) (List.length (Dt.L a0 3):Int) kza2373).bind fun v0=>
  ((jj J 1 5 (Nat.succ m) (Jy (Dt.L a0 3) (List.length (Dt.L a0 3):Int) 0 a0 kza2373 (Dt.I a0 0) (Dt.I a0 1) (Dt.S a0 2) v0) (l29 J m Wp [] (Nat.succ m)))))
   else
  (jj J 0 9 0 (agJ a0 kza2373 (Dt.agg [(Dt.int (Dt.I a0 0)),(Dt.int (Dt.I a0 1)),(Dt.str (Dt.S a0 2)),(Dt.lst []),(Dt.lst [])])) (e29 J m [1,1,1] [])))) (by simp only[aj,yQ m,FR m];rfl)
def e30 (J:Q0) (m:Nat):=evAt Tryz.prog env (ct m) J (m+1) 48 5 Tryz.f48 d16
theorem Em m a0:e30 jn m [] [] ⟨[.dat 3 (.int a0)],[],0⟩=mh (m+1) a0:=
 tq (g:=fun J=>some (Dt.agg [(Dt.int 3),(Dt.int a0),(Dt.str (ByteArray.mk (List.toArray []))),(Dt.lst []),(Dt.lst [])])) (by rfl)
def e17 (J:Q0) (m:Nat):=evAt Tryz.prog env (ct m) J (m+1) 47 12 Tryz.f47 d16
theorem En m a0 a1:e17 jn m [] [] ⟨[.dat 26 a0,.dat 3 (.int a1)],[],0⟩=fB (m+1) a0 a1:=
 tq (g:=fun J=>((mh m a1).bind fun r0=>
  some (Dt.agg [(Dt.int 5),(Dt.int 0),(Dt.str (ByteArray.mk (List.toArray []))),(Dt.lst []),(Dt.lst [(Dt.agg [(Dt.str (ByteArray.mk (List.toArray [95,105,100]))),a0]),(Dt.agg [(Dt.str (ByteArray.mk (List.toArray [99,111,117,110,116]))),r0])])]))) (by rfl)
def e31 (J:Q2) (m:Nat):=evAt Tryz.prog env (ct m) J (m+1) 60 11 Tryz.f60 d31
theorem Px m a0 a1:e31 jn m [] [] ⟨[.dat 3 (.int a0),.dat 3 (.int a1)],[],0⟩=bI (m+1) a0 a1:=
 tq (g:=fun J=>(bif (decide (a0<a1)) then
  some (-1)
   else
  ((bif (decide (a1<a0)) then some 1 else(some 0))))) (by rfl)
def e32 (J:Q2) (m:Nat):=evAt Tryz.prog env (ct m) J (m+1) 61 39 Tryz.f61 d31
def l32 (J:Q2) (m:Nat):=loopAt Tryz.prog env (ct m) J (m+1) 61 39 Tryz.f61 d31
def agL (x0 x1:ByteArray) (x2:Int):St:=⟨tsOf [(0,.dat 9 (.str x0)),(1,.dat 9 (.str x1)),(5,.dat 3 (.int x2))],[],0⟩
theorem wS m:∀M1 x0 x1 x2,l32 jn m [1,0,1,0] [] M1 (agL x0 x1 x2)=nM m M1 x0 x1 x2
 |0,_,_,_=>rfl
 | M1+1,x0,x1,x2=>
   tl (g:=fun J=>(bif (decide (x2<(ByteArray.size x0:Int))) then
  (bif (decide (x2<(ByteArray.size x1:Int))) then
  (((idxS x0 x2).bind fun v0=>((idxS x1 x2).bind fun v1=>(bif (v0 !=v1) then((idxS x0 x2).bind fun v2=>((idxS x1 x2).bind fun v3=>((bI m (IntKind.wrap .i64 v2) (IntKind.wrap .i64 v3)).bind fun r4=>some r4))) else((jj J 1 2 M1 (agL x0 x1 (IntKind.wrap .i64 (x2+1))) (l32 J m [1,0,1,0] [] M1)))))))
  else
  (((bI m (ByteArray.size x0:Int) (ByteArray.size x1:Int)).bind fun r5=>some r5)))
   else
  (((bI m (ByteArray.size x0:Int) (ByteArray.size x1:Int)).bind fun r5=>some r5)))) (by simp only[aj,(wS m M1)];rfl)
theorem Nh m a0 a1:e32 jn m [] [] ⟨[.dat 9 (.str a0),.dat 9 (.str a1)],[],0⟩=iq (m+1) a0 a1:=
 tq (g:=fun J=>((jj J 1 2 (Nat.succ m) (agL a0 a1 0) (l32 J m [1,0,1,0] [] (Nat.succ m))))) (by simp only[aj,wS m];rfl)
def Ni:List Nat:=[1,1,0,1,0,1]
def Bj:List Nat:=Ni++[1,1]
def agM:List Nat:=Bj++[1,1,0,1]
def apS:List Nat:=Bj++[1,1,0,0,1]
def agN:List Nat:=apS++[0]
def agO:List Nat:=Bj++[1,1,1,1,0,1]
def amI:List Nat:=Bj++[1,1,1,1,0,0,1]
def Ws:List Nat:=amI++[0]
def apT:List Nat:=Ws++[0,1]
def agP:List Nat:=apT++[0,0,1,1]
def e18 (J:Q2) (m:Nat):=evAt Tryz.prog env (ct m) J (m+1) 21 130 Tryz.f21 d31
def l18 (J:Q2) (m:Nat):=loopAt Tryz.prog env (ct m) J (m+1) 21 130 Tryz.f21 d31
def agQ (x0:Int) (x1 x2:Dt):St:=⟨tsOf [(2,.ptr 0 [] 0),(3,.ptr 1 [] 0),(5,.dat 3 (.int x0))],[.box 26 (.dat 26 x1),.box 26 (.dat 26 x2)],0⟩
def QM (x0 x1:Dt):St:=⟨tsOf [(2,.ptr 0 [] 0),(3,.ptr 1 [] 0)],[.box 26 (.dat 26 x0),.box 26 (.dat 26 x1)],0⟩
def TK (x0:Int) (x1 x2:Dt):St:=⟨tsOf [(2,.ptr 0 [] 0),(3,.ptr 1 [] 0),(7,.dat 3 (.int x0))],[.box 26 (.dat 26 x1),.box 26 (.dat 26 x2)],0⟩
def Zw (x0 x1:Int) (x2 x3:Dt):St:=⟨tsOf [(2,.ptr 0 [] 0),(3,.ptr 1 [] 0),(7,.dat 3 (.int x0)),(8,.dat 3 (.int x1))],[.box 26 (.dat 26 x2),.box 26 (.dat 26 x3)],0⟩
def abj (x0:Int) (x1:Bool) (x2 x3:Dt):St:=⟨tsOf [(2,.ptr 0 [] 0),(3,.ptr 1 [] 0),(20,.dat 3 (.int x0)),(30,.dat 4 (.bool x1))],[.box 26 (.dat 26 x2),.box 26 (.dat 26 x3)],0⟩
def abk (x0:Int) (x1:Bool) (x2 x3:Dt):St:=⟨tsOf [(2,.ptr 0 [] 0),(3,.ptr 1 [] 0),(20,.dat 3 (.int x0)),(21,.dat 4 (.bool x1))],[.box 26 (.dat 26 x2),.box 26 (.dat 26 x3)],0⟩
theorem Cy m x0 x1:e18 jn m agM [] (QM x0 x1)=ko m (aA m) x0 x1:=
 tq (g:=fun J=>((bI m (List.length (Dt.L x0 3):Int) (List.length (Dt.L x1 3):Int)).bind fun r6=>
  some r6)) (by rfl)
theorem uj m:∀M4 x0 x1 x2,l18 jn m agN [] M4 (agQ x0 x1 x2)=kr m (aA m) M4 x0 x1 x2
 |0,_,_,_=>rfl
 | M4+1,x0,x1,x2=>
   tl (g:=fun J=>(bif (decide (x0<(List.length (Dt.L x1 3):Int))) then
  (bif (decide (x0<(List.length (Dt.L x2 3):Int))) then
  (((idx (Dt.L x1 3) x0).bind fun v3=>((idx (Dt.L x2 3) x0).bind fun v4=>((aA m v3 v4).bind fun r5=>(bif (r5 !=0) then some r5 else((jj J 1 14 M4 (agQ (IntKind.wrap .i64 (x0+1)) x1 x2) (l18 J m agN [] M4))))))))
  else
  (jj J 0 19 0 (QM x1 x2) (e18 J m agM [])))
   else
  (jj J 0 19 0 (QM x1 x2) (e18 J m agM [])))) (by simp only[aj,(uj m M4),Cy m];rfl)
abbrev apU (m M9:Nat) (rec9:Q31):Prop:=∀x0 x1 x2,l18 jn m Ws [] M9 (TK x0 x1 x2)=rec9 x0 x1 x2
theorem Bl m M9 rec9 (h9:apU m M9 rec9) x0 x1 x2 x3:e18 jn m agP [M9] (Zw x0 x1 x2 x3)=nD m (aA m) rec9 x0 x1 x2 x3:=
 tq (g:=fun J=>(bif (x1 !=0) then
  some x1
   else
  ((jj J 1 22 M9 (TK (IntKind.wrap .i64 (x0+1)) x2 x3) (l18 J m Ws [] M9))))) (by simp only[aj,h9];rfl)
theorem Bn m x0 x1:e18 jn m agO [] (QM x0 x1)=jC m (aA m) x0 x1:=
 tq (g:=fun J=>((bI m (List.length (Dt.L x0 4):Int) (List.length (Dt.L x1 4):Int)).bind fun r13=>
  some r13)) (by rfl)
theorem um m:∀M9 x0 x1 x2,l18 jn m Ws [] M9 (TK x0 x1 x2)=fJ m (aA m) M9 x0 x1 x2
 |0,_,_,_=>rfl
 | M9+1,x0,x1,x2=>
   tl (g:=fun J=>(bif (decide (x0<(List.length (Dt.L x1 4):Int))) then
  (bif (decide (x0<(List.length (Dt.L x2 4):Int))) then
  (((idx (Dt.L x1 4) x0).bind fun v7=>((idx (Dt.L x2 4) x0).bind fun v8=>((iq m (Dt.S v7 0) (Dt.S v8 0)).bind fun r9=>(bif (r9==0) then((idx (Dt.L x1 4) x0).bind fun v10=>((idx (Dt.L x2 4) x0).bind fun v11=>((aA m (Dt.fld v10 1) (Dt.fld v11 1)).bind fun r12=>(jj J 0 27 0 (Zw x0 r12 x1 x2) (e18 J m agP [M9]))))) else(jj J 0 27 0 (Zw x0 r9 x1 x2) (e18 J m agP [M9])))))))
  else
  (jj J 0 29 0 (QM x1 x2) (e18 J m agO [])))
   else
  (jj J 0 29 0 (QM x1 x2) (e18 J m agO [])))) (by simp only[aj,Bl m M9 (fJ m (aA m) M9) (um m M9),Bn m];rfl)
theorem Cz m x0 x1 x2 x3:e18 jn m Bj [] (abj x0 x1 x2 x3)=ku m (aA m) x0 x1 x2 x3:=
 tq (g:=fun J=>(bif x1 then
  ((iq m (Dt.S x2 2) (Dt.S x3 2)).bind fun r2=>
  some r2)
   else
  (bif (x0==6) then
  ((jj J 1 14 (Nat.succ m) (agQ 0 x2 x3) (l18 J m agN [] (Nat.succ m))))
  else
  (bif (x0==5) then
  ((jj J 1 22 (Nat.succ m) (TK 0 x2 x3) (l18 J m Ws [] (Nat.succ m))))
  else
  (some 0))))) (by simp only[aj,uj m,um m];rfl)
theorem CB m x0 x1 x2 x3:e18 jn m Ni [] (abk x0 x1 x2 x3)=kC m (aA m) x0 x1 x2 x3:=
 tq (g:=fun J=>(bif x1 then
  ((bI m (Dt.I x2 1) (Dt.I x3 1)).bind fun r1=>
  some r1)
   else
  (bif (x0==4) then
  (jj J 0 11 0 (abj x0 (x0==4) x2 x3) (e18 J m Bj []))
  else
  (bif (x0==7) then
  (jj J 0 11 0 (abj x0 (x0==7) x2 x3) (e18 J m Bj []))
  else
  (jj J 0 11 0 (abj x0 (x0==8) x2 x3) (e18 J m Bj [])))))) (by simp only[aj,Cz m];rfl)
theorem Ij m a0 a1:e18 jn m [] [] ⟨[.dat 26 a0,.dat 26 a1],[],0⟩=aA (m+1) a0 a1:=
 tq (g:=fun J=>(bif ((Dt.I a0 0) !=(Dt.I a1 0)) then
  ((bI m (Dt.I a0 0) (Dt.I a1 0)).bind fun r0=>
  some r0)
   else
  ((bif ((Dt.I a0 0)==3) then(jj J 0 7 0 (abk (Dt.I a0 0) ((Dt.I a0 0)==3) a0 a1) (e18 J m Ni [])) else(bif ((Dt.I a0 0)==9) then(jj J 0 7 0 (abk (Dt.I a0 0) ((Dt.I a0 0)==9) a0 a1) (e18 J m Ni [])) else(jj J 0 7 0 (abk (Dt.I a0 0) ((Dt.I a0 0)==10) a0 a1) (e18 J m Ni []))))))) (by simp only[aj,CB m];rfl)
def e34 (J:Q0) (m:Nat):=evAt Tryz.prog env (ct m) J (m+1) 91 5 Tryz.f91 d16
theorem Ik m a0:e34 jn m [] [] ⟨[.dat 3 (.int a0)],[],0⟩=oP (m+1) a0:=
 tq (g:=fun J=>some (Dt.agg [(Dt.int 3),(Dt.int a0),(Dt.str (ByteArray.mk (List.toArray []))),(Dt.lst []),(Dt.lst [])])) (by rfl)
def e20 (J:Q0) (m:Nat):=evAt Tryz.prog env (ct m) J (m+1) 52 12 Tryz.f52 d16
theorem Il m a0 a1:e20 jn m [] [] ⟨[.dat 26 a0,.dat 3 (.int a1)],[],0⟩=iw (m+1) a0 a1:=
 tq (g:=fun J=>((oP m a1).bind fun r0=>
  some (Dt.agg [(Dt.int 5),(Dt.int 0),(Dt.str (ByteArray.mk (List.toArray []))),(Dt.lst []),(Dt.lst [(Dt.agg [(Dt.str (ByteArray.mk (List.toArray [95,105,100]))),a0]),(Dt.agg [(Dt.str (ByteArray.mk (List.toArray [99,111,117,110,116]))),r0])])]))) (by rfl)
def e39 (J:Q1) (m:Nat):=evAt Tryz.prog env (ct m) J (m+1) 128 6 Tryz.f128 d5
theorem TL m a0:e39 jn m [] [] ⟨[.dat 3 (.int a0)],[],0⟩=qg (m+1) a0:=
 tq (g:=fun J=>some (a0 !=a0)) (by rfl)
def e25 (J:Q2) (m:Nat):=evAt Tryz.prog env (ct m) J (m+1) 86 20 Tryz.f86 d31
theorem Nj m a0 a1:e25 jn m [] [] ⟨[.dat 3 (.int a0),.dat 3 (.int a1)],[],0⟩=cZ (m+1) a0 a1:=
 tq (g:=fun J=>((qg m a0).bind fun r0=>
  ((qg m a1).bind fun r1=>
  (bif r0 then
  (bif r1 then
  some 0
  else
  (some (-1)))
  else
  ((bif r1 then some 1 else((bif (decide (a0<a1)) then some (-1) else((bif (decide (a1<a0)) then some 1 else(some 0))))))))))) (by rfl)
def Nk:List Nat:=[1,1,0,1,0,1]
def Im:List Nat:=Nk++[1,1]
def apV:List Nat:=Im++[1,1,0,0,1]
def agR:List Nat:=apV++[0]
def amJ:List Nat:=Im++[1,1,1,1,0,0,1]
def agS:List Nat:=amJ++[0]
def e13 (J:Q2) (m:Nat):=evAt Tryz.prog env (ct m) J (m+1) 45 126 Tryz.f45 d31
def l13 (J:Q2) (m:Nat):=loopAt Tryz.prog env (ct m) J (m+1) 45 126 Tryz.f45 d31
def agT (x0 x1:Int) (x2 x3:Dt):St:=⟨tsOf [(2,.ptr 0 [] 0),(3,.ptr 1 [] 0),(48,.dat 3 (.int x0)),(49,.dat 3 (.int x1))],[.box 26 (.dat 26 x2),.box 26 (.dat 26 x3)],0⟩
def Zx (x0 x1:Int) (x2 x3:Dt):St:=⟨tsOf [(2,.ptr 0 [] 0),(3,.ptr 1 [] 0),(82,.dat 3 (.int x0)),(83,.dat 3 (.int x1))],[.box 26 (.dat 26 x2),.box 26 (.dat 26 x3)],0⟩
def abl (x0:Int) (x1:Bool) (x2 x3:Dt):St:=⟨tsOf [(2,.ptr 0 [] 0),(3,.ptr 1 [] 0),(21,.dat 3 (.int x0)),(31,.dat 4 (.bool x1))],[.box 26 (.dat 26 x2),.box 26 (.dat 26 x3)],0⟩
def abm (x0:Int) (x1:Bool) (x2 x3:Dt):St:=⟨tsOf [(2,.ptr 0 [] 0),(3,.ptr 1 [] 0),(21,.dat 3 (.int x0)),(22,.dat 4 (.bool x1))],[.box 26 (.dat 26 x2),.box 26 (.dat 26 x3)],0⟩
theorem uo m:∀M4 x0 x1 x2 x3,l13 jn m agR [] M4 (agT x0 x1 x2 x3)=kD m (ay m) M4 x0 x1 x2 x3
 |0,_,_,_,_=>rfl
 | M4+1,x0,x1,x2,x3=>
   tl (g:=fun J=>(bif (decide (x1<x0)) then
  (((idx (Dt.L x2 3) x1).bind fun v3=>((idx (Dt.L x3 3) x1).bind fun v4=>((ay m v3 v4).bind fun r5=>(bif (r5 !=0) then some r5 else((jj J 1 14 M4 (agT x0 (IntKind.wrap .i64 (x1+1)) x2 x3) (l13 J m agR [] M4))))))))
   else
  (((cZ m (List.length (Dt.L x2 3):Int) (List.length (Dt.L x3 3):Int)).bind fun r6=>some r6)))) (by simp only[aj,(uo m M4)];rfl)
theorem uq m:∀M9 x0 x1 x2 x3,l13 jn m agS [] M9 (Zx x0 x1 x2 x3)=kE m (ay m) M9 x0 x1 x2 x3
 |0,_,_,_,_=>rfl
 | M9+1,x0,x1,x2,x3=>
   tl (g:=fun J=>(bif (decide (x1<x0)) then
  (((idx (Dt.L x2 4) x1).bind fun v7=>((idx (Dt.L x3 4) x1).bind fun v8=>((strings_Compare (Dt.S v7 0) (Dt.S v8 0)).bind fun r9=>(bif (r9 !=0) then some r9 else(((idx (Dt.L x2 4) x1).bind fun v10=>((idx (Dt.L x3 4) x1).bind fun v11=>((ay m (Dt.fld v10 1) (Dt.fld v11 1)).bind fun r12=>(bif (r12 !=0) then some r12 else((jj J 1 23 M9 (Zx x0 (IntKind.wrap .i64 (x1+1)) x2 x3) (l13 J m agS [] M9)))))))))))))
   else
  (((cZ m (List.length (Dt.L x2 4):Int) (List.length (Dt.L x3 4):Int)).bind fun r13=>some r13)))) (by simp only[aj,(uq m M9)];rfl)
theorem CG m x0 x1 x2 x3:e13 jn m Im [] (abl x0 x1 x2 x3)=kF m (ay m) x0 x1 x2 x3:=
 tq (g:=fun J=>(bif x1 then
  ((strings_Compare (Dt.S x2 2) (Dt.S x3 2)).bind fun r2=>
  some r2)
   else
  (bif (x0==6) then
  ((jj J 1 14 (Nat.succ m) (agT (bif (decide ((List.length (Dt.L x3 3):Int)<(List.length (Dt.L x2 3):Int))) then(List.length (Dt.L x3 3):Int) else(List.length (Dt.L x2 3):Int)) 0 x2 x3) (l13 J m agR [] (Nat.succ m))))
  else
  (bif (x0==5) then
  ((jj J 1 23 (Nat.succ m) (Zx (bif (decide ((List.length (Dt.L x3 4):Int)<(List.length (Dt.L x2 4):Int))) then(List.length (Dt.L x3 4):Int) else(List.length (Dt.L x2 4):Int)) 0 x2 x3) (l13 J m agS [] (Nat.succ m))))
  else
  (some 0))))) (by simp only[aj,uo m,uq m];rfl)
theorem CJ m x0 x1 x2 x3:e13 jn m Nk [] (abm x0 x1 x2 x3)=kG m (ay m) x0 x1 x2 x3:=
 tq (g:=fun J=>(bif x1 then
  ((cZ m (Dt.I x2 1) (Dt.I x3 1)).bind fun r1=>
  some r1)
   else
  (bif (x0==4) then
  (jj J 0 11 0 (abl x0 (x0==4) x2 x3) (e13 J m Im []))
  else
  (bif (x0==7) then
  (jj J 0 11 0 (abl x0 (x0==7) x2 x3) (e13 J m Im []))
  else
  (jj J 0 11 0 (abl x0 (x0==8) x2 x3) (e13 J m Im [])))))) (by simp only[aj,CG m];rfl)
theorem Io m a0 a1:e13 jn m [] [] ⟨[.dat 26 a0,.dat 26 a1],[],0⟩=ay (m+1) a0 a1:=
 tq (g:=fun J=>(bif ((Dt.I a0 0) !=(Dt.I a1 0)) then
  ((cZ m (Dt.I a0 0) (Dt.I a1 0)).bind fun r0=>
  some r0)
   else
  ((bif ((Dt.I a0 0)==3) then(jj J 0 7 0 (abm (Dt.I a0 0) ((Dt.I a0 0)==3) a0 a1) (e13 J m Nk [])) else(bif ((Dt.I a0 0)==9) then(jj J 0 7 0 (abm (Dt.I a0 0) ((Dt.I a0 0)==9) a0 a1) (e13 J m Nk [])) else(jj J 0 7 0 (abm (Dt.I a0 0) ((Dt.I a0 0)==10) a0 a1) (e13 J m Nk []))))))) (by simp only[aj,CJ m];rfl)
def abn:List Nat:=[1,1,1,0,0]
def e15 (J:Q78) (m:Nat):=evAt Tryz.prog env (ct m) J (m+1) 57 49 Tryz.f57 d15
def l15 (J:Q78) (m:Nat):=loopAt Tryz.prog env (ct m) J (m+1) 57 49 Tryz.f57 d15
def abo (x0:List Dt) (x1 x2 x3:Int) (x4:Dt):St:=⟨tsOf [(0,.dat 23 (.lst x0)),(2,.fn 45 []),(4,.ptr 0 [] 0),(8,.dat 3 (.int x1)),(9,.dat 3 (.int x2)),(10,.dat 3 (.int x3))],[.box 26 (.dat 26 x4)],0⟩
theorem QN m:∀M1 x0 x1 x2 x3 x4,l15 jn m abn [] M1 (abo x0 x1 x2 x3 x4)=KZ m M1 x0 x1 x2 x3 x4
 |0,_,_,_,_,_=>rfl
 | M1+1,x0,x1,x2,x3,x4=>
   tl (g:=fun J=>(bif (decide (x2<x3)) then
  (((idx x0 (IntKind.wrap .i64 (shrI IntKind.u64 (IntKind.wrap IntKind.u64 (IntKind.wrap .i64 (x2+x3))) 1))).bind fun v0=>((ay m v0 x4).bind fun r1=>(bif (decide (r1<0)) then(jj J 1 3 M1 (abo x0 x1 (IntKind.wrap .i64 ((IntKind.wrap .i64 (shrI IntKind.u64 (IntKind.wrap IntKind.u64 (IntKind.wrap .i64 (x2+x3))) 1))+1)) x3 x4) (l15 J m abn [] M1)) else(jj J 1 3 M1 (abo x0 x1 x2 (IntKind.wrap .i64 (shrI IntKind.u64 (IntKind.wrap IntKind.u64 (IntKind.wrap .i64 (x2+x3))) 1)) x4) (l15 J m abn [] M1))))))
   else
  ((bif (decide (x2<x1)) then((idx x0 x2).bind fun v2=>((ay m v2 x4).bind fun r3=>some (x2,(r3==0)))) else some (x2,false))))) (by simp only[aj,(QN m M1)];rfl)
theorem amK m a0 a1:e15 jn m [] [] ⟨[.dat 23 (.lst a0),.dat 26 a1,.fn 45 []],[],0⟩=i15 (m+1) a0 a1:=
 tq (g:=fun J=>((jj J 1 3 (Nat.succ m) (abo a0 (List.length a0:Int) 0 (List.length a0:Int) a1) (l15 J m abn [] (Nat.succ m))))) (by simp only[aj,QN m];rfl)
def e44 (J:Q0) (m:Nat):=evAt Tryz.prog env (ct m) J (m+1) 123 2 Tryz.f123 d16
theorem zn m:e44 jn m [] [] ⟨[],[],0⟩=aT (m+1):=
 tq (g:=fun J=>some nC) (by rfl)
def e45 (J:Q0) (m:Nat):=evAt Tryz.prog env (ct m) J (m+1) 127 2 Tryz.f127 d16
theorem Py m:e45 jn m [] [] ⟨[],[],0⟩=aS (m+1):=
 tq (g:=fun J=>some nC) (by rfl)
def abp:List Nat:=[1,1,0,1,0]
def apW:List Nat:=[1,1,0,1,0,0,1]
def abq:List Nat:=apW++[0,0,1]
def e50 (J:Q1) (m:Nat):=evAt Tryz.prog env (ct m) J (m+1) 97 39 Tryz.f97 d5
def l50 (J:Q1) (m:Nat):=loopAt Tryz.prog env (ct m) J (m+1) 97 39 Tryz.f97 d5
def abr (x0:ByteArray) (x1:Int):St:=⟨tsOf [(0,.dat 9 (.str x0)),(3,.dat 3 (.int x1))],[],0⟩
def abt (x0:ByteArray) (x1:Int) (x2:Bool):St:=⟨tsOf [(0,.dat 9 (.str x0)),(3,.dat 3 (.int x1)),(38,.dat 4 (.bool x2))],[],0⟩
def abu (x0:ByteArray) (x1:Bool):St:=⟨tsOf [(0,.dat 9 (.str x0)),(16,.dat 4 (.bool x1))],[],0⟩
abbrev apX (m M3:Nat) (rec3:Q12):Prop:=∀x0 x1,l50 jn m abp [] M3 (abr x0 x1)=rec3 x0 x1
theorem Ip m M3 rec3 (h3:apX m M3 rec3) x0 x1 x2:e50 jn m abq [M3] (abt x0 x1 x2)=fU m rec3 x0 x1 x2:=
 tq (g:=fun J=>(bif x2 then
  some false
   else
  ((jj J 1 4 M3 (abr x0 (IntKind.wrap .i64 (x1+1))) (l50 J m abp [] M3))))) (by simp only[aj,h3];rfl)
theorem yR m:∀M3 x0 x1,l50 jn m abp [] M3 (abr x0 x1)=fV m M3 x0 x1
 |0,_,_=>rfl
 | M3+1,x0,x1=>
   tl (g:=fun J=>(bif (decide (x1<(ByteArray.size x0:Int))) then
  (((idxS x0 x1).bind fun v0=>(bif (decide (v0<33)) then(jj J 0 7 0 (abt x0 x1 true) (e50 J m abq [M3])) else((idxS x0 x1).bind fun v1=>(bif (decide (126<v1)) then(jj J 0 7 0 (abt x0 x1 true) (e50 J m abq [M3])) else((idxS x0 x1).bind fun v2=>(jj J 0 7 0 (abt x0 x1 (v2==46)) (e50 J m abq [M3]))))))))
   else
  (some true))) (by simp only[aj,Ip m M3 (fV m M3) (yR m M3)];rfl)
theorem Iq m x0 x1:e50 jn m [1,0,1] [] (abu x0 x1)=fZ m x0 x1:=
 tq (g:=fun J=>(bif x1 then
  some false
   else
  (((jj J 1 4 (Nat.succ m) (abr x0 0) (l50 J m abp [] (Nat.succ m))))))) (by simp only[aj,yR m];rfl)
theorem Pz m a0:e50 jn m [] [] ⟨[.dat 9 (.str a0)],[],0⟩=fK (m+1) a0:=
 tq (g:=fun J=>(bif (decide ((ByteArray.size a0:Int)<1)) then
  (jj J 0 2 0 (abu a0 true) (e50 J m [1,0,1] []))
   else
  (bif (decide (32<(ByteArray.size a0:Int))) then
  (jj J 0 2 0 (abu a0 true) (e50 J m [1,0,1] []))
  else
  ((idxS a0 0).bind fun v3=>
  (jj J 0 2 0 (abu a0 (v3==36)) (e50 J m [1,0,1] [])))))) (by simp only[aj,Iq m];rfl)
def agU:List Nat:=[1,1,0,1,0]
def e49 (J:Q1) (m:Nat):=evAt Tryz.prog env (ct m) J (m+1) 65 24 Tryz.f65 d5
def l49 (J:Q1) (m:Nat):=loopAt Tryz.prog env (ct m) J (m+1) 65 24 Tryz.f65 d5
def agV (x0:List Dt) (x1:Int):St:=⟨tsOf [(0,.dat 22 (.lst x0)),(3,.dat 3 (.int x1))],[],0⟩
def agW (x0:List Dt) (x1:Bool):St:=⟨tsOf [(0,.dat 22 (.lst x0)),(11,.dat 4 (.bool x1))],[],0⟩
theorem wT m:∀M3 x0 x1,l49 jn m agU [] M3 (agV x0 x1)=kH m M3 x0 x1
 |0,_,_=>rfl
 | M3+1,x0,x1=>
   tl (g:=fun J=>(bif (decide (x1<(List.length x0:Int))) then
  (((idx x0 x1).bind fun v0=>((fK m (Dt.toStr v0)).bind fun r1=>(bif (Bool.not r1) then some false else((jj J 1 4 M3 (agV x0 (IntKind.wrap .i64 (x1+1))) (l49 J m agU [] M3)))))))
   else
  (some true))) (by simp only[aj,(wT m M3)];rfl)
theorem FT m x0 x1:e49 jn m [1,0,1] [] (agW x0 x1)=kI m x0 x1:=
 tq (g:=fun J=>(bif x1 then
  some false
   else
  (((jj J 1 4 (Nat.succ m) (agV x0 0) (l49 J m agU [] (Nat.succ m))))))) (by simp only[aj,wT m];rfl)
theorem Nl m a0:e49 jn m [] [] ⟨[.dat 22 (.lst a0)],[],0⟩=gF (m+1) a0:=
 tq (g:=fun J=>(bif (decide ((List.length a0:Int)<1)) then
  (jj J 0 2 0 (agW a0 true) (e49 J m [1,0,1] []))
   else
  (jj J 0 2 0 (agW a0 (decide (16<(List.length a0:Int)))) (e49 J m [1,0,1] [])))) (by simp only[aj,FT m];rfl)
def agX:List Nat:=[1,1,0,1,0]
def Wt:List Nat:=[1,1,1,0,1,0]
def apY:List Nat:=Wt++[0,1]
def agY:List Nat:=apY++[0,0,1]
def e51 (J:Q1) (m:Nat):=evAt Tryz.prog env (ct m) J (m+1) 108 99 Tryz.f108 d5
def l51 (J:Q1) (m:Nat):=loopAt Tryz.prog env (ct m) J (m+1) 108 99 Tryz.f108 d5
def agZ (x0:Int) (x1 x2:Dt):St:=⟨tsOf [(2,.ptr 0 [] 0),(3,.ptr 1 [] 0),(5,.dat 3 (.int x0))],[.box 26 (.dat 26 x1),.box 26 (.dat 26 x2)],0⟩
def TM (x0:Int) (x1 x2:Dt):St:=⟨tsOf [(2,.ptr 0 [] 0),(3,.ptr 1 [] 0),(6,.dat 3 (.int x0))],[.box 26 (.dat 26 x1),.box 26 (.dat 26 x2)],0⟩
def Zy (x0:Int) (x1:Bool) (x2 x3:Dt):St:=⟨tsOf [(2,.ptr 0 [] 0),(3,.ptr 1 [] 0),(6,.dat 3 (.int x0)),(98,.dat 4 (.bool x1))],[.box 26 (.dat 26 x2),.box 26 (.dat 26 x3)],0⟩
def QO (x0:Bool) (x1 x2:Dt):St:=⟨tsOf [(2,.ptr 0 [] 0),(3,.ptr 1 [] 0),(43,.dat 4 (.bool x0))],[.box 26 (.dat 26 x1),.box 26 (.dat 26 x2)],0⟩
abbrev apZ (m M8:Nat) (rec8:Q33):Prop:=∀x0 x1 x2,l51 jn m Wt [] M8 (TM x0 x1 x2)=rec8 x0 x1 x2
theorem FU m M8 rec8 (h8:apZ m M8 rec8) x0 x1 x2 x3:e51 jn m agY [M8] (Zy x0 x1 x2 x3)=kJ m (aF m) rec8 x0 x1 x2 x3:=
 tq (g:=fun J=>(bif x1 then
  some false
   else
  ((jj J 1 9 M8 (TM (IntKind.wrap .i64 (x0+1)) x2 x3) (l51 J m Wt [] M8))))) (by simp only[aj,h8];rfl)
theorem yS m:∀M8 x0 x1 x2,l51 jn m Wt [] M8 (TM x0 x1 x2)=mX m (aF m) M8 x0 x1 x2
 |0,_,_,_=>rfl
 | M8+1,x0,x1,x2=>
   tl (g:=fun J=>(bif (decide (x0<(List.length (Dt.L x1 4):Int))) then
  (((idx (Dt.L x1 4) x0).bind fun v3=>((idx (Dt.L x2 4) x0).bind fun v4=>(bif (Bool.not ((ByteArray.toList (Dt.S v3 0))==(ByteArray.toList (Dt.S v4 0)))) then(jj J 0 12 0 (Zy x0 true x1 x2) (e51 J m agY [M8])) else((idx (Dt.L x1 4) x0).bind fun v5=>((idx (Dt.L x2 4) x0).bind fun v6=>((aF m (Dt.fld v5 1) (Dt.fld v6 1)).bind fun r7=>(jj J 0 12 0 (Zy x0 (Bool.not r7) x1 x2) (e51 J m agY [M8])))))))))
   else
  (some true))) (by simp only[aj,FU m M8 (mX m (aF m) M8) (yS m M8)];rfl)
theorem yT m:∀M3 x0 x1 x2,l51 jn m agX [] M3 (agZ x0 x1 x2)=rX m (aF m) M3 x0 x1 x2
 |0,_,_,_=>rfl
 | M3+1,x0,x1,x2=>
   tl (g:=fun J=>(bif (decide (x0<(List.length (Dt.L x1 3):Int))) then
  (((idx (Dt.L x1 3) x0).bind fun v0=>((idx (Dt.L x2 3) x0).bind fun v1=>((aF m v0 v1).bind fun r2=>(bif (Bool.not r2) then some false else((jj J 1 4 M3 (agZ (IntKind.wrap .i64 (x0+1)) x1 x2) (l51 J m agX [] M3))))))))
   else
  (((jj J 1 9 (Nat.succ m) (TM 0 x1 x2) (l51 J m Wt [] (Nat.succ m))))))) (by simp only[aj,(yT m M3),yS m];rfl)
theorem Ir m x0 x1 x2:e51 jn m [1,0,1] [] (QO x0 x1 x2)=bP m (aF m) x0 x1 x2:=
 tq (g:=fun J=>(bif x0 then
  some false
   else
  (((jj J 1 4 (Nat.succ m) (agZ 0 x1 x2) (l51 J m agX [] (Nat.succ m))))))) (by simp only[aj,yT m];rfl)
theorem PD m a0 a1:e51 jn m [] [] ⟨[.dat 26 a0,.dat 26 a1],[],0⟩=aF (m+1) a0 a1:=
 tq (g:=fun J=>(bif ((Dt.I a0 0) !=(Dt.I a1 0)) then
  (jj J 0 2 0 (QO true a0 a1) (e51 J m [1,0,1] []))
   else
  (bif ((Dt.I a0 1) !=(Dt.I a1 1)) then
  (jj J 0 2 0 (QO true a0 a1) (e51 J m [1,0,1] []))
  else
  (bif (Bool.not ((ByteArray.toList (Dt.S a0 2))==(ByteArray.toList (Dt.S a1 2)))) then
  (jj J 0 2 0 (QO true a0 a1) (e51 J m [1,0,1] []))
  else
  (bif ((List.length (Dt.L a0 3):Int) !=(List.length (Dt.L a1 3):Int)) then
  (jj J 0 2 0 (QO true a0 a1) (e51 J m [1,0,1] []))
  else
  (jj J 0 2 0 (QO ((List.length (Dt.L a0 4):Int) !=(List.length (Dt.L a1 4):Int)) a0 a1) (e51 J m [1,0,1] []))))))) (by simp only[aj,Ir m];rfl)
def ap0:List Nat:=[1,0,1,0,0,1]
def ap1:List Nat:=ap0++[0,0,1]
def ap2:List Nat:=ap1++[1]
def ag0:List Nat:=ap2++[0]
def e52 (J:Q1) (m:Nat):=evAt Tryz.prog env (ct m) J (m+1) 107 31 Tryz.f107 d5
def l52 (J:Q1) (m:Nat):=loopAt Tryz.prog env (ct m) J (m+1) 107 31 Tryz.f107 d5
def ag1 (x0:List Dt) (x1 x2:Int):St:=⟨tsOf [(0,.dat 22 (.lst x0)),(3,.dat 3 (.int x1)),(4,.dat 3 (.int x2))],[],0⟩
def abv (x0:List Dt) (x1:Int):St:=⟨tsOf [(0,.dat 22 (.lst x0)),(3,.dat 3 (.int x1))],[],0⟩
abbrev ap3 (m M1:Nat) (rec1:Q20):Prop:=∀x0 x1,l52 jn m [1,0,1,0] [] M1 (abv x0 x1)=rec1 x0 x1
theorem wU m M1 rec1 (h1:ap3 m M1 rec1):∀M5 x0 x1 x2,l52 jn m ag0 [M1] M5 (ag1 x0 x1 x2)=nN m rec1 M5 x0 x1 x2
 |0,_,_,_=>rfl
 | M5+1,x0,x1,x2=>
   tl (g:=fun J=>(bif (decide (x2<x1)) then
  (((idx x0 x2).bind fun v2=>((idx x0 x1).bind fun v3=>(bif ((ByteArray.toList (Dt.toStr v2))==(ByteArray.toList (Dt.toStr v3))) then some false else((jj J 1 7 M5 (ag1 x0 x1 (IntKind.wrap .i64 (x2+1))) (l52 J m ag0 [M1] M5)))))))
   else
  ((jj J 1 2 M1 (abv x0 (IntKind.wrap .i64 (x1+1))) (l52 J m [1,0,1,0] [] M1))))) (by simp only[aj,(wU m M1 rec1 h1 M5),h1];rfl)
theorem wV m:∀M1 x0 x1,l52 jn m [1,0,1,0] [] M1 (abv x0 x1)=iR m M1 x0 x1
 |0,_,_=>rfl
 | M1+1,x0,x1=>
   tl (g:=fun J=>(bif (decide (x1<(List.length x0:Int))) then
  (((idx x0 x1).bind fun v0=>((fK m (Dt.toStr v0)).bind fun r1=>(bif (Bool.not r1) then some false else(((jj J 1 7 (Nat.succ m) (ag1 x0 x1 0) (l52 J m ag0 [M1] (Nat.succ m)))))))))
   else
  (some true))) (by simp only[aj,wU m M1 (iR m M1) (wV m M1)];rfl)
theorem Nn m a0:e52 jn m [] [] ⟨[.dat 22 (.lst a0)],[],0⟩=lG (m+1) a0:=
 tq (g:=fun J=>((jj J 1 2 (Nat.succ m) (abv a0 0) (l52 J m [1,0,1,0] [] (Nat.succ m))))) (by simp only[aj,wV m];rfl)
def abw:List Nat:=[1,0,1,0,1]
def Df:List Nat:=[1,0,1,0,1,1,1]
def abx:List Nat:=Df++[1,1]
def Dg:List Nat:=abx++[1,1]
def e53 (J:Q2) (m:Nat):=evAt Tryz.prog env (ct m) J (m+1) 106 30 Tryz.f106 d31
def Dh (x0:Bool):St:=⟨tsOf [(20,.dat 4 (.bool x0))],[],0⟩
def ag2 (x0:Int) (x1:Bool):St:=⟨tsOf [(3,.dat 3 (.int x0)),(17,.dat 4 (.bool x1))],[],0⟩
def FV (x0:Int) (x1:Bool):St:=⟨tsOf [(3,.dat 3 (.int x0)),(8,.dat 4 (.bool x1))],[],0⟩
def aby (x0:Int) (x1:Bool):St:=⟨tsOf [(3,.dat 3 (.int x0)),(4,.dat 4 (.bool x1))],[],0⟩
theorem Iu m x0:e53 jn m Dg [] (Dh x0)=eO m x0:=
 tq (g:=fun J=>(bif x0 then
  some (-1)
   else
  (some 2))) (by rfl)
theorem Iw m x0 x1:e53 jn m abx [] (ag2 x0 x1)=xM m x0 x1:=
 tq (g:=fun J=>(bif x1 then
  some 3
   else
  (bif (x0==4) then
  (jj J 0 27 0 (Dh (x0==4)) (e53 J m Dg []))
  else
  (bif (x0==6) then
  (jj J 0 27 0 (Dh (x0==6)) (e53 J m Dg []))
  else
  (bif (x0==16) then
  (jj J 0 27 0 (Dh (x0==16)) (e53 J m Dg []))
  else
  (bif (x0==17) then
  (jj J 0 27 0 (Dh (x0==17)) (e53 J m Dg []))
  else
  (bif (x0==21) then
  (jj J 0 27 0 (Dh (x0==21)) (e53 J m Dg []))
  else
  (bif (x0==29) then
  (jj J 0 27 0 (Dh (x0==29)) (e53 J m Dg []))
  else
  (bif (x0==37) then
  (jj J 0 27 0 (Dh (x0==37)) (e53 J m Dg []))
  else
  (bif (x0==35) then
  (jj J 0 27 0 (Dh (x0==35)) (e53 J m Dg []))
  else
  (jj J 0 27 0 (Dh (x0==34)) (e53 J m Dg [])))))))))))) (by simp only[aj,Iu m];rfl)
theorem Iy m x0 x1:e53 jn m Df [] (FV x0 x1)=gq m x0 x1:=
 tq (g:=fun J=>(bif x1 then
  some 1
   else
  (bif (x0==19) then
  (jj J 0 17 0 (ag2 x0 (x0==19)) (e53 J m abx []))
  else
  (jj J 0 17 0 (ag2 x0 (x0==25)) (e53 J m abx []))))) (by simp only[aj,Iw m];rfl)
theorem Iz m x0 x1:e53 jn m abw [] (aby x0 x1)=rY m x0 x1:=
 tq (g:=fun J=>(bif x1 then
  some 0
   else
  (bif (x0==18) then
  (jj J 0 14 0 (FV x0 (x0==18)) (e53 J m Df []))
  else
  (bif (x0==22) then
  (jj J 0 14 0 (FV x0 (x0==22)) (e53 J m Df []))
  else
  (bif (x0==23) then
  (jj J 0 14 0 (FV x0 (x0==23)) (e53 J m Df []))
  else
  (bif (x0==24) then
  (jj J 0 14 0 (FV x0 (x0==24)) (e53 J m Df []))
  else
  (bif (x0==26) then
  (jj J 0 14 0 (FV x0 (x0==26)) (e53 J m Df []))
  else
  (bif (x0==30) then
  (jj J 0 14 0 (FV x0 (x0==30)) (e53 J m Df []))
  else
  (bif (x0==31) then
  (jj J 0 14 0 (FV x0 (x0==31)) (e53 J m Df []))
  else
  (jj J 0 14 0 (FV x0 (x0==36)) (e53 J m Df []))))))))))) (by simp only[aj,Iy m];rfl)
theorem PE m a0:e53 jn m [] [] ⟨[.dat 3 (.int a0)],[],0⟩=nO (m+1) a0:=
 tq (g:=fun J=>(bif (a0==1) then
  (jj J 0 5 0 (aby a0 (a0==1)) (e53 J m abw []))
   else
  (bif (a0==2) then
  (jj J 0 5 0 (aby a0 (a0==2)) (e53 J m abw []))
  else
  (jj J 0 5 0 (aby a0 (a0==3)) (e53 J m abw []))))) (by simp only[aj,Iz m];rfl)
def e60 (J:Q1) (m:Nat):=evAt Tryz.prog env (ct m) J (m+1) 208 28 Tryz.f208 d5
theorem Np m a0:e60 jn m [] [] ⟨[.dat 26 a0],[],0⟩=nP (m+1) a0:=
 tq (g:=fun J=>(bif ((Dt.I a0 0)==0) then
  (bif ((Dt.I a0 1)==0) then
  (bif ((ByteArray.toList (Dt.S a0 2))==[]) then
  (bif ((List.length (Dt.L a0 3):Int)==0) then
  some ((List.length (Dt.L a0 4):Int)==0)
  else
  some false)
  else
  some false)
  else
  some false)
   else
  some false)) (by rfl)
def abz:List Nat:=[1,0,1,0,1]
def Di:List Nat:=[1,0,1,0,1,1,1]
def abA:List Nat:=Di++[1,1]
def abB:List Nat:=abA++[1,1]
def JA:List Nat:=abB++[1,1]
def e62 (J:Q2) (m:Nat):=evAt Tryz.prog env (ct m) J (m+1) 205 35 Tryz.f205 d31
def JB (x0:Int) (x1:Bool):St:=⟨tsOf [(3,.dat 3 (.int x0)),(23,.dat 4 (.bool x1))],[],0⟩
def ag3 (x0:Int) (x1:Bool):St:=⟨tsOf [(3,.dat 3 (.int x0)),(20,.dat 4 (.bool x1))],[],0⟩
def ag4 (x0:Int) (x1:Bool):St:=⟨tsOf [(3,.dat 3 (.int x0)),(17,.dat 4 (.bool x1))],[],0⟩
def FW (x0:Int) (x1:Bool):St:=⟨tsOf [(3,.dat 3 (.int x0)),(8,.dat 4 (.bool x1))],[],0⟩
def abC (x0:Int) (x1:Bool):St:=⟨tsOf [(3,.dat 3 (.int x0)),(4,.dat 4 (.bool x1))],[],0⟩
theorem IB m x0 x1:e62 jn m JA [] (JB x0 x1)=iy m x0 x1:=
 tq (g:=fun J=>(bif x1 then
  some 5
   else
  (bif (x0==35) then
  some 6
  else
  (bif (x0==34) then
  some 7
  else
  (some 2))))) (by rfl)
theorem IC m x0 x1:e62 jn m abB [] (ag3 x0 x1)=xO m x0 x1:=
 tq (g:=fun J=>(bif x1 then
  some 4
   else
  (bif (x0==4) then
  (jj J 0 28 0 (JB x0 (x0==4)) (e62 J m JA []))
  else
  (bif (x0==6) then
  (jj J 0 28 0 (JB x0 (x0==6)) (e62 J m JA []))
  else
  (bif (x0==16) then
  (jj J 0 28 0 (JB x0 (x0==16)) (e62 J m JA []))
  else
  (bif (x0==17) then
  (jj J 0 28 0 (JB x0 (x0==17)) (e62 J m JA []))
  else
  (bif (x0==21) then
  (jj J 0 28 0 (JB x0 (x0==21)) (e62 J m JA []))
  else
  (bif (x0==29) then
  (jj J 0 28 0 (JB x0 (x0==29)) (e62 J m JA []))
  else
  (jj J 0 28 0 (JB x0 (x0==37)) (e62 J m JA [])))))))))) (by simp only[aj,IB m];rfl)
theorem IE m x0 x1:e62 jn m abA [] (ag4 x0 x1)=xP m x0 x1:=
 tq (g:=fun J=>(bif x1 then
  some 3
   else
  (bif (x0==19) then
  (jj J 0 20 0 (ag3 x0 (x0==19)) (e62 J m abB []))
  else
  (jj J 0 20 0 (ag3 x0 (x0==25)) (e62 J m abB []))))) (by simp only[aj,IC m];rfl)
theorem IG m x0 x1:e62 jn m Di [] (FW x0 x1)=gu m x0 x1:=
 tq (g:=fun J=>(bif x1 then
  some 1
   else
  (bif (x0==32) then
  (jj J 0 17 0 (ag4 x0 (x0==32)) (e62 J m abA []))
  else
  (jj J 0 17 0 (ag4 x0 (x0==33)) (e62 J m abA []))))) (by simp only[aj,IE m];rfl)
theorem II m x0 x1:e62 jn m abz [] (abC x0 x1)=rZ m x0 x1:=
 tq (g:=fun J=>(bif x1 then
  some 0
   else
  (bif (x0==18) then
  (jj J 0 14 0 (FW x0 (x0==18)) (e62 J m Di []))
  else
  (bif (x0==22) then
  (jj J 0 14 0 (FW x0 (x0==22)) (e62 J m Di []))
  else
  (bif (x0==23) then
  (jj J 0 14 0 (FW x0 (x0==23)) (e62 J m Di []))
  else
  (bif (x0==24) then
  (jj J 0 14 0 (FW x0 (x0==24)) (e62 J m Di []))
  else
  (bif (x0==26) then
  (jj J 0 14 0 (FW x0 (x0==26)) (e62 J m Di []))
  else
  (bif (x0==30) then
  (jj J 0 14 0 (FW x0 (x0==30)) (e62 J m Di []))
  else
  (bif (x0==31) then
  (jj J 0 14 0 (FW x0 (x0==31)) (e62 J m Di []))
  else
  (jj J 0 14 0 (FW x0 (x0==36)) (e62 J m Di []))))))))))) (by simp only[aj,IG m];rfl)
theorem PG m a0:e62 jn m [] [] ⟨[.dat 3 (.int a0)],[],0⟩=nQ (m+1) a0:=
 tq (g:=fun J=>(bif (a0==1) then
  (jj J 0 5 0 (abC a0 (a0==1)) (e62 J m abz []))
   else
  (bif (a0==2) then
  (jj J 0 5 0 (abC a0 (a0==2)) (e62 J m abz []))
  else
  (jj J 0 5 0 (abC a0 (a0==3)) (e62 J m abz []))))) (by simp only[aj,II m];rfl)
def ag5:List Nat:=[1,0,1,0,1,1,1,1,1]
def e63 (J:Q1) (m:Nat):=evAt Tryz.prog env (ct m) J (m+1) 204 27 Tryz.f204 d5
def ag6 (x0 x1:Int) (x2:Bool):St:=⟨tsOf [(1,.dat 3 (.int x0)),(5,.dat 3 (.int x1)),(14,.dat 4 (.bool x2))],[],0⟩
theorem Eo m x0 x1 x2:e63 jn m ag5 [] (ag6 x0 x1 x2)=tN m x0 x1 x2:=
 tq (g:=fun J=>(bif x2 then
  some (x0==2)
   else
  (bif (x1==4) then
  some (x0==3)
  else
  (bif (x1==7) then
  some (decide (1≤x0))
  else
  (some true))))) (by rfl)
theorem Km m a0 a1:e63 jn m [] [] ⟨[.dat 3 (.int a0),.dat 3 (.int a1)],[],0⟩=oC (m+1) a0 a1:=
 tq (g:=fun J=>(bif (a0==0) then
  some (a1==0)
   else
  (bif (a0==1) then
  some (a1==1)
  else
  (bif (a0==2) then
  (jj J 0 8 0 (ag6 a1 a0 (a0==2)) (e63 J m ag5 []))
  else
  (jj J 0 8 0 (ag6 a1 a0 (a0==3)) (e63 J m ag5 [])))))) (by simp only[aj,Eo m];rfl)
def ap4:List Nat:=[1,1,0,1,0,1,0,1]
def ag7:List Nat:=ap4++[0]
def ap5:List Nat:=[1,1,0,1,0,1,1,1,0,1,0,1]
def Wu:List Nat:=ap5++[0]
def ap6:List Nat:=Wu++[0,1,1]
def ag8:List Nat:=ap6++[1]
def e64 (J:Q0) (m:Nat):=evAt Tryz.prog env (ct m) J (m+1) 159 63 Tryz.f159 d16
def l64 (J:Q0) (m:Nat):=loopAt Tryz.prog env (ct m) J (m+1) 159 63 Tryz.f159 d16
def ag9 (x0 x1:List Dt) (x2 x3:Int) (x4:Dt):St:=⟨tsOf [(1,.dat 22 (.lst x0)),(4,.ptr 0 [] 0),(20,.dat 24 (.lst x1)),(21,.dat 3 (.int x2)),(22,.dat 3 (.int x3))],[.box 26 (.dat 26 x4)],0⟩
def Nq (x0 x1:List Dt) (x2 x3:Int) (x4:Dt) (x5 x6:Int) (x7:ByteArray) (x8 x9:List Dt):St:=⟨tsOf [(1,.dat 22 (.lst x0)),(4,.ptr 0 [] 0),(7,.ptr 1 [] 0),(42,.dat 23 (.lst x1)),(43,.dat 3 (.int x2)),(44,.dat 3 (.int x3))],[.box 26 (.dat 26 x4),.box 26 (.agg 26 [.dat 3 (.int x5),.dat 3 (.int x6),.dat 9 (.str x7),.row 2,.row 3]),.row 23 x8,.row 24 x9],0⟩
theorem vJ m:∀M2 x0 x1 x2 x3 x4,l64 jn m ag7 [] M2 (ag9 x0 x1 x2 x3 x4)=mo m (aR m) M2 x0 x1 x2 x3 x4
 |0,_,_,_,_,_=>rfl
 | M2+1,x0,x1,x2,x3,x4=>
   tl (g:=fun J=>(bif (decide (x3<x2)) then
  (((idx x1 x3).bind fun v0=>((idx x0 0).bind fun v1=>(bif ((ByteArray.toList (Dt.S v0 0))==(ByteArray.toList (Dt.toStr v1))) then((cutL x0 1 (List.length x0:Int)).bind fun v2=>((aR m (Dt.fld v0 1) v2).bind fun r3=>some r3)) else((jj J 1 6 M2 (ag9 x0 x1 x2 (IntKind.wrap .i64 (x3+1)) x4) (l64 J m ag7 [] M2)))))))
   else
  (some kza2373))) (by simp only[aj,(vJ m M2)];rfl)
abbrev ap7 (m M7:Nat) (rec7:Q54):Prop:=∀x0 x1 x2 x3 x4 x5 x6 x7 x8 x9,l64 jn m Wu [] M7 (Nq x0 x1 x2 x3 x4 x5 x6 x7 x8 x9)=rec7 x0 x1 x2 x3 x4 x5 x6 x7 x8 x9
theorem Ep m M7 rec7 (h7:ap7 m M7 rec7) x0 x1 x2 x3 x4 x5 x6 x7 x8 x9:e64 jn m ag8 [M7] (Nq x0 x1 x2 x3 x4 x5 x6 x7 x8 x9)=gN m (aR m) rec7 x0 x1 x2 x3 x4 x5 x6 x7 x8 x9:=
 tq (g:=fun J=>(jj J 1 14 M7 (Nq x0 x1 x2 (IntKind.wrap .i64 (x3+1)) x4 x5 x6 x7 x8 x9) (l64 J m Wu [] M7))) (by simp only[aj,h7];rfl)
theorem vK m:∀M7 x0 x1 x2 x3 x4 x5 x6 x7 x8 x9,l64 jn m Wu [] M7 (Nq x0 x1 x2 x3 x4 x5 x6 x7 x8 x9)=gP m (aR m) M7 x0 x1 x2 x3 x4 x5 x6 x7 x8 x9
 |0,_,_,_,_,_,_,_,_,_,_=>rfl
 | M7+1,x0,x1,x2,x3,x4,x5,x6,x7,x8,x9=>
   tl (g:=fun J=>(bif (decide (x3<x2)) then
  (((idx x1 x3).bind fun v4=>((aR m v4 x0).bind fun r5=>(bif ((Dt.I r5 0) !=0) then((app x8 [r5]).bind fun v6=>(jj J 0 19 0 (Nq x0 x1 x2 x3 x4 x5 x6 x7 v6 x9) (e64 J m ag8 [M7]))) else(jj J 0 19 0 (Nq x0 x1 x2 x3 x4 x5 x6 x7 x8 x9) (e64 J m ag8 [M7]))))))
   else
  (some (Dt.agg [(Dt.int x5),(Dt.int x6),(Dt.str x7),(Dt.lst x8),(Dt.lst x9)])))) (by simp only[aj,Ep m M7 (gP m (aR m) M7) (vK m M7)];rfl)
theorem Kn m a0 a1:e64 jn m [] [] ⟨[.dat 26 a0,.dat 22 (.lst a1)],[],0⟩=aR (m+1) a0 a1:=
 tq (g:=fun J=>(bif ((List.length a1:Int)==0) then
  some a0
   else
  ((bif ((Dt.I a0 0)==5) then((jj J 1 6 (Nat.succ m) (ag9 a1 (Dt.L a0 4) (List.length (Dt.L a0 4):Int) 0 kza2373) (l64 J m ag7 [] (Nat.succ m)))) else(bif ((Dt.I a0 0)==6) then((jj J 1 14 (Nat.succ m) (Nq a1 (Dt.L a0 3) (List.length (Dt.L a0 3):Int) 0 kza2373 6 0 (ByteArray.mk (List.toArray [])) [] []) (l64 J m Wu [] (Nat.succ m)))) else(some kza2373)))))) (by simp only[aj,vJ m,vK m];rfl)
def e71 (J:Q0) (m:Nat):=evAt Tryz.prog env (ct m) J (m+1) 166 5 Tryz.f166 d16
theorem tL m a0:e71 jn m [] [] ⟨[.dat 3 (.int a0)],[],0⟩=aN (m+1) a0:=
 tq (g:=fun J=>some (Dt.agg [(Dt.int 3),(Dt.int a0),(Dt.str (ByteArray.mk (List.toArray []))),(Dt.lst []),(Dt.lst [])])) (by rfl)
def e78 (J:Q0) (m:Nat):=evAt Tryz.prog env (ct m) J (m+1) 172 8 Tryz.f172 d16
theorem PI m a0:e78 jn m [] [] ⟨[.dat 26 a0],[],0⟩=lU (m+1) a0:=
 tq (g:=fun J=>(bif ((Dt.I a0 0)==0) then
  ((aS m).bind fun r0=>
  some r0)
   else
  (some a0))) (by rfl)
def e79 (J:Q1) (m:Nat):=evAt Tryz.prog env (ct m) J (m+1) 173 27 Tryz.f173 d5
theorem PK m a0:e79 jn m [] [] ⟨[.dat 26 a0],[],0⟩=dY (m+1) a0:=
 tq (g:=fun J=>(bif (decide (2<(Dt.I a0 0))) then
  (bif ((Dt.I a0 0)==9) then
  (bif (Bool.not ((Dt.I a0 1)==0)) then
  some true
  else
  some ((Dt.I a0 0)==1))
  else
  (bif ((Dt.I a0 0)==3) then
  (bif (Bool.not ((Dt.I a0 1)==0)) then
  some true
  else
  some ((Dt.I a0 0)==1))
  else
  some true))
   else
  some ((Dt.I a0 0)==1))) (by rfl)
def e82 (J:Q0) (m:Nat):=evAt Tryz.prog env (ct m) J (m+1) 176 6 Tryz.f176 d16
theorem IJ m a0:e82 jn m [] [] ⟨[.dat 4 (.bool a0)],[],0⟩=aO (m+1) a0:=
 tq (g:=fun J=>(bif a0 then
  some Kz
   else
  (some Ky))) (by rfl)
def e81 (J:Q0) (m:Nat):=evAt Tryz.prog env (ct m) J (m+1) 175 26 Tryz.f175 d16
def l81 (J:Q0) (m:Nat):=loopAt Tryz.prog env (ct m) J (m+1) 175 26 Tryz.f175 d16
def aha (x0:Int) (x1:List Dt) (x2:Int) (x3:Dt):St:=⟨tsOf [(0,.dat 3 (.int x0)),(1,.dat 23 (.lst x1)),(4,.ptr 0 [] 0),(5,.dat 3 (.int x2))],[.box 26 (.dat 26 x3)],0⟩
theorem wW m:∀M1 x0 x1 x2 x3,l81 jn m [1,0,1,0] [] M1 (aha x0 x1 x2 x3)=nR m M1 x0 x1 x2 x3
 |0,_,_,_,_=>rfl
 | M1+1,x0,x1,x2,x3=>
   tl (g:=fun J=>(bif (decide (x2<(List.length x1:Int))) then
  (((idx x1 x2).bind fun v0=>((dY m v0).bind fun r1=>(bif (r1==(x0==17)) then((aO m (x0==17)).bind fun r2=>some r2) else((jj J 1 2 M1 (aha x0 x1 (IntKind.wrap .i64 (x2+1)) x3) (l81 J m [1,0,1,0] [] M1)))))))
   else
  (((aO m (x0==16)).bind fun r3=>some r3)))) (by simp only[aj,(wW m M1)];rfl)
theorem Nr m a0 a1:e81 jn m [] [] ⟨[.dat 3 (.int a0),.dat 23 (.lst a1)],[],0⟩=lH (m+1) a0 a1:=
 tq (g:=fun J=>((jj J 1 2 (Nat.succ m) (aha a0 a1 0 kza2373) (l81 J m [1,0,1,0] [] (Nat.succ m))))) (by simp only[aj,wW m];rfl)
def e84 (J:Q0) (m:Nat):=evAt Tryz.prog env (ct m) J (m+1) 178 5 Tryz.f178 d16
theorem TN m a0:e84 jn m [] [] ⟨[.dat 3 (.int a0)],[],0⟩=bO (m+1) a0:=
 tq (g:=fun J=>some (Dt.agg [(Dt.int 3),(Dt.int a0),(Dt.str (ByteArray.mk (List.toArray []))),(Dt.lst []),(Dt.lst [])])) (by rfl)
def abD:List Nat:=[1,1,0,1,0]
def ak7:List Nat:=[1,1,0,1,0,0,1]
def Wv:List Nat:=ak7++[0,0,1,1]
def ahb:List Nat:=Wv++[1]
def abE:List Nat:=ak7++[0,0,1,0,1]
def abF:List Nat:=Wv++[0,1]
def e85 (J:Q79) (m:Nat):=evAt Tryz.prog env (ct m) J (m+1) 180 46 Tryz.f180 d85
def l85 (J:Q79) (m:Nat):=loopAt Tryz.prog env (ct m) J (m+1) 180 46 Tryz.f180 d85
def abG (x0:ByteArray) (x1:Bool) (x2:ByteArray) (x3:Int):St:=⟨tsOf [(0,.dat 9 (.str x0)),(1,.dat 4 (.bool x1)),(5,.dat 9 (.str x2)),(6,.dat 3 (.int x3))],[],0⟩
def QS (x0:ByteArray) (x1:Bool) (x2:ByteArray) (x3 x4:Int):St:=⟨tsOf [(0,.dat 9 (.str x0)),(1,.dat 4 (.bool x1)),(5,.dat 9 (.str x2)),(6,.dat 3 (.int x3)),(7,.dat 5 (.int x4))],[],0⟩
def abH (x0:ByteArray) (x1:Bool) (x2:ByteArray) (x3 x4:Int) (x5:Bool):St:=⟨tsOf [(0,.dat 9 (.str x0)),(1,.dat 4 (.bool x1)),(5,.dat 9 (.str x2)),(6,.dat 3 (.int x3)),(7,.dat 5 (.int x4)),(37,.dat 4 (.bool x5))],[],0⟩
def abI (x0:ByteArray) (x1:Bool) (x2:ByteArray) (x3 x4:Int) (x5:Bool):St:=⟨tsOf [(0,.dat 9 (.str x0)),(1,.dat 4 (.bool x1)),(5,.dat 9 (.str x2)),(6,.dat 3 (.int x3)),(7,.dat 5 (.int x4)),(25,.dat 4 (.bool x5))],[],0⟩
abbrev abJ (m M1:Nat) (rec1:Q34):Prop:=∀x0 x1 x2 x3,l85 jn m abD [] M1 (abG x0 x1 x2 x3)=rec1 x0 x1 x2 x3
theorem CK m M1 rec1 (h1:abJ m M1 rec1) x0 x1 x2 x3 x4:e85 jn m ahb [M1] (QS x0 x1 x2 x3 x4)=kK m rec1 x0 x1 x2 x3 x4:=
 tq (g:=fun J=>(bif (Nat.ble ((ByteArray.size x2)+(ByteArray.size (strOfNums [x4]))) 1152921504606846976) then
  ((jj J 1 3 M1 (abG x0 x1 (x2++(strOfNums [x4])) (IntKind.wrap .i64 (x3+1))) (l85 J m abD [] M1)))
   else
  none)) (by simp only[aj,h1];rfl)
theorem CO m M1 rec1 (h1:abJ m M1 rec1) x0 x1 x2 x3 x4 x5:e85 jn m abF [M1] (abH x0 x1 x2 x3 x4 x5)=eB m rec1 x0 x1 x2 x3 x4 x5:=
 tq (g:=fun J=>(bif x5 then
  (jj J 0 10 0 (QS x0 x1 x2 x3 (IntKind.wrap IntKind.u8 (x4+32))) (e85 J m ahb [M1]))
   else
  (jj J 0 10 0 (QS x0 x1 x2 x3 x4) (e85 J m ahb [M1])))) (by simp only[aj,CK m M1 rec1 h1];rfl)
theorem CP m M1 rec1 (h1:abJ m M1 rec1) x0 x1 x2 x3 x4:e85 jn m Wv [M1] (QS x0 x1 x2 x3 x4)=fM m rec1 x0 x1 x2 x3 x4:=
 tq (g:=fun J=>(bif (Bool.not x1) then
  (bif (decide (65≤x4)) then
  (jj J 0 9 0 (abH x0 x1 x2 x3 x4 (decide (x4≤90))) (e85 J m abF [M1]))
  else
  (jj J 0 9 0 (abH x0 x1 x2 x3 x4 false) (e85 J m abF [M1])))
   else
  (jj J 0 9 0 (abH x0 x1 x2 x3 x4 false) (e85 J m abF [M1])))) (by simp only[aj,CO m M1 rec1 h1];rfl)
theorem CQ m M1 rec1 (h1:abJ m M1 rec1) x0 x1 x2 x3 x4 x5:e85 jn m abE [M1] (abI x0 x1 x2 x3 x4 x5)=eD m rec1 x0 x1 x2 x3 x4 x5:=
 tq (g:=fun J=>(bif x5 then
  (jj J 0 8 0 (QS x0 x1 x2 x3 (IntKind.wrap IntKind.u8 (x4-32))) (e85 J m Wv [M1]))
   else
  (jj J 0 8 0 (QS x0 x1 x2 x3 x4) (e85 J m Wv [M1])))) (by simp only[aj,CP m M1 rec1 h1];rfl)
theorem uw m:∀M1 x0 x1 x2 x3,l85 jn m abD [] M1 (abG x0 x1 x2 x3)=iL m M1 x0 x1 x2 x3
 |0,_,_,_,_=>rfl
 | M1+1,x0,x1,x2,x3=>
   tl (g:=fun J=>(bif (decide (x3<(ByteArray.size x0:Int))) then
  (((idxS x0 x3).bind fun v0=>(bif x1 then(bif (decide (97≤v0)) then(jj J 0 7 0 (abI x0 x1 x2 x3 v0 (decide (v0≤122))) (e85 J m abE [M1])) else(jj J 0 7 0 (abI x0 x1 x2 x3 v0 false) (e85 J m abE [M1]))) else(jj J 0 7 0 (abI x0 x1 x2 x3 v0 false) (e85 J m abE [M1])))))
   else
  (some x2))) (by simp only[aj,CQ m M1 (iL m M1) (uw m M1)];rfl)
theorem IK m a0 a1:e85 jn m [] [] ⟨[.dat 9 (.str a0),.dat 4 (.bool a1)],[],0⟩=iA (m+1) a0 a1:=
 tq (g:=fun J=>((jj J 1 3 (Nat.succ m) (abG a0 a1 (ByteArray.mk (List.toArray [])) 0) (l85 J m abD [] (Nat.succ m))))) (by simp only[aj,uw m];rfl)
def e86 (J:Q0) (m:Nat):=evAt Tryz.prog env (ct m) J (m+1) 179 5 Tryz.f179 d16
theorem PL m a0:e86 jn m [] [] ⟨[.dat 9 (.str a0)],[],0⟩=iT (m+1) a0:=
 tq (g:=fun J=>some (Dt.agg [(Dt.int 4),(Dt.int 0),(Dt.str a0),(Dt.lst []),(Dt.lst [])])) (by rfl)
def ahc:List Nat:=[1,1,1,1,1,1]
def e87 (J:Q0) (m:Nat):=evAt Tryz.prog env (ct m) J (m+1) 181 65 Tryz.f181 d16
def ahd (x0 x1:Int) (x2 x3:Dt):St:=⟨tsOf [(3,.ptr 0 [] 0),(6,.ptr 1 [] 0),(7,.dat 3 (.int x0)),(8,.dat 3 (.int x1))],[.box 26 (.dat 26 x2),.box 26 (.dat 26 x3)],0⟩
def ahe (x0:Int) (x1 x2 x3:Dt):St:=⟨tsOf [(3,.ptr 0 [] 0),(5,.ptr 1 [] 0),(6,.ptr 2 [] 0),(7,.dat 3 (.int x0))],[.box 26 (.dat 26 x1),.box 26 (.dat 26 x2),.box 26 (.dat 26 x3)],0⟩
def QT (x0:Bool) (x1 x2 x3 x4:Dt):St:=⟨tsOf [(3,.ptr 0 [] 0),(4,.ptr 1 [] 0),(5,.ptr 2 [] 0),(6,.ptr 3 [] 0),(31,.dat 4 (.bool x0))],[.box 26 (.dat 26 x1),.box 26 (.dat 26 x2),.box 26 (.dat 26 x3),.box 26 (.dat 26 x4)],0⟩
theorem FY m x0 x1 x2 x3:e87 jn m ahc [] (ahd x0 x1 x2 x3)=nS m x0 x1 x2 x3:=
 tq (g:=fun J=>((cutS (Dt.S x2 2) x0 (IntKind.wrap .i64 (x0+x1))).bind fun v1=>
  ((iT m v1).bind fun r2=>
  some r2))) (by rfl)
theorem F3 m x0 x1 x2 x3:e87 jn m [1,1,1,1] [] (ahe x0 x1 x2 x3)=nT m x0 x1 x2 x3:=
 tq (g:=fun J=>(bif (decide ((IntKind.wrap .i64 ((ByteArray.size (Dt.S x1 2):Int)-x0))<(Dt.I x2 1))) then
  (jj J 0 9 0 (ahd x0 (IntKind.wrap .i64 ((ByteArray.size (Dt.S x1 2):Int)-x0)) x1 x3) (e87 J m ahc []))
   else
  (jj J 0 9 0 (ahd x0 (Dt.I x2 1) x1 x3) (e87 J m ahc [])))) (by simp only[aj,FY m];rfl)
theorem F4 m x0 x1 x2 x3 x4:e87 jn m [1,0,1] [] (QT x0 x1 x2 x3 x4)=iU m x0 x1 x2 x3 x4:=
 tq (g:=fun J=>(bif x0 then
  ((aS m).bind fun r0=>
  some r0)
   else
  ((bif (decide ((ByteArray.size (Dt.S x1 2):Int)<(Dt.I x2 1))) then(jj J 0 6 0 (ahe (ByteArray.size (Dt.S x1 2):Int) x1 x3 x4) (e87 J m [1,1,1,1] [])) else(jj J 0 6 0 (ahe (Dt.I x2 1) x1 x3 x4) (e87 J m [1,1,1,1] [])))))) (by simp only[aj,F3 m];rfl)
theorem Ns m a0 a1 a2:e87 jn m [] [] ⟨[.dat 26 a0,.dat 26 a1,.dat 26 a2],[],0⟩=lI (m+1) a0 a1 a2:=
 tq (g:=fun J=>(bif ((Dt.I a0 0) !=4) then
  (jj J 0 2 0 (QT true a0 a1 a2 kza2373) (e87 J m [1,0,1] []))
   else
  (bif ((Dt.I a1 0) !=3) then
  (jj J 0 2 0 (QT true a0 a1 a2 kza2373) (e87 J m [1,0,1] []))
  else
  (bif ((Dt.I a2 0) !=3) then
  (jj J 0 2 0 (QT true a0 a1 a2 kza2373) (e87 J m [1,0,1] []))
  else
  (bif (decide ((Dt.I a1 1)<0)) then
  (jj J 0 2 0 (QT true a0 a1 a2 kza2373) (e87 J m [1,0,1] []))
  else
  (jj J 0 2 0 (QT (decide ((Dt.I a2 1)<0)) a0 a1 a2 kza2373) (e87 J m [1,0,1] []))))))) (by simp only[aj,F4 m];rfl)
def ap8:List Nat:=[1,1,1,1,1,0,1]
def abK:List Nat:=ap8++[0]
def e88 (J:Q0) (m:Nat):=evAt Tryz.prog env (ct m) J (m+1) 182 61 Tryz.f182 d16
def l88 (J:Q0) (m:Nat):=loopAt Tryz.prog env (ct m) J (m+1) 182 61 Tryz.f182 d16
def abL (x0 x1 x2:Int) (x3 x4:Dt) (x5 x6:Int) (x7:ByteArray) (x8 x9:List Dt):St:=⟨tsOf [(0,.dat 3 (.int x0)),(3,.ptr 0 [] 0),(4,.ptr 1 [] 0),(5,.ptr 2 [] 0),(6,.dat 3 (.int x1)),(7,.dat 3 (.int x2))],[.box 26 (.dat 26 x3),.box 26 (.dat 26 x4),.box 26 (.agg 26 [.dat 3 (.int x5),.dat 3 (.int x6),.dat 9 (.str x7),.row 3,.row 4]),.row 23 x8,.row 24 x9],0⟩
theorem yU m:∀M3 x0 x1 x2 x3 x4 x5 x6 x7 x8 x9,l88 jn m abK [] M3 (abL x0 x1 x2 x3 x4 x5 x6 x7 x8 x9)=mY m M3 x0 x1 x2 x3 x4 x5 x6 x7 x8 x9
 |0,_,_,_,_,_,_,_,_,_,_=>rfl
 | M3+1,x0,x1,x2,x3,x4,x5,x6,x7,x8,x9=>
   tl (g:=fun J=>(bif (decide (x2<(List.length (Dt.L x3 3):Int))) then
  (((idx (Dt.L x3 3) (IntKind.wrap .i64 ((IntKind.wrap .i64 ((List.length (Dt.L x3 3):Int)-1))-x2))).bind fun v2=>((app x8 [v2]).bind fun v3=>((idx (Dt.L x3 3) x2).bind fun v4=>(bif ((Dt.I v4 0)==3) then((idx (Dt.L x3 3) x2).bind fun v5=>((jj J 1 8 M3 (abL x0 (IntKind.wrap .i64 (x1+(Dt.I v5 1))) (IntKind.wrap .i64 (x2+1)) x3 x4 x5 x6 x7 v3 x9) (l88 J m abK [] M3)))) else((jj J 1 8 M3 (abL x0 x1 (IntKind.wrap .i64 (x2+1)) x3 x4 x5 x6 x7 v3 x9) (l88 J m abK [] M3))))))))
   else
  ((bif (x0==31) then((bO m x1).bind fun r6=>some r6) else(some (Dt.agg [(Dt.int x5),(Dt.int x6),(Dt.str x7),(Dt.lst x8),(Dt.lst x9)])))))) (by simp only[aj,(yU m M3)];rfl)
theorem PN m a0 a1:e88 jn m [] [] ⟨[.dat 3 (.int a0),.dat 26 a1],[],0⟩=jX (m+1) a0 a1:=
 tq (g:=fun J=>(bif ((Dt.I a1 0) !=6) then
  ((aS m).bind fun r0=>
  some r0)
   else
  ((bif (a0==26) then((bO m (List.length (Dt.L a1 3):Int)).bind fun r1=>some r1) else(((jj J 1 8 (Nat.succ m) (abL a0 0 0 a1 kza2373 6 0 (ByteArray.mk (List.toArray [])) [] []) (l88 J m abK [] (Nat.succ m))))))))) (by simp only[aj,yU m];rfl)
def ahf:List Nat:=[1,1,1,1,0,1]
def e89 (J:Q0) (m:Nat):=evAt Tryz.prog env (ct m) J (m+1) 183 39 Tryz.f183 d16
def ahg (x0:Int) (x1 x2:Dt):St:=⟨tsOf [(2,.ptr 0 [] 0),(4,.ptr 1 [] 0),(5,.dat 3 (.int x0))],[.box 26 (.dat 26 x1),.box 26 (.dat 26 x2)],0⟩
def ahh (x0:Int) (x1:Bool) (x2 x3:Dt):St:=⟨tsOf [(2,.ptr 0 [] 0),(4,.ptr 1 [] 0),(5,.dat 3 (.int x0)),(32,.dat 4 (.bool x1))],[.box 26 (.dat 26 x2),.box 26 (.dat 26 x3)],0⟩
def ahi (x0:Bool) (x1 x2 x3:Dt):St:=⟨tsOf [(2,.ptr 0 [] 0),(3,.ptr 1 [] 0),(4,.ptr 2 [] 0),(13,.dat 4 (.bool x0))],[.box 26 (.dat 26 x1),.box 26 (.dat 26 x2),.box 26 (.dat 26 x3)],0⟩
theorem CS m x0 x1 x2 x3:e89 jn m ahf [] (ahh x0 x1 x2 x3)=oD m x0 x1 x2 x3:=
 tq (g:=fun J=>(bif x1 then
  some kza2373
   else
  (((idx (Dt.L x2 3) x0).bind fun v1=>some v1)))) (by rfl)
theorem CU m x0 x1 x2:e89 jn m [1,1,1,1] [] (ahg x0 x1 x2)=kL m x0 x1 x2:=
 tq (g:=fun J=>(bif (decide (x0<0)) then
  (jj J 0 7 0 (ahh x0 true x1 x2) (e89 J m ahf []))
   else
  (jj J 0 7 0 (ahh x0 (decide ((List.length (Dt.L x1 3):Int)≤x0)) x1 x2) (e89 J m ahf [])))) (by simp only[aj,CS m];rfl)
theorem CV m x0 x1 x2 x3:e89 jn m [1,0,1] [] (ahi x0 x1 x2 x3)=oF m x0 x1 x2 x3:=
 tq (g:=fun J=>(bif x0 then
  ((aS m).bind fun r0=>
  some r0)
   else
  ((bif (decide ((Dt.I x2 1)<0)) then(jj J 0 6 0 (ahg (IntKind.wrap .i64 ((Dt.I x2 1)+(List.length (Dt.L x1 3):Int))) x1 x3) (e89 J m [1,1,1,1] [])) else(jj J 0 6 0 (ahg (Dt.I x2 1) x1 x3) (e89 J m [1,1,1,1] [])))))) (by simp only[aj,CU m];rfl)
theorem IL m a0 a1:e89 jn m [] [] ⟨[.dat 26 a0,.dat 26 a1],[],0⟩=iB (m+1) a0 a1:=
 tq (g:=fun J=>(bif ((Dt.I a0 0) !=6) then
  (jj J 0 2 0 (ahi true a0 a1 kza2373) (e89 J m [1,0,1] []))
   else
  (jj J 0 2 0 (ahi ((Dt.I a1 0) !=3) a0 a1 kza2373) (e89 J m [1,0,1] [])))) (by simp only[aj,CV m];rfl)
def e93 (J:Q0) (m:Nat):=evAt Tryz.prog env (ct m) J (m+1) 187 44 Tryz.f187 d16
theorem IQ m a0 a1 a2:e93 jn m [] [] ⟨[.dat 3 (.int a0),.dat 26 a1,.dat 26 a2],[],0⟩=bQ (m+1) a0 a1 a2:=
 tq (g:=fun J=>((aA m a1 a2).bind fun r0=>
  (bif (a0==10) then
  ((aO m (r0==0)).bind fun r1=>
  some r1)
  else
  (bif (a0==11) then
  ((aO m (r0 !=0)).bind fun r2=>
  some r2)
  else
  (bif (a0==12) then
  ((aO m (decide (0<r0))).bind fun r3=>
  some r3)
  else
  (bif (a0==13) then
  ((aO m (decide (0≤r0))).bind fun r4=>
  some r4)
  else
  (bif (a0==14) then
  ((aO m (decide (r0<0))).bind fun r5=>
  some r5)
  else
  (bif (a0==15) then
  ((aO m (decide (r0≤0))).bind fun r6=>
  some r6)
  else
  (((bO m r0).bind fun r7=>some r7)))))))))) (by rfl)
def ap9:List Nat:=[1,1,0,1,0,1]
def ahj:List Nat:=ap9++[0]
def aqa:List Nat:=[1,1,1,0,1,0,1]
def ahk:List Nat:=aqa++[0]
def e94 (J:Q41) (m:Nat):=evAt Tryz.prog env (ct m) J (m+1) 133 44 Tryz.f133 d94
def l94 (J:Q41) (m:Nat):=loopAt Tryz.prog env (ct m) J (m+1) 133 44 Tryz.f133 d94
def ahl (x0:Int) (x1:Dt) (x2:List Dt):St:=⟨tsOf [(1,.ptr 0 [] 0),(3,.row 1),(4,.dat 3 (.int x0))],[.box 26 (.dat 26 x1),.row 23 x2],0⟩
def ahm (x0:Int) (x1:Dt) (x2:List Dt):St:=⟨tsOf [(1,.ptr 0 [] 0),(3,.row 1),(5,.dat 3 (.int x0))],[.box 26 (.dat 26 x1),.row 23 x2],0⟩
def ahn (x0:Dt) (x1:List Dt):St:=⟨tsOf [(1,.ptr 0 [] 0),(3,.row 1)],[.box 26 (.dat 26 x0),.row 23 x1],0⟩
theorem wX m:∀M6 x0 x1 x2,l94 jn m ahk [] M6 (ahm x0 x1 x2)=kM m M6 x0 x1 x2
 |0,_,_,_=>rfl
 | M6+1,x0,x1,x2=>
   tl (g:=fun J=>(bif (decide (x0<(List.length (Dt.L x1 4):Int))) then
  (((idx (Dt.L x1 4) x0).bind fun v2=>((app x2 [(Dt.fld v2 1)]).bind fun v3=>((jj J 1 9 M6 (ahm (IntKind.wrap .i64 (x0+1)) x1 v3) (l94 J m ahk [] M6))))))
   else
  (some x2))) (by simp only[aj,(wX m M6)];rfl)
theorem wY m x0 x1:e94 jn m [1,1,1] [] (ahn x0 x1)=kN m x0 x1:=
 tq (g:=fun J=>(bif ((Dt.I x0 0)==5) then
  ((jj J 1 9 (Nat.succ m) (ahm 0 x0 x1) (l94 J m ahk [] (Nat.succ m))))
   else
  (some x1))) (by simp only[aj,wX m];rfl)
theorem wZ m:∀M1 x0 x1 x2,l94 jn m ahj [] M1 (ahl x0 x1 x2)=kP m M1 x0 x1 x2
 |0,_,_,_=>rfl
 | M1+1,x0,x1,x2=>
   tl (g:=fun J=>(bif (decide (x0<(List.length (Dt.L x1 3):Int))) then
  (((idx (Dt.L x1 3) x0).bind fun v0=>((app x2 [v0]).bind fun v1=>((jj J 1 4 M1 (ahl (IntKind.wrap .i64 (x0+1)) x1 v1) (l94 J m ahj [] M1))))))
   else
  (jj J 0 7 0 (ahn x1 x2) (e94 J m [1,1,1] [])))) (by simp only[aj,(wZ m M1),wY m];rfl)
theorem Nt m a0:e94 jn m [] [] ⟨[.dat 26 a0],[],0⟩=jD (m+1) a0:=
 tq (g:=fun J=>(bif ((Dt.I a0 0)==6) then
  ((jj J 1 4 (Nat.succ m) (ahl 0 a0 []) (l94 J m ahj [] (Nat.succ m))))
   else
  (jj J 0 7 0 (ahn a0 []) (e94 J m [1,1,1] [])))) (by simp only[aj,wZ m,wY m];rfl)
def aqb:List Nat:=[1,1,1,1,0,1]
def aho:List Nat:=aqb++[0]
def e54 (J:Q2) (m:Nat):=evAt Tryz.prog env (ct m) J (m+1) 92 34 Tryz.f92 d31
def l54 (J:Q2) (m:Nat):=loopAt Tryz.prog env (ct m) J (m+1) 92 34 Tryz.f92 d31
def ahp (x0:Int) (x1:List Dt) (x2 x3:Int):St:=⟨tsOf [(1,.dat 3 (.int x0)),(5,.dat 23 (.lst x1)),(6,.dat 3 (.int x2)),(7,.dat 3 (.int x3))],[],0⟩
def ahq (x0:Int) (x1:List Dt) (x2:Bool):St:=⟨tsOf [(1,.dat 3 (.int x0)),(5,.dat 23 (.lst x1)),(16,.dat 4 (.bool x2))],[],0⟩
theorem vL m:∀M3 x0 x1 x2 x3,l54 jn m aho [] M3 (ahp x0 x1 x2 x3)=jv m (cK m) M3 x0 x1 x2 x3
 |0,_,_,_,_=>rfl
 | M3+1,x0,x1,x2,x3=>
   tl (g:=fun J=>(bif (decide (x3<(List.length x1:Int))) then
  (((idx x1 x3).bind fun v1=>((cK m v1 (IntKind.wrap .i64 (x0-1))).bind fun r2=>((jj J 1 6 M3 (ahp x0 x1 (bif (decide (x2<r2)) then r2 else x2) (IntKind.wrap .i64 (x3+1))) (l54 J m aho [] M3))))))
   else
  (some (IntKind.wrap .i64 (x2+1))))) (by simp only[aj,(vL m M3)];rfl)
theorem Er m x0 x1 x2:e54 jn m [1,1,0,1] [] (ahq x0 x1 x2)=fC m (cK m) x0 x1 x2:=
 tq (g:=fun J=>(bif x2 then
  some 1
   else
  (((jj J 1 6 (Nat.succ m) (ahp x0 x1 0 0) (l54 J m aho [] (Nat.succ m))))))) (by simp only[aj,vL m];rfl)
theorem Ko m a0 a1:e54 jn m [] [] ⟨[.dat 26 a0,.dat 3 (.int a1)],[],0⟩=cK (m+1) a0 a1:=
 tq (g:=fun J=>((jD m a0).bind fun r0=>
  (bif (decide (a1<2)) then
  (jj J 0 3 0 (ahq a1 r0 true) (e54 J m [1,1,0,1] []))
  else
  (jj J 0 3 0 (ahq a1 r0 ((List.length r0:Int)==0)) (e54 J m [1,1,0,1] []))))) (by simp only[aj,Er m];rfl)
def e36 (J:Q2) (m:Nat):=evAt Tryz.prog env (ct m) J (m+1) 54 5 Tryz.f54 d31
theorem Nu m a0:e36 jn m [] [] ⟨[.dat 26 a0],[],0⟩=lJ (m+1) a0:=
 tq (g:=fun J=>((cK m a0 17).bind fun r0=>
  some r0)) (by rfl)
def ahr:List Nat:=[1,1,1,0,1,0]
def e55 (J:Q2) (m:Nat):=evAt Tryz.prog env (ct m) J (m+1) 93 32 Tryz.f93 d31
def l55 (J:Q2) (m:Nat):=loopAt Tryz.prog env (ct m) J (m+1) 93 32 Tryz.f93 d31
def ahs (x0 x1:Int) (x2:List Dt) (x3:Int):St:=⟨tsOf [(1,.dat 3 (.int x0)),(5,.dat 3 (.int x1)),(6,.dat 23 (.lst x2)),(7,.dat 3 (.int x3))],[],0⟩
theorem w9 m:∀M1 x0 x1 x2 x3,l55 jn m ahr [] M1 (ahs x0 x1 x2 x3)=nU m (gG m) M1 x0 x1 x2 x3
 |0,_,_,_,_=>rfl
 | M1+1,x0,x1,x2,x3=>
   tl (g:=fun J=>(bif (decide (x3<(List.length x2:Int))) then
  (bif (decide (x1<x0)) then
  (((idx x2 x3).bind fun v1=>((gG m v1 (IntKind.wrap .i64 (x0-x1))).bind fun r2=>((jj J 1 4 M1 (ahs x0 (IntKind.wrap .i64 (x1+r2)) x2 (IntKind.wrap .i64 (x3+1))) (l55 J m ahr [] M1))))))
  else
  (some x1))
   else
  (some x1))) (by simp only[aj,(w9 m M1)];rfl)
theorem Nv m a0 a1:e55 jn m [] [] ⟨[.dat 26 a0,.dat 3 (.int a1)],[],0⟩=gG (m+1) a0 a1:=
 tq (g:=fun J=>((jD m a0).bind fun r0=>
  ((jj J 1 4 (Nat.succ m) (ahs a1 1 r0 0) (l55 J m ahr [] (Nat.succ m)))))) (by simp only[aj,w9 m];rfl)
def e37 (J:Q2) (m:Nat):=evAt Tryz.prog env (ct m) J (m+1) 55 5 Tryz.f55 d31
theorem Nw m a0:e37 jn m [] [] ⟨[.dat 26 a0],[],0⟩=lK (m+1) a0:=
 tq (g:=fun J=>((gG m a0 1025).bind fun r0=>
  some r0)) (by rfl)
def abM:List Nat:=[1,1,0,1,0]
def aqc:List Nat:=[1,1,0,1,0,0,1]
def aht:List Nat:=aqc++[0,0,1]
def e95 (J:Q1) (m:Nat):=evAt Tryz.prog env (ct m) J (m+1) 134 33 Tryz.f134 d5
def l95 (J:Q1) (m:Nat):=loopAt Tryz.prog env (ct m) J (m+1) 134 33 Tryz.f134 d5
def abN (x0:ByteArray) (x1 x2 x3:Int):St:=⟨tsOf [(0,.dat 9 (.str x0)),(1,.dat 3 (.int x1)),(2,.dat 3 (.int x2)),(7,.dat 3 (.int x3))],[],0⟩
def ahu (x0:ByteArray) (x1 x2 x3:Int) (x4:Bool):St:=⟨tsOf [(0,.dat 9 (.str x0)),(1,.dat 3 (.int x1)),(2,.dat 3 (.int x2)),(7,.dat 3 (.int x3)),(32,.dat 4 (.bool x4))],[],0⟩
abbrev aqd (m M2:Nat) (rec2:Q43):Prop:=∀x0 x1 x2 x3,l95 jn m abM [] M2 (abN x0 x1 x2 x3)=rec2 x0 x1 x2 x3
theorem IU m M2 rec2 (h2:aqd m M2 rec2) x0 x1 x2 x3 x4:e95 jn m aht [M2] (ahu x0 x1 x2 x3 x4)=mZ m rec2 x0 x1 x2 x3 x4:=
 tq (g:=fun J=>(bif x4 then
  some false
   else
  ((jj J 1 4 M2 (abN x0 x1 x2 (IntKind.wrap .i64 (x3+1))) (l95 J m abM [] M2))))) (by simp only[aj,h2];rfl)
theorem yV m:∀M2 x0 x1 x2 x3,l95 jn m abM [] M2 (abN x0 x1 x2 x3)=ng m M2 x0 x1 x2 x3
 |0,_,_,_,_=>rfl
 | M2+1,x0,x1,x2,x3=>
   tl (g:=fun J=>(bif (decide (x3<x2)) then
  (((idxS x0 (IntKind.wrap .i64 (x1+x3))).bind fun v0=>(bif (decide (v0<128)) then(jj J 0 7 0 (ahu x0 x1 x2 x3 true) (e95 J m aht [M2])) else((idxS x0 (IntKind.wrap .i64 (x1+x3))).bind fun v1=>(jj J 0 7 0 (ahu x0 x1 x2 x3 (decide (191<v1))) (e95 J m aht [M2]))))))
   else
  (some true))) (by simp only[aj,IU m M2 (ng m M2) (yV m M2)];rfl)
theorem PO m a0 a1 a2:e95 jn m [] [] ⟨[.dat 9 (.str a0),.dat 3 (.int a1),.dat 3 (.int a2)],[],0⟩=pR (m+1) a0 a1 a2:=
 tq (g:=fun J=>(bif (decide ((ByteArray.size a0:Int)<(IntKind.wrap .i64 (a1+a2)))) then
  some false
   else
  (((jj J 1 4 (Nat.succ m) (abN a0 a1 a2 0) (l95 J m abM [] (Nat.succ m))))))) (by simp only[aj,yV m];rfl)
def ak8:List Nat:=[1,0,1,0,0,1]
def QU:List Nat:=ak8++[0,1,1,1]
def aqe:List Nat:=QU++[1]
def nI:List Nat:=aqe++[0,1]
def abO:List Nat:=ak8++[0,1,1,0,0,1,1,1]
def abP:List Nat:=abO++[1,1]
def ahv:List Nat:=abP++[1,1]
def e56 (J:Q1) (m:Nat):=evAt Tryz.prog env (ct m) J (m+1) 94 89 Tryz.f94 d5
def l56 (J:Q1) (m:Nat):=loopAt Tryz.prog env (ct m) J (m+1) 94 89 Tryz.f94 d5
def nJ (x0:ByteArray) (x1 x2:Int) (x3:Bool):St:=⟨tsOf [(0,.dat 9 (.str x0)),(3,.dat 3 (.int x1)),(5,.dat 3 (.int x2)),(84,.dat 4 (.bool x3))],[],0⟩
def Ww (x0:ByteArray) (x1 x2 x3:Int):St:=⟨tsOf [(0,.dat 9 (.str x0)),(3,.dat 3 (.int x1)),(4,.dat 5 (.int x2)),(5,.dat 3 (.int x3))],[],0⟩
def ahw (x0:ByteArray) (x1 x2:Int) (x3:Bool):St:=⟨tsOf [(0,.dat 9 (.str x0)),(3,.dat 3 (.int x1)),(4,.dat 5 (.int x2)),(30,.dat 4 (.bool x3))],[],0⟩
def ahx (x0:ByteArray) (x1 x2:Int) (x3:Bool):St:=⟨tsOf [(0,.dat 9 (.str x0)),(3,.dat 3 (.int x1)),(4,.dat 5 (.int x2)),(23,.dat 4 (.bool x3))],[],0⟩
def ahy (x0:ByteArray) (x1 x2:Int) (x3:Bool):St:=⟨tsOf [(0,.dat 9 (.str x0)),(3,.dat 3 (.int x1)),(4,.dat 5 (.int x2)),(16,.dat 4 (.bool x3))],[],0⟩
def abQ (x0:ByteArray) (x1:Int):St:=⟨tsOf [(0,.dat 9 (.str x0)),(3,.dat 3 (.int x1))],[],0⟩
abbrev Wx (m M1:Nat) (rec1:Q12):Prop:=∀x0 x1,l56 jn m [1,0,1,0] [] M1 (abQ x0 x1)=rec1 x0 x1
theorem IV m M1 rec1 (h1:Wx m M1 rec1) x0 x1 x2 x3:e56 jn m nI [M1] (nJ x0 x1 x2 x3)=aK m rec1 x0 x1 x2 x3:=
 tq (g:=fun J=>(bif x3 then
  some false
   else
  ((jj J 1 2 M1 (abQ x0 (IntKind.wrap .i64 ((IntKind.wrap .i64 (x1+x2))+1))) (l56 J m [1,0,1,0] [] M1))))) (by simp only[aj,h1];rfl)
theorem oN m M1 rec1 (h1:Wx m M1 rec1) x0 x1 x2 x3:e56 jn m QU [M1] (Ww x0 x1 x2 x3)=jY m rec1 x0 x1 x2 x3:=
 tq (g:=fun J=>((pR m x0 (IntKind.wrap .i64 (x1+1)) x3).bind fun r1=>
  (bif (Bool.not r1) then
  some false
  else
  ((bif (x2==224) then((idxS x0 (IntKind.wrap .i64 (x1+1))).bind fun v2=>(bif (decide (v2<160)) then(jj J 0 16 0 (nJ x0 x1 x3 true) (e56 J m nI [M1])) else(bif (x2==237) then((idxS x0 (IntKind.wrap .i64 (x1+1))).bind fun v3=>(bif (decide (159<v3)) then(jj J 0 16 0 (nJ x0 x1 x3 true) (e56 J m nI [M1])) else(bif (x2==240) then((idxS x0 (IntKind.wrap .i64 (x1+1))).bind fun v4=>(bif (decide (v4<144)) then(jj J 0 16 0 (nJ x0 x1 x3 true) (e56 J m nI [M1])) else(bif (x2==244) then((idxS x0 (IntKind.wrap .i64 (x1+1))).bind fun v5=>(jj J 0 16 0 (nJ x0 x1 x3 (decide (143<v5))) (e56 J m nI [M1]))) else(jj J 0 16 0 (nJ x0 x1 x3 false) (e56 J m nI [M1]))))) else(bif (x2==244) then((idxS x0 (IntKind.wrap .i64 (x1+1))).bind fun v6=>(jj J 0 16 0 (nJ x0 x1 x3 (decide (143<v6))) (e56 J m nI [M1]))) else(jj J 0 16 0 (nJ x0 x1 x3 false) (e56 J m nI [M1])))))) else(bif (x2==240) then((idxS x0 (IntKind.wrap .i64 (x1+1))).bind fun v7=>(bif (decide (v7<144)) then(jj J 0 16 0 (nJ x0 x1 x3 true) (e56 J m nI [M1])) else(bif (x2==244) then((idxS x0 (IntKind.wrap .i64 (x1+1))).bind fun v8=>(jj J 0 16 0 (nJ x0 x1 x3 (decide (143<v8))) (e56 J m nI [M1]))) else(jj J 0 16 0 (nJ x0 x1 x3 false) (e56 J m nI [M1]))))) else(bif (x2==244) then((idxS x0 (IntKind.wrap .i64 (x1+1))).bind fun v9=>(jj J 0 16 0 (nJ x0 x1 x3 (decide (143<v9))) (e56 J m nI [M1]))) else(jj J 0 16 0 (nJ x0 x1 x3 false) (e56 J m nI [M1]))))))) else(bif (x2==237) then((idxS x0 (IntKind.wrap .i64 (x1+1))).bind fun v10=>(bif (decide (159<v10)) then(jj J 0 16 0 (nJ x0 x1 x3 true) (e56 J m nI [M1])) else(bif (x2==240) then((idxS x0 (IntKind.wrap .i64 (x1+1))).bind fun v11=>(bif (decide (v11<144)) then(jj J 0 16 0 (nJ x0 x1 x3 true) (e56 J m nI [M1])) else(bif (x2==244) then((idxS x0 (IntKind.wrap .i64 (x1+1))).bind fun v12=>(jj J 0 16 0 (nJ x0 x1 x3 (decide (143<v12))) (e56 J m nI [M1]))) else(jj J 0 16 0 (nJ x0 x1 x3 false) (e56 J m nI [M1]))))) else(bif (x2==244) then((idxS x0 (IntKind.wrap .i64 (x1+1))).bind fun v13=>(jj J 0 16 0 (nJ x0 x1 x3 (decide (143<v13))) (e56 J m nI [M1]))) else(jj J 0 16 0 (nJ x0 x1 x3 false) (e56 J m nI [M1])))))) else(bif (x2==240) then((idxS x0 (IntKind.wrap .i64 (x1+1))).bind fun v14=>(bif (decide (v14<144)) then(jj J 0 16 0 (nJ x0 x1 x3 true) (e56 J m nI [M1])) else(bif (x2==244) then((idxS x0 (IntKind.wrap .i64 (x1+1))).bind fun v15=>(jj J 0 16 0 (nJ x0 x1 x3 (decide (143<v15))) (e56 J m nI [M1]))) else(jj J 0 16 0 (nJ x0 x1 x3 false) (e56 J m nI [M1]))))) else(bif (x2==244) then((idxS x0 (IntKind.wrap .i64 (x1+1))).bind fun v16=>(jj J 0 16 0 (nJ x0 x1 x3 (decide (143<v16))) (e56 J m nI [M1]))) else(jj J 0 16 0 (nJ x0 x1 x3 false) (e56 J m nI [M1])))))))))) (by simp only[aj,IV m M1 rec1 h1];rfl)
theorem IW m M1 rec1 (h1:Wx m M1 rec1) x0 x1 x2 x3:e56 jn m ahv [M1] (ahw x0 x1 x2 x3)=sH m rec1 x0 x1 x2 x3:=
 tq (g:=fun J=>(bif x3 then
  (jj J 0 13 0 (Ww x0 x1 x2 3) (e56 J m QU [M1]))
   else
  some false)) (by simp only[aj,oN m M1 rec1 h1];rfl)
theorem IX m M1 rec1 (h1:Wx m M1 rec1) x0 x1 x2 x3:e56 jn m abP [M1] (ahx x0 x1 x2 x3)=sI m rec1 x0 x1 x2 x3:=
 tq (g:=fun J=>(bif x3 then
  (jj J 0 13 0 (Ww x0 x1 x2 2) (e56 J m QU [M1]))
   else
  (bif (decide (240≤x2)) then
  (jj J 0 12 0 (ahw x0 x1 x2 (decide (x2≤244))) (e56 J m ahv [M1]))
  else
  (jj J 0 12 0 (ahw x0 x1 x2 false) (e56 J m ahv [M1]))))) (by simp only[aj,oN m M1 rec1 h1,IW m M1 rec1 h1];rfl)
theorem IY m M1 rec1 (h1:Wx m M1 rec1) x0 x1 x2 x3:e56 jn m abO [M1] (ahy x0 x1 x2 x3)=sJ m rec1 x0 x1 x2 x3:=
 tq (g:=fun J=>(bif x3 then
  (jj J 0 13 0 (Ww x0 x1 x2 1) (e56 J m QU [M1]))
   else
  (bif (decide (224≤x2)) then
  (jj J 0 10 0 (ahx x0 x1 x2 (decide (x2≤239))) (e56 J m abP [M1]))
  else
  (jj J 0 10 0 (ahx x0 x1 x2 false) (e56 J m abP [M1]))))) (by simp only[aj,oN m M1 rec1 h1,IX m M1 rec1 h1];rfl)
theorem rT m:∀M1 x0 x1,l56 jn m [1,0,1,0] [] M1 (abQ x0 x1)=iC m M1 x0 x1
 |0,_,_=>rfl
 | M1+1,x0,x1=>
   tl (g:=fun J=>(bif (decide (x1<(ByteArray.size x0:Int))) then
  (((idxS x0 x1).bind fun v0=>(bif (decide (v0<128)) then(jj J 0 13 0 (Ww x0 x1 v0 0) (e56 J m QU [M1])) else(bif (decide (194≤v0)) then(jj J 0 8 0 (ahy x0 x1 v0 (decide (v0≤223))) (e56 J m abO [M1])) else(jj J 0 8 0 (ahy x0 x1 v0 false) (e56 J m abO [M1]))))))
   else
  (some true))) (by simp only[aj,oN m M1 (iC m M1) (rT m M1),IY m M1 (iC m M1) (rT m M1)];rfl)
theorem PS m a0:e56 jn m [] [] ⟨[.dat 9 (.str a0)],[],0⟩=pU (m+1) a0:=
 tq (g:=fun J=>((jj J 1 2 (Nat.succ m) (abQ a0 0) (l56 J m [1,0,1,0] [] (Nat.succ m))))) (by simp only[aj,rT m];rfl)
def abR:List Nat:=[1,1,0,1,0]
def aqf:List Nat:=[1,1,0,1,0,0,1]
def ahz:List Nat:=aqf++[0,0,1]
def e96 (J:Q1) (m:Nat):=evAt Tryz.prog env (ct m) J (m+1) 135 28 Tryz.f135 d5
def l96 (J:Q1) (m:Nat):=loopAt Tryz.prog env (ct m) J (m+1) 135 28 Tryz.f135 d5
def abS (x0:ByteArray) (x1:Int):St:=⟨tsOf [(0,.dat 9 (.str x0)),(3,.dat 3 (.int x1))],[],0⟩
def ahA (x0:ByteArray) (x1:Int) (x2:Bool):St:=⟨tsOf [(0,.dat 9 (.str x0)),(3,.dat 3 (.int x1)),(27,.dat 4 (.bool x2))],[],0⟩
def ahB (x0:ByteArray) (x1:Bool):St:=⟨tsOf [(0,.dat 9 (.str x0)),(11,.dat 4 (.bool x1))],[],0⟩
abbrev aqg (m M3:Nat) (rec3:Q12):Prop:=∀x0 x1,l96 jn m abR [] M3 (abS x0 x1)=rec3 x0 x1
theorem IZ m M3 rec3 (h3:aqg m M3 rec3) x0 x1 x2:e96 jn m ahz [M3] (ahA x0 x1 x2)=iE m rec3 x0 x1 x2:=
 tq (g:=fun J=>(bif x2 then
  some false
   else
  ((jj J 1 4 M3 (abS x0 (IntKind.wrap .i64 (x1+1))) (l96 J m abR [] M3))))) (by simp only[aj,h3];rfl)
theorem yX m:∀M3 x0 x1,l96 jn m abR [] M3 (abS x0 x1)=iF m M3 x0 x1
 |0,_,_=>rfl
 | M3+1,x0,x1=>
   tl (g:=fun J=>(bif (decide (x1<(ByteArray.size x0:Int))) then
  (((idxS x0 x1).bind fun v0=>(bif (decide (v0<32)) then(jj J 0 7 0 (ahA x0 x1 true) (e96 J m ahz [M3])) else((idxS x0 x1).bind fun v1=>(jj J 0 7 0 (ahA x0 x1 (decide (126<v1))) (e96 J m ahz [M3]))))))
   else
  (some true))) (by simp only[aj,IZ m M3 (iF m M3) (yX m M3)];rfl)
theorem I4 m x0 x1:e96 jn m [1,0,1] [] (ahB x0 x1)=iG m x0 x1:=
 tq (g:=fun J=>(bif x1 then
  some false
   else
  (((jj J 1 4 (Nat.succ m) (abS x0 0) (l96 J m abR [] (Nat.succ m))))))) (by simp only[aj,yX m];rfl)
theorem PU m a0:e96 jn m [] [] ⟨[.dat 9 (.str a0)],[],0⟩=lV (m+1) a0:=
 tq (g:=fun J=>(bif (decide ((ByteArray.size a0:Int)<1)) then
  (jj J 0 2 0 (ahB a0 true) (e96 J m [1,0,1] []))
   else
  (jj J 0 2 0 (ahB a0 (decide (128<(ByteArray.size a0:Int)))) (e96 J m [1,0,1] [])))) (by simp only[aj,I4 m];rfl)
def aqh:List Nat:=[1,1,1,1,1,1]
def zS:List Nat:=[1,1,1,1,0,1]
def aqi:List Nat:=aqh++[0,1]
def ahC:List Nat:=aqi++[0]
def e38 (J:Q1) (m:Nat):=evAt Tryz.prog env (ct m) J (m+1) 56 138 Tryz.f56 d5
def l38 (J:Q1) (m:Nat):=loopAt Tryz.prog env (ct m) J (m+1) 56 138 Tryz.f56 d5
def Zz (x0:Bool) (x1:Int) (x2:Dt):St:=⟨tsOf [(1,.dat 4 (.bool x0)),(2,.ptr 0 [] 0),(7,.dat 3 (.int x1))],[.box 26 (.dat 26 x2)],0⟩
def zT (x0 x1:Bool) (x2:Dt):St:=⟨tsOf [(1,.dat 4 (.bool x0)),(2,.ptr 0 [] 0),(79,.dat 4 (.bool x1))],[.box 26 (.dat 26 x2)],0⟩
def abT (x0 x1 x2:Bool) (x3:Dt):St:=⟨tsOf [(1,.dat 4 (.bool x0)),(2,.ptr 0 [] 0),(5,.dat 4 (.bool x1)),(6,.dat 4 (.bool x2))],[.box 26 (.dat 26 x3)],0⟩
def abU (x0 x1:Bool) (x2:Dt):St:=⟨tsOf [(1,.dat 4 (.bool x0)),(2,.ptr 0 [] 0),(5,.dat 4 (.bool x1))],[.box 26 (.dat 26 x2)],0⟩
def QV (x0 x1:Bool) (x2:Dt):St:=⟨tsOf [(1,.dat 4 (.bool x0)),(2,.ptr 0 [] 0),(27,.dat 4 (.bool x1))],[.box 26 (.dat 26 x2)],0⟩
theorem vM m:∀M8 x0 x1 x2,l38 jn m ahC [] M8 (Zz x0 x1 x2)=mq m (aD m) (bg m) M8 x0 x1 x2
 |0,_,_,_=>rfl
 | M8+1,x0,x1,x2=>
   tl (g:=fun J=>(bif (decide (x1<(List.length (Dt.L x2 3):Int))) then
  (((idx (Dt.L x2 3) x1).bind fun v1=>((aD m v1 x0).bind fun r2=>(bif (Bool.not r2) then some false else((jj J 1 19 M8 (Zz x0 (IntKind.wrap .i64 (x1+1)) x2) (l38 J m ahC [] M8)))))))
   else
  (((bg m x2 x0).bind fun r3=>some r3)))) (by simp only[aj,(vM m M8)];rfl)
theorem Es m x0 x1 x2:e38 jn m zS [] (zT x0 x1 x2)=bE m (aD m) (bg m) x0 x1 x2:=
 tq (g:=fun J=>(bif x1 then
  some false
   else
  ((bif ((Dt.I x2 0)==9) then(bif ((Dt.I x2 1)==0) then some true else some ((Dt.I x2 1)==1)) else(bif ((Dt.I x2 0)==10) then some (decide (0≤(Dt.I x2 1))) else(bif ((Dt.I x2 0)==4) then(bif (decide ((ByteArray.size (Dt.S x2 2):Int)≤4096)) then((pU m (Dt.S x2 2)).bind fun r0=>some r0) else some false) else(bif ((Dt.I x2 0)==7) then some (decide ((ByteArray.size (Dt.S x2 2):Int)≤4096)) else(bif ((Dt.I x2 0)==8) then some ((ByteArray.size (Dt.S x2 2):Int)==12) else(((jj J 1 19 (Nat.succ m) (Zz x0 0 x2) (l38 J m ahC [] (Nat.succ m))))))))))))) (by simp only[aj,vM m];rfl)
theorem Et m x0 x1 x2 x3:e38 jn m [1,1,1,1] [] (abT x0 x1 x2 x3)=gQ m (aD m) (bg m) x0 x1 x2 x3:=
 tq (g:=fun J=>(bif (Bool.not x1) then
  (bif (Bool.not ((ByteArray.toList (Dt.S x3 2))==[])) then
  (jj J 0 6 0 (zT x0 true x3) (e38 J m zS []))
  else
  (bif (Bool.not x2) then
  (bif ((Dt.I x3 1) !=0) then
  (jj J 0 6 0 (zT x0 true x3) (e38 J m zS []))
  else
  (bif (decide ((Dt.I x3 0)<1)) then
  (jj J 0 6 0 (zT x0 true x3) (e38 J m zS []))
  else
  (jj J 0 6 0 (zT x0 (decide (11<(Dt.I x3 0))) x3) (e38 J m zS []))))
  else
  (bif (decide ((Dt.I x3 0)<1)) then
  (jj J 0 6 0 (zT x0 true x3) (e38 J m zS []))
  else
  (jj J 0 6 0 (zT x0 (decide (11<(Dt.I x3 0))) x3) (e38 J m zS [])))))
   else
  (bif (Bool.not x2) then
  (bif ((Dt.I x3 1) !=0) then
  (jj J 0 6 0 (zT x0 true x3) (e38 J m zS []))
  else
  (bif (decide ((Dt.I x3 0)<1)) then
  (jj J 0 6 0 (zT x0 true x3) (e38 J m zS []))
  else
  (jj J 0 6 0 (zT x0 (decide (11<(Dt.I x3 0))) x3) (e38 J m zS []))))
  else
  (bif (decide ((Dt.I x3 0)<1)) then
  (jj J 0 6 0 (zT x0 true x3) (e38 J m zS []))
  else
  (jj J 0 6 0 (zT x0 (decide (11<(Dt.I x3 0))) x3) (e38 J m zS [])))))) (by simp only[aj,Es m];rfl)
theorem Eu m x0 x1 x2:e38 jn m [1,1,1] [] (abU x0 x1 x2)=gT m (aD m) (bg m) x0 x1 x2:=
 tq (g:=fun J=>(bif ((Dt.I x2 0)==3) then
  (jj J 0 5 0 (abT x0 x1 true x2) (e38 J m [1,1,1,1] []))
   else
  (bif ((Dt.I x2 0)==9) then
  (jj J 0 5 0 (abT x0 x1 true x2) (e38 J m [1,1,1,1] []))
  else
  (jj J 0 5 0 (abT x0 x1 ((Dt.I x2 0)==10) x2) (e38 J m [1,1,1,1] []))))) (by simp only[aj,Et m];rfl)
theorem Ew m x0 x1 x2:e38 jn m [1,0,1] [] (QV x0 x1 x2)=gU m (aD m) (bg m) x0 x1 x2:=
 tq (g:=fun J=>(bif x1 then
  some false
   else
  ((bif ((Dt.I x2 0)==4) then(jj J 0 4 0 (abU x0 true x2) (e38 J m [1,1,1] [])) else(bif ((Dt.I x2 0)==7) then(jj J 0 4 0 (abU x0 true x2) (e38 J m [1,1,1] [])) else(jj J 0 4 0 (abU x0 ((Dt.I x2 0)==8) x2) (e38 J m [1,1,1] []))))))) (by simp only[aj,Eu m];rfl)
theorem Kq m a0 a1:e38 jn m [] [] ⟨[.dat 26 a0,.dat 4 (.bool a1)],[],0⟩=aD (m+1) a0 a1:=
 tq (g:=fun J=>(bif ((Dt.I a0 0) !=6) then
  (bif (decide (0<(List.length (Dt.L a0 3):Int))) then
  (jj J 0 2 0 (QV a1 true a0) (e38 J m [1,0,1] []))
  else
  (bif ((Dt.I a0 0) !=5) then
  (jj J 0 2 0 (QV a1 (decide (0<(List.length (Dt.L a0 4):Int))) a0) (e38 J m [1,0,1] []))
  else
  (jj J 0 2 0 (QV a1 false a0) (e38 J m [1,0,1] []))))
   else
  (bif ((Dt.I a0 0) !=5) then
  (jj J 0 2 0 (QV a1 (decide (0<(List.length (Dt.L a0 4):Int))) a0) (e38 J m [1,0,1] []))
  else
  (jj J 0 2 0 (QV a1 false a0) (e38 J m [1,0,1] []))))) (by simp only[aj,Ew m];rfl)
def ak9:List Nat:=[1,0,1,0,0,1]
def aqj:List Nat:=ak9++[0,0,1,1]
def aqk:List Nat:=aqj++[1]
def JC:List Nat:=ak9++[0,0,1,0,1]
def ahD:List Nat:=aqk++[0]
def e57 (J:Q1) (m:Nat):=evAt Tryz.prog env (ct m) J (m+1) 95 58 Tryz.f95 d5
def l57 (J:Q1) (m:Nat):=loopAt Tryz.prog env (ct m) J (m+1) 95 58 Tryz.f95 d5
def ahE (x0:Bool) (x1 x2:Int) (x3 x4:Dt):St:=⟨tsOf [(1,.dat 4 (.bool x0)),(2,.ptr 0 [] 0),(5,.dat 3 (.int x1)),(6,.ptr 1 [] 0),(7,.dat 3 (.int x2))],[.box 26 (.dat 26 x3),.box 48 (.dat 48 x4)],0⟩
def abV (x0:Bool) (x1:Int) (x2:Dt):St:=⟨tsOf [(1,.dat 4 (.bool x0)),(2,.ptr 0 [] 0),(5,.dat 3 (.int x1))],[.box 26 (.dat 26 x2)],0⟩
def JD (x0:Bool) (x1:Int) (x2:Bool) (x3 x4:Dt):St:=⟨tsOf [(1,.dat 4 (.bool x0)),(2,.ptr 0 [] 0),(5,.dat 3 (.int x1)),(6,.ptr 1 [] 0),(43,.dat 4 (.bool x2))],[.box 26 (.dat 26 x3),.box 48 (.dat 48 x4)],0⟩
abbrev ala (m M1:Nat) (rec1:Q17):Prop:=∀x0 x1 x2,l57 jn m [1,0,1,0] [] M1 (abV x0 x1 x2)=rec1 x0 x1 x2
theorem vN m M1 rec1 (h1:ala m M1 rec1):∀M6 x0 x1 x2 x3 x4,l57 jn m ahD [M1] M6 (ahE x0 x1 x2 x3 x4)=jw m (aD m) rec1 M6 x0 x1 x2 x3 x4
 |0,_,_,_,_,_=>rfl
 | M6+1,x0,x1,x2,x3,x4=>
   tl (g:=fun J=>(bif (decide (x2<x1)) then
  (((idx (Dt.L x3 4) x2).bind fun v2=>(bif ((ByteArray.toList (Dt.S v2 0))==(ByteArray.toList (Dt.S x4 0))) then some false else((jj J 1 8 M6 (ahE x0 x1 (IntKind.wrap .i64 (x2+1)) x3 x4) (l57 J m ahD [M1] M6))))))
   else
  ((jj J 1 2 M1 (abV x0 (IntKind.wrap .i64 (x1+1)) x3) (l57 J m [1,0,1,0] [] M1))))) (by simp only[aj,(vN m M1 rec1 h1 M6),h1];rfl)
theorem Ey m M1 rec1 (h1:ala m M1 rec1) x0 x1 x2 x3 x4:e57 jn m JC [M1] (JD x0 x1 x2 x3 x4)=bL m (aD m) rec1 x0 x1 x2 x3 x4:=
 tq (g:=fun J=>(bif x2 then
  some false
   else
  (((jj J 1 8 (Nat.succ m) (ahE x0 x1 0 x3 x4) (l57 J m ahD [M1] (Nat.succ m))))))) (by simp only[aj,vN m M1 rec1 h1];rfl)
theorem vO m:∀M1 x0 x1 x2,l57 jn m [1,0,1,0] [] M1 (abV x0 x1 x2)=bA m (aD m) M1 x0 x1 x2
 |0,_,_,_=>rfl
 | M1+1,x0,x1,x2=>
   tl (g:=fun J=>(bif (decide (x1<(List.length (Dt.L x2 4):Int))) then
  (((idx (Dt.L x2 4) x1).bind fun v0=>(bif x0 then((fK m (Dt.S v0 0)).bind fun r1=>(bif (Bool.not r1) then(jj J 0 6 0 (JD x0 x1 true x2 v0) (e57 J m JC [M1])) else(bif (Bool.not x0) then((lV m (Dt.S v0 0)).bind fun r3=>(bif (Bool.not r3) then(jj J 0 6 0 (JD x0 x1 true x2 v0) (e57 J m JC [M1])) else((aD m (Dt.fld v0 1) x0).bind fun r4=>(jj J 0 6 0 (JD x0 x1 (Bool.not r4) x2 v0) (e57 J m JC [M1]))))) else((aD m (Dt.fld v0 1) x0).bind fun r5=>(jj J 0 6 0 (JD x0 x1 (Bool.not r5) x2 v0) (e57 J m JC [M1])))))) else(bif (Bool.not x0) then((lV m (Dt.S v0 0)).bind fun r6=>(bif (Bool.not r6) then(jj J 0 6 0 (JD x0 x1 true x2 v0) (e57 J m JC [M1])) else((aD m (Dt.fld v0 1) x0).bind fun r7=>(jj J 0 6 0 (JD x0 x1 (Bool.not r7) x2 v0) (e57 J m JC [M1]))))) else((aD m (Dt.fld v0 1) x0).bind fun r8=>(jj J 0 6 0 (JD x0 x1 (Bool.not r8) x2 v0) (e57 J m JC [M1])))))))
   else
  (some true))) (by simp only[aj,Ey m M1 (bA m (aD m) M1) (vO m M1)];rfl)
theorem Kr m a0 a1:e57 jn m [] [] ⟨[.dat 26 a0,.dat 4 (.bool a1)],[],0⟩=bg (m+1) a0 a1:=
 tq (g:=fun J=>((jj J 1 2 (Nat.succ m) (abV a1 0 a0) (l57 J m [1,0,1,0] [] (Nat.succ m))))) (by simp only[aj,vO m];rfl)
def e24 (J:Q1) (m:Nat):=evAt Tryz.prog env (ct m) J (m+1) 18 15 Tryz.f18 d5
theorem Ny m a0:e24 jn m [] [] ⟨[.dat 26 a0],[],0⟩=eF (m+1) a0:=
 tq (g:=fun J=>((lJ m a0).bind fun r0=>
  (bif (decide (r0≤16)) then
  ((lK m a0).bind fun r1=>
  (bif (decide (r1≤1024)) then
  ((aD m a0 true).bind fun r2=>
  some r2)
  else
  some false))
  else
  some false))) (by rfl)
def e9 (J:Q1) (m:Nat):=evAt Tryz.prog env (ct m) J (m+1) 17 6 Tryz.f17 d5
theorem yg m a0:e9 jn m [] [] ⟨[.dat 26 a0],[],0⟩=cu (m+1) a0:=
 tq (g:=fun J=>((eF m a0).bind fun r0=>
  some (Bool.not r0))) (by rfl)
def e8 (J:Q2) (m:Nat):=evAt Tryz.prog env (ct m) J (m+1) 53 19 Tryz.f53 d31
def l8 (J:Q2) (m:Nat):=loopAt Tryz.prog env (ct m) J (m+1) 53 19 Tryz.f53 d31
def amL (x0:List Dt) (x1 x2:Int):St:=⟨tsOf [(0,.dat 23 (.lst x0)),(1,.fn 17 []),(7,.dat 3 (.int x1)),(8,.dat 3 (.int x2))],[],0⟩
theorem Wy m:∀M1 x0 x1 x2,l8 jn m [1,0,1,0] [] M1 (amL x0 x1 x2)=UZ m M1 x0 x1 x2
 |0,_,_,_=>rfl
 | M1+1,x0,x1,x2=>
   tl (g:=fun J=>(bif (decide (x2<x1)) then
  (((idx x0 x2).bind fun v0=>((cu m v0).bind fun r1=>(bif r1 then some x2 else((jj J 1 2 M1 (amL x0 x1 (IntKind.wrap .i64 (x2+1))) (l8 J m [1,0,1,0] [] M1)))))))
   else
  (some (-1)))) (by simp only[aj,(Wy m M1)];rfl)
theorem aql m a0:e8 jn m [] [] ⟨[.dat 23 (.lst a0),.fn 17 []],[],0⟩=i8 (m+1) a0:=
 tq (g:=fun J=>((jj J 1 2 (Nat.succ m) (amL a0 (List.length a0:Int) 0) (l8 J m [1,0,1,0] [] (Nat.succ m))))) (by simp only[aj,Wy m];rfl)
def e7 (J:Q1) (m:Nat):=evAt Tryz.prog env (ct m) J (m+1) 16 9 Tryz.f16 d5
theorem aqm m a0:e7 jn m [] [] ⟨[.dat 23 (.lst a0),.fn 17 []],[],0⟩=i7 (m+1) a0:=
 tq (g:=fun J=>((i8 m a0).bind fun r0=>
  some (decide (0≤r0)))) (by rfl)
def e12 (J:Q1) (m:Nat):=evAt Tryz.prog env (ct m) J (m+1) 33 11 Tryz.f33 d5
theorem I5 m a0:e12 jn m [] [] ⟨[.dat 26 a0],[],0⟩=jZ (m+1) a0:=
 tq (g:=fun J=>(bif ((Dt.I a0 0) !=5) then
  some true
   else
  ((eF m a0).bind fun r0=>
  some (Bool.not r0)))) (by rfl)
def e11 (J:Q2) (m:Nat):=evAt Tryz.prog env (ct m) J (m+1) 53 19 Tryz.f53 d31
def l11 (J:Q2) (m:Nat):=loopAt Tryz.prog env (ct m) J (m+1) 53 19 Tryz.f53 d31
def ahF (x0:List Dt) (x1 x2:Int):St:=⟨tsOf [(0,.dat 23 (.lst x0)),(1,.fn 33 []),(7,.dat 3 (.int x1)),(8,.dat 3 (.int x2))],[],0⟩
theorem QW m:∀M1 x0 x1 x2,l11 jn m [1,0,1,0] [] M1 (ahF x0 x1 x2)=K3 m M1 x0 x1 x2
 |0,_,_,_=>rfl
 | M1+1,x0,x1,x2=>
   tl (g:=fun J=>(bif (decide (x2<x1)) then
  (((idx x0 x2).bind fun v0=>((jZ m v0).bind fun r1=>(bif r1 then some x2 else((jj J 1 2 M1 (ahF x0 x1 (IntKind.wrap .i64 (x2+1))) (l11 J m [1,0,1,0] [] M1)))))))
   else
  (some (-1)))) (by simp only[aj,(QW m M1)];rfl)
theorem amM m a0:e11 jn m [] [] ⟨[.dat 23 (.lst a0),.fn 33 []],[],0⟩=i11 (m+1) a0:=
 tq (g:=fun J=>((jj J 1 2 (Nat.succ m) (ahF a0 (List.length a0:Int) 0) (l11 J m [1,0,1,0] [] (Nat.succ m))))) (by simp only[aj,QW m];rfl)
def e10 (J:Q1) (m:Nat):=evAt Tryz.prog env (ct m) J (m+1) 16 9 Tryz.f16 d5
theorem amN m a0:e10 jn m [] [] ⟨[.dat 23 (.lst a0),.fn 33 []],[],0⟩=i10 (m+1) a0:=
 tq (g:=fun J=>((i11 m a0).bind fun r0=>
  some (decide (0≤r0)))) (by rfl)
def e1 (J:Q1) (m:Nat):=evAt Tryz.prog env (ct m) J (m+1) 8 11 Tryz.f8 d5
theorem Nz m a0:e1 jn m [] [] ⟨[.dat 23 (.lst a0)],[],0⟩=lM (m+1) a0:=
 tq (g:=fun J=>(bif (decide ((List.length a0:Int)≤30)) then
  ((i10 m a0).bind fun r0=>
  some (Bool.not r0))
   else
  some false)) (by rfl)
end Go.Proofs.YtmecfjhdnbgfeaaGreatDoor
