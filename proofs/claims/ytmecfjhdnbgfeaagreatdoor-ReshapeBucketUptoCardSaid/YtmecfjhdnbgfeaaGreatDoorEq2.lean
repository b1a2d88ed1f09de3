/- Generated: each function's run in the abstract machine is its shallow function. -/
import Derived.Test.YtmecfjhdnbgfeaaGreatDoorCt
import Derived.Test.YtmecfjhdnbgfeaaGreatDoorAmEnv
import Derived.KernelRfl
set_option linter.unusedVariables false
set_option linter.unusedSimpArgs false
noncomputable section
namespace Go.Proofs.YtmecfjhdnbgfeaaGreatDoor
open Go.Am
set_option maxRecDepth 100000
def Yx:List Nat:=[1,1,0,1,0]
def e117 (J:Q2) (m:Nat):=evAt Tryz.prog env (ct m) J (m+1) 157 25 Tryz.f157 d31
def alU (J:Q2) (m:Nat):=loopAt Tryz.prog env (ct m) J (m+1) 157 25 Tryz.f157 d31
def Yy (x0:ByteArray) (x1 x2:Int) (x3:Dt):St:=⟨tsOf [(1,.dat 9 (.str x0)),(2,.ptr 0 [] 0),(11,.dat 3 (.int x1)),(12,.dat 3 (.int x2))],[.box 26 (.dat 26 x3)],0⟩
theorem yF m:∀M2 x0 x1 x2 x3,alU jn m Yx [] M2 (Yy x0 x1 x2 x3)=oW m M2 x0 x1 x2 x3
 |0,_,_,_,_=>rfl
 | M2+1,x0,x1,x2,x3=>
   tl (g:=fun J=>(bif (decide (x2<x1)) then
  (((idx (Dt.L x3 4) x2).bind fun v0=>(bif ((ByteArray.toList (Dt.S v0 0))==(ByteArray.toList x0)) then some x2 else((jj J 1 4 M2 (Yy x0 x1 (IntKind.wrap .i64 (x2+1)) x3) (alU J m Yx [] M2))))))
   else
  (some (-1)))) (by simp only[aj,(yF m M2)];rfl)
theorem OC m a0 a1:e117 jn m [] [] ⟨[.dat 26 a0,.dat 9 (.str a1)],[],0⟩=pW (m+1) a0 a1:=
 tq (g:=fun J=>(bif ((Dt.I a0 0) !=5) then
  some (-1)
   else
  (((jj J 1 4 (Nat.succ m) (Yy a1 (List.length (Dt.L a0 4):Int) 0 a0) (alU J m Yx [] (Nat.succ m))))))) (by simp only[aj,yF m];rfl)
def aqT (J:Q0) (m:Nat):=evAt Tryz.prog env (ct m) J (m+1) 119 38 Tryz.f119 d16
theorem Sw m a0 a1 a2:aqT jn m [] [] ⟨[.dat 26 a0,.dat 9 (.str a1),.dat 26 a2],[],0⟩=rP (m+1) a0 a1 a2:=
 tq (g:=fun J=>((bf m a0).bind fun r0=>
  (bif (r0.1 !=5) then
  some (Dt.agg [(Dt.int r0.1),(Dt.int r0.2.1),(Dt.str r0.2.2.1),(Dt.lst r0.2.2.2.1),(Dt.lst r0.2.2.2.2)])
  else
  (((pW m (Dt.agg [(Dt.int r0.1),(Dt.int r0.2.1),(Dt.str r0.2.2.1),(Dt.lst r0.2.2.2.1),(Dt.lst r0.2.2.2.2)]) a1).bind fun r1=>(bif (decide (0≤r1)) then((bf m a2).bind fun r2=>((inL r0.2.2.2.2 r1).bind fun v3=>((r0.2.2.2.2[(Int.toNat r1)]?).bind fun v4=>some (Dt.agg [(Dt.int r0.1),(Dt.int r0.2.1),(Dt.str r0.2.2.1),(Dt.lst r0.2.2.2.1),(Dt.lst (List.set r0.2.2.2.2 (Int.toNat r1) (Dt.agg [(Dt.str (Dt.S v4 0)),(Dt.agg [(Dt.int r2.1),(Dt.int r2.2.1),(Dt.str r2.2.2.1),(Dt.lst r2.2.2.2.1),(Dt.lst r2.2.2.2.2)])])))])))) else(((bf m a2).bind fun r5=>((app r0.2.2.2.2 [(Dt.agg [(Dt.str a1),(Dt.agg [(Dt.int r5.1),(Dt.int r5.2.1),(Dt.str r5.2.2.1),(Dt.lst r5.2.2.2.1),(Dt.lst r5.2.2.2.2)])])]).bind fun v6=>some (Dt.agg [(Dt.int r0.1),(Dt.int r0.2.1),(Dt.str r0.2.2.1),(Dt.lst r0.2.2.2.1),(Dt.lst v6)])))))))))) (by rfl)
def LB:List Nat:=[1,1,1,0,1,0]
def afl:List Nat:=LB++[0,1,1]
def aoU:List Nat:=afl++[0,0,1,1]
def aoV:List Nat:=aoU++[1]
def aoW:List Nat:=aoV++[0,1]
def afm:List Nat:=afl++[0,0,1,0,1,0,1]
def afn:List Nat:=aoW++[0]
def e72 (J:Q0) (m:Nat):=evAt Tryz.prog env (ct m) J (m+1) 167 47 Tryz.f167 d16
def l72 (J:Q0) (m:Nat):=loopAt Tryz.prog env (ct m) J (m+1) 167 47 Tryz.f167 d16
def Qp (x0:Bool) (x1:List Dt) (x2 x3:Int) (x4 x5:Dt):St:=⟨tsOf [(2,.ptr 0 [] 0),(3,.ptr 1 [] 0),(4,.dat 4 (.bool x0)),(10,.dat 23 (.lst x1)),(11,.dat 3 (.int x2)),(12,.dat 3 (.int x3))],[.box 26 (.dat 26 x4),.box 26 (.dat 26 x5)],0⟩
def Yz (x0:Bool) (x1:List Dt) (x2 x3:Int) (x4:List Dt) (x5 x6:Int) (x7 x8:Dt):St:=⟨tsOf [(2,.ptr 0 [] 0),(3,.ptr 1 [] 0),(4,.dat 4 (.bool x0)),(10,.dat 23 (.lst x1)),(11,.dat 3 (.int x2)),(12,.dat 3 (.int x3)),(27,.dat 24 (.lst x4)),(28,.dat 3 (.int x5)),(29,.dat 3 (.int x6))],[.box 26 (.dat 26 x7),.box 26 (.dat 26 x8)],0⟩
def afo (x0:Bool) (x1:List Dt) (x2 x3 x4:Int) (x5:Bool) (x6 x7 x8:Dt):St:=⟨tsOf [(2,.ptr 0 [] 0),(3,.ptr 1 [] 0),(4,.dat 4 (.bool x0)),(6,.ptr 2 [] 0),(10,.dat 23 (.lst x1)),(11,.dat 3 (.int x2)),(12,.dat 3 (.int x3)),(17,.dat 3 (.int x4)),(19,.dat 4 (.bool x5))],[.box 26 (.dat 26 x6),.box 26 (.dat 26 x7),.box 26 (.dat 26 x8)],0⟩
abbrev akX (m M1:Nat) (rec1:Q22):Prop:=∀x0 x1 x2 x3 x4 x5,l72 jn m LB [] M1 (Qp x0 x1 x2 x3 x4 x5)=rec1 x0 x1 x2 x3 x4 x5
theorem yG m M1 rec1 (h1:akX m M1 rec1):∀M8 x0 x1 x2 x3 x4 x5 x6 x7 x8,l72 jn m afn [M1] M8 (Yz x0 x1 x2 x3 x4 x5 x6 x7 x8)=o7 m rec1 M8 x0 x1 x2 x3 x4 x5 x6 x7 x8
 |0,_,_,_,_,_,_,_,_,_=>rfl
 | M8+1,x0,x1,x2,x3,x4,x5,x6,x7,x8=>
   tl (g:=fun J=>(bif (decide (x6<x5)) then
  (((idx x4 x6).bind fun v1=>((rP m x8 (Dt.S v1 0) (Dt.fld v1 1)).bind fun r2=>((jj J 1 14 M8 (Yz x0 x1 x2 x3 x4 x5 (IntKind.wrap .i64 (x6+1)) x7 r2) (l72 J m afn [M1] M8))))))
   else
  ((bif (decide (1024<(List.length (Dt.L x8 4):Int))) then((aT m).bind fun r3=>some r3) else((jj J 1 4 M1 (Qp x0 x1 x2 (IntKind.wrap .i64 (x3+1)) x7 x8) (l72 J m LB [] M1))))))) (by simp only[aj,(yG m M1 rec1 h1 M8),h1];rfl)
theorem GK m M1 rec1 (h1:akX m M1 rec1) x0 x1 x2 x3 x4 x5 x6 x7 x8:e72 jn m afm [M1] (afo x0 x1 x2 x3 x4 x5 x6 x7 x8)=sN m rec1 x0 x1 x2 x3 x4 x5 x6 x7 x8:=
 tq (g:=fun J=>(bif x5 then
  ((jj J 1 4 M1 (Qp x0 x1 x2 (IntKind.wrap .i64 (x3+1)) x6 x7) (l72 J m LB [] M1)))
   else
  (bif (x4==5) then
  ((bif x0 then((jj J 1 4 M1 (Qp false x1 x2 (IntKind.wrap .i64 (x3+1)) x6 x8) (l72 J m LB [] M1))) else(((jj J 1 14 (Nat.succ m) (Yz x0 x1 x2 x3 (Dt.L x8 4) (List.length (Dt.L x8 4):Int) 0 x6 x7) (l72 J m afn [M1] (Nat.succ m)))))))
  else
  ((aT m).bind fun r4=>
  some r4)))) (by simp only[aj,h1,yG m M1 rec1 h1];rfl)
theorem yH m:∀M1 x0 x1 x2 x3 x4 x5,l72 jn m LB [] M1 (Qp x0 x1 x2 x3 x4 x5)=eP m M1 x0 x1 x2 x3 x4 x5
 |0,_,_,_,_,_,_=>rfl
 | M1+1,x0,x1,x2,x3,x4,x5=>
   tl (g:=fun J=>(bif (decide (x3<x2)) then
  (((idx x1 x3).bind fun v0=>(bif ((Dt.I v0 0)==0) then(jj J 0 10 0 (afo x0 x1 x2 x3 (Dt.I v0 0) ((Dt.I v0 0)==0) x4 x5 v0) (e72 J m afm [M1])) else(jj J 0 10 0 (afo x0 x1 x2 x3 (Dt.I v0 0) ((Dt.I v0 0)==2) x4 x5 v0) (e72 J m afm [M1])))))
   else
  (some x5))) (by simp only[aj,GK m M1 (eP m M1) (yH m M1)];rfl)
theorem OD m a0:e72 jn m [] [] ⟨[.dat 23 (.lst a0)],[],0⟩=nZ (m+1) a0:=
 tq (g:=fun J=>((jj J 1 4 (Nat.succ m) (Qp true a0 (List.length a0:Int) 0 kza2373 KA) (l72 J m LB [] (Nat.succ m))))) (by simp only[aj,yH m];rfl)
def Sy:List Nat:=[1,1,0,1,0]
def alV:List Nat:=[1,1,0,1,0,0,1,1]
def Sz:List Nat:=alV++[0,0,1,1]
def SB (J:Q1) (m:Nat):=evAt Tryz.prog env (ct m) J (m+1) 238 39 Tryz.f238 d5
def ajx (J:Q1) (m:Nat):=loopAt Tryz.prog env (ct m) J (m+1) 238 39 Tryz.f238 d5
def SC (x0:ByteArray) (x1 x2:Int):St:=⟨tsOf [(0,.dat 9 (.str x0)),(18,.dat 3 (.int x1)),(19,.dat 3 (.int x2))],[],0⟩
def SE (x0:ByteArray) (x1 x2:Int) (x3:Bool):St:=⟨tsOf [(0,.dat 9 (.str x0)),(18,.dat 3 (.int x1)),(19,.dat 3 (.int x2)),(37,.dat 4 (.bool x3))],[],0⟩
def SF (x0:ByteArray) (x1:Bool):St:=⟨tsOf [(0,.dat 9 (.str x0)),(16,.dat 4 (.bool x1))],[],0⟩
abbrev alW (m M3:Nat) (rec3:Q29):Prop:=∀x0 x1 x2,ajx jn m Sy [] M3 (SC x0 x1 x2)=rec3 x0 x1 x2
theorem DF m M3 rec3 (h3:alW m M3 rec3) x0 x1 x2 x3:SB jn m Sz [M3] (SE x0 x1 x2 x3)=dU m rec3 x0 x1 x2 x3:=
 tq (g:=fun J=>(bif x3 then
  some false
   else
  ((jj J 1 4 M3 (SC x0 x1 (IntKind.wrap .i64 (x2+1))) (ajx J m Sy [] M3))))) (by simp only[aj,h3];rfl)
theorem u7 m:∀M3 x0 x1 x2,ajx jn m Sy [] M3 (SC x0 x1 x2)=dV m M3 x0 x1 x2
 |0,_,_,_=>rfl
 | M3+1,x0,x1,x2=>
   tl (g:=fun J=>(bif (decide (x2<x1)) then
  (((idxS x0 x2).bind fun v0=>(bif (decide (v0<33)) then(jj J 0 7 0 (SE x0 x1 x2 true) (SB J m Sz [M3])) else((idxS x0 x2).bind fun v1=>(bif (decide (126<v1)) then(jj J 0 7 0 (SE x0 x1 x2 true) (SB J m Sz [M3])) else((idxS x0 x2).bind fun v2=>(jj J 0 7 0 (SE x0 x1 x2 (v2==46)) (SB J m Sz [M3]))))))))
   else
  (some true))) (by simp only[aj,DF m M3 (dV m M3) (u7 m M3)];rfl)
theorem DI m x0 x1:SB jn m [1,0,1] [] (SF x0 x1)=dW m x0 x1:=
 tq (g:=fun J=>(bif x1 then
  some false
   else
  (((jj J 1 4 (Nat.succ m) (SC x0 (ByteArray.size x0:Int) 0) (ajx J m Sy [] (Nat.succ m))))))) (by simp only[aj,u7 m];rfl)
theorem JQ m a0:SB jn m [] [] ⟨[.dat 9 (.str a0)],[],0⟩=lZ (m+1) a0:=
 tq (g:=fun J=>(bif (decide ((ByteArray.size a0:Int)<1)) then
  (jj J 0 2 0 (SF a0 true) (SB J m [1,0,1] []))
   else
  (bif (decide (32<(ByteArray.size a0:Int))) then
  (jj J 0 2 0 (SF a0 true) (SB J m [1,0,1] []))
  else
  ((idxS a0 0).bind fun v3=>
  (jj J 0 2 0 (SF a0 (v3==36)) (SB J m [1,0,1] [])))))) (by simp only[aj,DI m];rfl)
def Qq:List Nat:=[1,1,1,0,1]
def Qr:List Nat:=[1,1,1,1,0,1]
def Qs:List Nat:=[1,1,1,1,1,0,1,0,1]
def aoX:List Nat:=Qs++[1,1,1,1,1,1,1,1,1,1,1,1,0,0,1]
def afp:List Nat:=aoX++[0]
def e76 (J:Q1) (m:Nat):=evAt Tryz.prog env (ct m) J (m+1) 171 132 Tryz.f171 d5
def l76 (J:Q1) (m:Nat):=loopAt Tryz.prog env (ct m) J (m+1) 171 132 Tryz.f171 d5
def YA (x0:List Dt) (x1 x2:Int):St:=⟨tsOf [(117,.dat 23 (.lst x0)),(118,.dat 3 (.int x1)),(119,.dat 3 (.int x2))],[],0⟩
def VB (x0:Int) (x1:Bool) (x2:Dt):St:=⟨tsOf [(1,.ptr 0 [] 0),(70,.dat 3 (.int x0)),(71,.dat 4 (.bool x1))],[.box 26 (.dat 26 x2)],0⟩
def Qt (x0:Bool) (x1:Dt):St:=⟨tsOf [(1,.ptr 0 [] 0),(68,.dat 4 (.bool x0))],[.box 26 (.dat 26 x1)],0⟩
def Qu (x0:Bool) (x1:Dt):St:=⟨tsOf [(1,.ptr 0 [] 0),(48,.dat 4 (.bool x0))],[.box 26 (.dat 26 x1)],0⟩
def aaL (x0 x1:Bool) (x2:Dt):St:=⟨tsOf [(1,.ptr 0 [] 0),(3,.dat 4 (.bool x0)),(4,.dat 4 (.bool x1))],[.box 26 (.dat 26 x2)],0⟩
def aaM (x0:Bool) (x1:Dt):St:=⟨tsOf [(1,.ptr 0 [] 0),(3,.dat 4 (.bool x0))],[.box 26 (.dat 26 x1)],0⟩
theorem wH m:∀M8 x0 x1 x2,l76 jn m afp [] M8 (YA x0 x1 x2)=kZ m (aI m) (aH m) M8 x0 x1 x2
 |0,_,_,_=>rfl
 | M8+1,x0,x1,x2=>
   tl (g:=fun J=>(bif (decide (x2<x1)) then
  (((idx x0 x2).bind fun v1=>((aI m v1).bind fun r2=>(bif (Bool.not r2) then some false else((jj J 1 25 M8 (YA x0 x1 (IntKind.wrap .i64 (x2+1))) (l76 J m afp [] M8)))))))
   else
  (some true))) (by simp only[aj,(wH m M8)];rfl)
theorem ET m x0 x1 x2:e76 jn m Qs [] (VB x0 x1 x2)=dO m (aI m) (aH m) x0 x1 x2:=
 tq (g:=fun J=>(bif x1 then
  some true
   else
  (bif (x0==9) then
  (bif ((Dt.I x2 1)==0) then
  some true
  else
  some ((Dt.I x2 1)==1))
  else
  (bif (x0==10) then
  some (decide (0≤(Dt.I x2 1)))
  else
  (bif (x0==4) then
  (bif (decide ((ByteArray.size (Dt.S x2 2):Int)≤4096)) then
  ((utf8_ValidString (Dt.S x2 2)).bind fun r0=>
  some r0)
  else
  some false)
  else
  (bif (x0==7) then
  some (decide ((ByteArray.size (Dt.S x2 2):Int)≤4096))
  else
  (bif (x0==8) then
  some ((ByteArray.size (Dt.S x2 2):Int)==12)
  else
  (bif (x0==6) then
  ((jj J 1 25 (Nat.succ m) (YA (Dt.L x2 3) (List.length (Dt.L x2 3):Int) 0) (l76 J m afp [] (Nat.succ m))))
  else
  (bif (x0==5) then
  ((aH m (Dt.L x2 4)).bind fun r3=>
  some r3)
  else
  (some false)))))))))) (by simp only[aj,wH m];rfl)
theorem EU m x0 x1:e76 jn m Qr [] (Qt x0 x1)=eX m (aI m) (aH m) x0 x1:=
 tq (g:=fun J=>(bif x0 then
  some false
   else
  ((bif ((Dt.I x1 0)==1) then(jj J 0 12 0 (VB (Dt.I x1 0) ((Dt.I x1 0)==1) x1) (e76 J m Qs [])) else(bif ((Dt.I x1 0)==2) then(jj J 0 12 0 (VB (Dt.I x1 0) ((Dt.I x1 0)==2) x1) (e76 J m Qs [])) else(bif ((Dt.I x1 0)==11) then(jj J 0 12 0 (VB (Dt.I x1 0) ((Dt.I x1 0)==11) x1) (e76 J m Qs [])) else(jj J 0 12 0 (VB (Dt.I x1 0) ((Dt.I x1 0)==3) x1) (e76 J m Qs [])))))))) (by simp only[aj,ET m];rfl)
theorem EW m x0 x1:e76 jn m Qq [] (Qu x0 x1)=eY m (aI m) (aH m) x0 x1:=
 tq (g:=fun J=>(bif x0 then
  some false
   else
  ((bif ((Dt.I x1 0) !=6) then(bif (decide (0<(List.length (Dt.L x1 3):Int))) then(jj J 0 6 0 (Qt true x1) (e76 J m Qr [])) else(bif ((Dt.I x1 0) !=5) then(jj J 0 6 0 (Qt (decide (0<(List.length (Dt.L x1 4):Int))) x1) (e76 J m Qr [])) else(jj J 0 6 0 (Qt false x1) (e76 J m Qr [])))) else(bif ((Dt.I x1 0) !=5) then(jj J 0 6 0 (Qt (decide (0<(List.length (Dt.L x1 4):Int))) x1) (e76 J m Qr [])) else(jj J 0 6 0 (Qt false x1) (e76 J m Qr []))))))) (by simp only[aj,EU m];rfl)
theorem EX m x0 x1 x2:e76 jn m [1,1,1] [] (aaL x0 x1 x2)=eZ m (aI m) (aH m) x0 x1 x2:=
 tq (g:=fun J=>(bif (Bool.not x0) then
  (bif ((Dt.I x2 1) !=0) then
  (jj J 0 4 0 (Qu true x2) (e76 J m Qq []))
  else
  (bif (Bool.not x1) then
  (jj J 0 4 0 (Qu (Bool.not ((ByteArray.toList (Dt.S x2 2))==[])) x2) (e76 J m Qq []))
  else
  (jj J 0 4 0 (Qu false x2) (e76 J m Qq []))))
   else
  (bif (Bool.not x1) then
  (jj J 0 4 0 (Qu (Bool.not ((ByteArray.toList (Dt.S x2 2))==[])) x2) (e76 J m Qq []))
  else
  (jj J 0 4 0 (Qu false x2) (e76 J m Qq []))))) (by simp only[aj,EW m];rfl)
theorem EY m x0 x1:e76 jn m [1,1] [] (aaM x0 x1)=fq m (aI m) (aH m) x0 x1:=
 tq (g:=fun J=>(bif ((Dt.I x1 0)==4) then
  (jj J 0 3 0 (aaL x0 true x1) (e76 J m [1,1,1] []))
   else
  (bif ((Dt.I x1 0)==7) then
  (jj J 0 3 0 (aaL x0 true x1) (e76 J m [1,1,1] []))
  else
  (jj J 0 3 0 (aaL x0 ((Dt.I x1 0)==8) x1) (e76 J m [1,1,1] []))))) (by simp only[aj,EX m];rfl)
theorem LC m a0:e76 jn m [] [] ⟨[.dat 26 a0],[],0⟩=aI (m+1) a0:=
 tq (g:=fun J=>(bif ((Dt.I a0 0)==3) then
  (jj J 0 2 0 (aaM true a0) (e76 J m [1,1] []))
   else
  (bif ((Dt.I a0 0)==9) then
  (jj J 0 2 0 (aaM true a0) (e76 J m [1,1] []))
  else
  (jj J 0 2 0 (aaM ((Dt.I a0 0)==10) a0) (e76 J m [1,1] []))))) (by simp only[aj,EY m];rfl)
def SG:List Nat:=[1,1,0,1,0]
def alX:List Nat:=[1,1,0,1,0,0,1,1]
def SH:List Nat:=alX++[0,0,1,0,1]
def afq (J:Q1) (m:Nat):=evAt Tryz.prog env (ct m) J (m+1) 221 33 Tryz.f221 d5
def ajy (J:Q1) (m:Nat):=loopAt Tryz.prog env (ct m) J (m+1) 221 33 Tryz.f221 d5
def SI (x0:List Dt) (x1 x2:Int) (x3:List Dt):St:=⟨tsOf [(3,.row 0),(7,.dat 24 (.lst x0)),(8,.dat 3 (.int x1)),(9,.dat 3 (.int x2))],[(.map 223 x3)],0⟩
def SN (x0:List Dt) (x1 x2:Int) (x3:Bool) (x4:List Dt) (x5:Dt):St:=⟨tsOf [(3,.row 0),(5,.ptr 1 [] 0),(7,.dat 24 (.lst x0)),(8,.dat 3 (.int x1)),(9,.dat 3 (.int x2)),(28,.dat 4 (.bool x3))],[(.map 223 x4),.box 48 (.dat 48 x5)],0⟩
abbrev alY (m M1:Nat) (rec1:Q23):Prop:=∀x0 x1 x2 x3,ajy jn m SG [] M1 (SI x0 x1 x2 x3)=rec1 x0 x1 x2 x3
theorem yI m M1 rec1 (h1:alY m M1 rec1) x0 x1 x2 x3 x4 x5:afq jn m SH [M1] (SN x0 x1 x2 x3 x4 x5)=dz m (aI m) rec1 x0 x1 x2 x3 x4 x5:=
 tq (g:=fun J=>(bif x3 then
  some false
   else
  (((jj J 1 3 M1 (SI x0 x1 (IntKind.wrap .i64 (x2+1)) (mput x4 (Dt.S x5 0) (Dt.bool true))) (ajy J m SG [] M1)))))) (by simp only[aj,h1];rfl)
theorem ql m:∀M1 x0 x1 x2 x3,ajy jn m SG [] M1 (SI x0 x1 x2 x3)=bU m (aI m) M1 x0 x1 x2 x3
 |0,_,_,_,_=>rfl
 | M1+1,x0,x1,x2,x3=>
   tl (g:=fun J=>(bif (decide (x2<x1)) then
  (((idx x0 x2).bind fun v0=>((lZ m (Dt.S v0 0)).bind fun r1=>(bif (Bool.not r1) then(jj J 0 6 0 (SN x0 x1 x2 true x3 v0) (afq J m SH [M1])) else(bif (Dt.toBool (mgetD x3 (Dt.S v0 0) (Dt.bool false))) then(jj J 0 6 0 (SN x0 x1 x2 true x3 v0) (afq J m SH [M1])) else((aI m (Dt.fld v0 1)).bind fun r2=>(jj J 0 6 0 (SN x0 x1 x2 (Bool.not r2) x3 v0) (afq J m SH [M1]))))))))
   else
  (some true))) (by simp only[aj,yI m M1 (bU m (aI m) M1) (ql m M1)];rfl)
theorem Ay m a0:afq jn m [] [] ⟨[.dat 24 (.lst a0)],[],0⟩=aH (m+1) a0:=
 tq (g:=fun J=>((jj J 1 3 (Nat.succ m) (SI a0 (List.length a0:Int) 0 []) (ajy J m SG [] (Nat.succ m))))) (by simp only[aj,ql m];rfl)
def e43 (J:Q1) (m:Nat):=evAt Tryz.prog env (ct m) J (m+1) 122 15 Tryz.f122 d5
theorem LD m a0:e43 jn m [] [] ⟨[.dat 26 a0],[],0⟩=jN (m+1) a0:=
 tq (g:=fun J=>((lN m a0).bind fun r0=>
  (bif (decide (r0≤1024)) then
  ((lQ m a0).bind fun r1=>
  (bif (decide (r1≤16)) then
  ((aI m a0).bind fun r2=>
  some r2)
  else
  some false))
  else
  some false))) (by rfl)
def e28 (J:Q0) (m:Nat):=evAt Tryz.prog env (ct m) J (m+1) 84 21 Tryz.f84 d16
theorem SQ m a0 a1 a2:e28 jn m [] [] ⟨[.dat 29 a0,.dat 26 a1,.dat 160 a2],[],0⟩=expr_eval (m+1) a0 a1 a2:=
 tq (g:=fun J=>((dG m a0 a1 a2).bind fun r0=>
  (bif ((Dt.I r0 0)==0) then
  some kza2373
  else
  (((jN m r0).bind fun r1=>(bif (Bool.not r1) then((aT m).bind fun r2=>some r2) else(some r0))))))) (by rfl)
def afr:List Nat:=[1,1,1,0,1,0]
def DJ:List Nat:=[1,1,1,1,0,1,0,1]
def zx:List Nat:=DJ++[1,1]
def YB:List Nat:=[1,0,1,0,1,1,1,1,1,1,1]
def aoY:List Nat:=[1,0,1,0,1,1,1,1,1,0,0,1]
def DK:List Nat:=zx++[1,1]
def afs:List Nat:=aoY++[0]
def DL:List Nat:=DK++[1,1]
def LG:List Nat:=DL++[1,1]
def e42 (J:Q0) (m:Nat):=evAt Tryz.prog env (ct m) J (m+1) 121 149 Tryz.f121 d16
def l42 (J:Q0) (m:Nat):=loopAt Tryz.prog env (ct m) J (m+1) 121 149 Tryz.f121 d16
def aft (x0 x1 x2:Dt):St:=⟨tsOf [(3,.ptr 0 [] 0),(6,.ptr 1 [] 0),(7,.dat 160 x0)],[.box 29 (.dat 29 x1),.box 26 (.dat 26 x2)],0⟩
def YC (x0:Dt) (x1:List Dt) (x2 x3:Int) (x4 x5 x6:Dt) (x7:List Dt):St:=⟨tsOf [(2,.dat 160 x0),(3,.ptr 0 [] 0),(4,.ptr 1 [] 0),(6,.ptr 2 [] 0),(8,.row 3),(59,.dat 27 (.lst x1)),(60,.dat 3 (.int x2)),(61,.dat 3 (.int x3))],[.box 29 (.dat 29 x4),.box 26 (.dat 26 x5),.box 26 (.dat 26 x6),.row 23 x7],0⟩
def DN (x0:Int) (x1:Bool) (x2 x3:Dt) (x4:List Dt):St:=⟨tsOf [(3,.ptr 0 [] 0),(6,.ptr 1 [] 0),(8,.row 2),(75,.dat 3 (.int x0)),(124,.dat 4 (.bool x1))],[.box 29 (.dat 29 x2),.box 26 (.dat 26 x3),.row 23 x4],0⟩
def GL (x0:Int) (x1:Bool) (x2 x3:Dt) (x4:List Dt):St:=⟨tsOf [(3,.ptr 0 [] 0),(6,.ptr 1 [] 0),(8,.row 2),(75,.dat 3 (.int x0)),(114,.dat 4 (.bool x1))],[.box 29 (.dat 29 x2),.box 26 (.dat 26 x3),.row 23 x4],0⟩
def GN (x0:Int) (x1:Bool) (x2 x3:Dt) (x4:List Dt):St:=⟨tsOf [(3,.ptr 0 [] 0),(6,.ptr 1 [] 0),(8,.row 2),(75,.dat 3 (.int x0)),(104,.dat 4 (.bool x1))],[.box 29 (.dat 29 x2),.box 26 (.dat 26 x3),.row 23 x4],0⟩
def Az (x0:Int) (x1:Bool) (x2 x3:Dt) (x4:List Dt):St:=⟨tsOf [(3,.ptr 0 [] 0),(6,.ptr 1 [] 0),(8,.row 2),(75,.dat 3 (.int x0)),(86,.dat 4 (.bool x1))],[.box 29 (.dat 29 x2),.box 26 (.dat 26 x3),.row 23 x4],0⟩
def GQ (x0:Int) (x1:Bool) (x2 x3:Dt) (x4:List Dt):St:=⟨tsOf [(3,.ptr 0 [] 0),(6,.ptr 1 [] 0),(8,.row 2),(75,.dat 3 (.int x0)),(76,.dat 4 (.bool x1))],[.box 29 (.dat 29 x2),.box 26 (.dat 26 x3),.row 23 x4],0⟩
def afu (x0:Dt) (x1:Bool) (x2 x3 x4:Dt):St:=⟨tsOf [(2,.dat 160 x0),(3,.ptr 0 [] 0),(4,.ptr 1 [] 0),(6,.ptr 2 [] 0),(47,.dat 4 (.bool x1))],[.box 29 (.dat 29 x2),.box 26 (.dat 26 x3),.box 26 (.dat 26 x4)],0⟩
theorem vg m:∀M1 x0 x1 x2,l42 jn m afs [] M1 (aft x0 x1 x2)=mK m (expr_eval m) (bZ m) M1 x0 x1 x2
 |0,_,_,_=>rfl
 | M1+1,x0,x1,x2=>
   tl (g:=fun J=>(bif (Bool.not (List.isEmpty (Dt.toLst x0))) then
  (((idx (Dt.toLst x0) 0).bind fun v1=>(bif ((ByteArray.toList (Dt.S v1 0))==(ByteArray.toList (Dt.S x1 2))) then((idx (Dt.toLst x0) 0).bind fun v2=>((aR m (Dt.fld v2 1) (Dt.L x1 1)).bind fun r3=>some r3)) else(((idx (Dt.toLst x0) 0).bind fun v4=>(jj J 1 8 M1 (aft (Dt.fld v4 2) x1 x2) (l42 J m afs [] M1)))))))
   else
  (some kza2373))) (by simp only[aj,(vg m M1)];rfl)
theorem Cq m x0 x1 x2 x3 x4:e42 jn m LG [] (DN x0 x1 x2 x3 x4)=fQ m (expr_eval m) (bZ m) x0 x1 x2 x3 x4:=
 tq (g:=fun J=>(bif x1 then
  ((bF m (Dt.I x2 0) x4).bind fun r20=>
  some r20)
   else
  (bif (x0==36) then
  ((inL x4 0).bind fun v21=>
  ((x4[0]?).bind fun v22=>
  ((aN m (Dt.I v22 0)).bind fun r23=>
  some r23)))
  else
  (bif (x0==37) then
  ((nZ m x4).bind fun r24=>
  some r24)
  else
  (((bY m x2 x4).bind fun r25=>some r25)))))) (by rfl)
theorem Cr m x0 x1 x2 x3 x4:e42 jn m DL [] (GL x0 x1 x2 x3 x4)=iN m (expr_eval m) (bZ m) x0 x1 x2 x3 x4:=
 tq (g:=fun J=>(bif x1 then
  ((bR (Dt.I x2 0) x4).bind fun r19=>
  some r19)
   else
  (bif (x0==26) then
  (jj J 0 55 0 (DN x0 (x0==26) x2 x3 x4) (e42 J m LG []))
  else
  (bif (x0==30) then
  (jj J 0 55 0 (DN x0 (x0==30) x2 x3 x4) (e42 J m LG []))
  else
  (bif (x0==31) then
  (jj J 0 55 0 (DN x0 (x0==31) x2 x3 x4) (e42 J m LG []))
  else
  (bif (x0==29) then
  (jj J 0 55 0 (DN x0 (x0==29) x2 x3 x4) (e42 J m LG []))
  else
  (bif (x0==27) then
  (jj J 0 55 0 (DN x0 (x0==27) x2 x3 x4) (e42 J m LG []))
  else
  (jj J 0 55 0 (DN x0 (x0==28) x2 x3 x4) (e42 J m LG []))))))))) (by simp only[aj,Cq m];rfl)
theorem Ct m x0 x1 x2 x3 x4:e42 jn m DK [] (GN x0 x1 x2 x3 x4)=iO m (expr_eval m) (bZ m) x0 x1 x2 x3 x4:=
 tq (g:=fun J=>(bif x1 then
  ((eU m (Dt.I x2 0) x4).bind fun r18=>
  some r18)
   else
  (bif (x0==21) then
  (jj J 0 48 0 (GL x0 (x0==21) x2 x3 x4) (e42 J m DL []))
  else
  (bif (x0==22) then
  (jj J 0 48 0 (GL x0 (x0==22) x2 x3 x4) (e42 J m DL []))
  else
  (bif (x0==23) then
  (jj J 0 48 0 (GL x0 (x0==23) x2 x3 x4) (e42 J m DL []))
  else
  (bif (x0==24) then
  (jj J 0 48 0 (GL x0 (x0==24) x2 x3 x4) (e42 J m DL []))
  else
  (jj J 0 48 0 (GL x0 (x0==25) x2 x3 x4) (e42 J m DL [])))))))) (by simp only[aj,Cr m];rfl)
theorem Cu m x0 x1 x2 x3 x4:e42 jn m zx [] (Az x0 x1 x2 x3 x4)=eG m (expr_eval m) (bZ m) x0 x1 x2 x3 x4:=
 tq (g:=fun J=>(bif x1 then
  ((inL x4 0).bind fun v12=>
  ((x4[0]?).bind fun v13=>
  ((inL x4 1).bind fun v14=>
  ((x4[1]?).bind fun v15=>
  ((ay m v13 v15).bind fun r16=>
  ((gV m (Dt.I x2 0) r16).bind fun r17=>
  some r17))))))
   else
  (bif (x0==16) then
  (jj J 0 42 0 (GN x0 (x0==16) x2 x3 x4) (e42 J m DK []))
  else
  (bif (x0==17) then
  (jj J 0 42 0 (GN x0 (x0==17) x2 x3 x4) (e42 J m DK []))
  else
  (bif (x0==18) then
  (jj J 0 42 0 (GN x0 (x0==18) x2 x3 x4) (e42 J m DK []))
  else
  (bif (x0==19) then
  (jj J 0 42 0 (GN x0 (x0==19) x2 x3 x4) (e42 J m DK []))
  else
  (jj J 0 42 0 (GN x0 (x0==20) x2 x3 x4) (e42 J m DK [])))))))) (by simp only[aj,Ct m];rfl)
theorem Cw m x0 x1 x2 x3 x4:e42 jn m DJ [] (GQ x0 x1 x2 x3 x4)=iP m (expr_eval m) (bZ m) x0 x1 x2 x3 x4:=
 tq (g:=fun J=>(bif x1 then
  ((bM m (Dt.I x2 0) x4).bind fun r11=>
  some r11)
   else
  (bif (x0==9) then
  (jj J 0 36 0 (Az x0 (x0==9) x2 x3 x4) (e42 J m zx []))
  else
  (bif (x0==10) then
  (jj J 0 36 0 (Az x0 (x0==10) x2 x3 x4) (e42 J m zx []))
  else
  (bif (x0==11) then
  (jj J 0 36 0 (Az x0 (x0==11) x2 x3 x4) (e42 J m zx []))
  else
  (bif (x0==12) then
  (jj J 0 36 0 (Az x0 (x0==12) x2 x3 x4) (e42 J m zx []))
  else
  (bif (x0==13) then
  (jj J 0 36 0 (Az x0 (x0==13) x2 x3 x4) (e42 J m zx []))
  else
  (bif (x0==14) then
  (jj J 0 36 0 (Az x0 (x0==14) x2 x3 x4) (e42 J m zx []))
  else
  (jj J 0 36 0 (Az x0 (x0==15) x2 x3 x4) (e42 J m zx [])))))))))) (by simp only[aj,Cu m];rfl)
theorem vk m:∀M8 x0 x1 x2 x3 x4 x5 x6 x7,l42 jn m afr [] M8 (YC x0 x1 x2 x3 x4 x5 x6 x7)=mM m (expr_eval m) (bZ m) M8 x0 x1 x2 x3 x4 x5 x6 x7
 |0,_,_,_,_,_,_,_,_=>rfl
 | M8+1,x0,x1,x2,x3,x4,x5,x6,x7=>
   tl (g:=fun J=>(bif (decide (x3<x2)) then
  (((idx x1 x3).bind fun v7=>((expr_eval m v7 x5 x0).bind fun r8=>((inL x7 x3).bind fun v9=>((x7[(Int.toNat x3)]?).bind fun v10=>((jj J 1 18 M8 (YC x0 x1 x2 (IntKind.wrap .i64 (x3+1)) x4 x5 x6 (List.set x7 (Int.toNat x3) r8)) (l42 J m afr [] M8))))))))
   else
  ((bif ((Dt.I x4 0)==4) then(jj J 0 28 0 (GQ (Dt.I x4 0) ((Dt.I x4 0)==4) x4 x6 x7) (e42 J m DJ [])) else(bif ((Dt.I x4 0)==5) then(jj J 0 28 0 (GQ (Dt.I x4 0) ((Dt.I x4 0)==5) x4 x6 x7) (e42 J m DJ [])) else(bif ((Dt.I x4 0)==6) then(jj J 0 28 0 (GQ (Dt.I x4 0) ((Dt.I x4 0)==6) x4 x6 x7) (e42 J m DJ [])) else(bif ((Dt.I x4 0)==7) then(jj J 0 28 0 (GQ (Dt.I x4 0) ((Dt.I x4 0)==7) x4 x6 x7) (e42 J m DJ [])) else(jj J 0 28 0 (GQ (Dt.I x4 0) ((Dt.I x4 0)==8) x4 x6 x7) (e42 J m DJ []))))))))) (by simp only[aj,(vk m M8),Cw m];rfl)
theorem DR m x0 x1 x2 x3 x4:e42 jn m YB [] (afu x0 x1 x2 x3 x4)=tQ m (expr_eval m) (bZ m) x0 x1 x2 x3 x4:=
 tq (g:=fun J=>(bif x1 then
  ((bZ m x2 x3 x0).bind fun r5=>
  some r5)
   else
  (((mkL (List.length (Dt.L x2 6):Int) (List.length (Dt.L x2 6):Int) kza2373).bind fun v6=>((jj J 1 18 (Nat.succ m) (YC x0 (Dt.L x2 6) (List.length (Dt.L x2 6):Int) 0 x2 x3 x4 v6) (l42 J m afr [] (Nat.succ m)))))))) (by simp only[aj,vk m];rfl)
theorem JR m a0 a1 a2:e42 jn m [] [] ⟨[.dat 29 a0,.dat 26 a1,.dat 160 a2],[],0⟩=dG (m+1) a0 a1 a2:=
 tq (g:=fun J=>(bif ((Dt.I a0 0)==1) then
  some (Dt.fld a0 4)
   else
  (bif ((Dt.I a0 0)==2) then
  ((aR m a1 (Dt.L a0 1)).bind fun r0=>
  some r0)
  else
  (bif ((Dt.I a0 0)==3) then
  ((jj J 1 8 (Nat.succ m) (aft a2 a0 kza2373) (l42 J m afs [] (Nat.succ m))))
  else
  (bif ((Dt.I a0 0)==32) then
  (jj J 0 15 0 (afu a2 ((Dt.I a0 0)==32) a0 a1 kza2373) (e42 J m YB []))
  else
  (jj J 0 15 0 (afu a2 ((Dt.I a0 0)==33) a0 a1 kza2373) (e42 J m YB []))))))) (by simp only[aj,vg m,DR m];rfl)
def aoZ:List Nat:=[1,1,1,1,0,1]
def VD:List Nat:=aoZ++[0]
def ao0:List Nat:=VD++[0,1,1]
def aaN:List Nat:=ao0++[1]
def e65 (J:Q0) (m:Nat):=evAt Tryz.prog env (ct m) J (m+1) 160 63 Tryz.f160 d16
def l65 (J:Q0) (m:Nat):=loopAt Tryz.prog env (ct m) J (m+1) 160 63 Tryz.f160 d16
def Jp (x0:Dt) (x1:List Dt) (x2 x3:Int) (x4 x5 x6:Dt) (x7 x8:Int) (x9:ByteArray) (x10 x11:List Dt):St:=⟨tsOf [(2,.dat 160 x0),(3,.ptr 0 [] 0),(4,.ptr 1 [] 0),(6,.ptr 2 [] 0),(8,.ptr 3 [] 0),(25,.dat 23 (.lst x1)),(26,.dat 3 (.int x2)),(27,.dat 3 (.int x3))],[.box 29 (.dat 29 x4),.box 26 (.dat 26 x5),.box 26 (.dat 26 x6),.box 26 (.agg 26 [.dat 3 (.int x7),.dat 3 (.int x8),.dat 9 (.str x9),.row 4,.row 5]),.row 23 x10,.row 24 x11],0⟩
abbrev ao1 (m M2:Nat) (rec2:Q73):Prop:=∀x0 x1 x2 x3 x4 x5 x6 x7 x8 x9 x10 x11,l65 jn m VD [] M2 (Jp x0 x1 x2 x3 x4 x5 x6 x7 x8 x9 x10 x11)=rec2 x0 x1 x2 x3 x4 x5 x6 x7 x8 x9 x10 x11
theorem JU m M2 rec2 (h2:ao1 m M2 rec2) x0 x1 x2 x3 x4 x5 x6 x7 x8 x9 x10 x11:e65 jn m aaN [M2] (Jp x0 x1 x2 x3 x4 x5 x6 x7 x8 x9 x10 x11)=qG m (expr_eval m) rec2 x0 x1 x2 x3 x4 x5 x6 x7 x8 x9 x10 x11:=
 tq (g:=fun J=>(jj J 1 6 M2 (Jp x0 x1 x2 (IntKind.wrap .i64 (x3+1)) x4 x5 x6 x7 x8 x9 x10 x11) (l65 J m VD [] M2))) (by simp only[aj,h2];rfl)
theorem zM m:∀M2 x0 x1 x2 x3 x4 x5 x6 x7 x8 x9 x10 x11,l65 jn m VD [] M2 (Jp x0 x1 x2 x3 x4 x5 x6 x7 x8 x9 x10 x11)=jO m (expr_eval m) M2 x0 x1 x2 x3 x4 x5 x6 x7 x8 x9 x10 x11
 |0,_,_,_,_,_,_,_,_,_,_,_,_=>rfl
 | M2+1,x0,x1,x2,x3,x4,x5,x6,x7,x8,x9,x10,x11=>
   tl (g:=fun J=>(bif (decide (x3<x2)) then
  (((idx x1 x3).bind fun v3=>((idx (Dt.L x4 6) 1).bind fun v4=>((expr_eval m v4 x5 (Dt.lst [(Dt.agg [(Dt.str (Dt.S x4 2)),v3,x0])])).bind fun r5=>(bif ((Dt.I x4 0)==32) then((fD m r5).bind fun r6=>((app x10 [r6]).bind fun v7=>(jj J 0 13 0 (Jp x0 x1 x2 x3 x4 x5 x6 x7 x8 x9 v7 x11) (e65 J m aaN [M2])))) else((bS m r5).bind fun r8=>(bif r8 then((app x10 [v3]).bind fun v9=>(jj J 0 13 0 (Jp x0 x1 x2 x3 x4 x5 x6 x7 x8 x9 v9 x11) (e65 J m aaN [M2]))) else(jj J 0 13 0 (Jp x0 x1 x2 x3 x4 x5 x6 x7 x8 x9 x10 x11) (e65 J m aaN [M2])))))))))
   else
  (some (Dt.agg [(Dt.int x7),(Dt.int x8),(Dt.str x9),(Dt.lst x10),(Dt.lst x11)])))) (by simp only[aj,JU m M2 (jO m (expr_eval m) M2) (zM m M2)];rfl)
theorem SV m a0 a1 a2:e65 jn m [] [] ⟨[.dat 29 a0,.dat 26 a1,.dat 160 a2],[],0⟩=bZ (m+1) a0 a1 a2:=
 tq (g:=fun J=>((idx (Dt.L a0 6) 0).bind fun v0=>
  ((expr_eval m v0 a1 a2).bind fun r1=>
  (bif ((Dt.I r1 0) !=6) then
  ((aT m).bind fun r2=>
  some r2)
  else
  (((jj J 1 6 (Nat.succ m) (Jp a2 (Dt.L r1 3) (List.length (Dt.L r1 3):Int) 0 a0 a1 kza2373 6 0 (ByteArray.mk (List.toArray [])) [] []) (l65 J m VD [] (Nat.succ m))))))))) (by simp only[aj,zM m];rfl)
def YD:List Nat:=[1,1,1,1,1]
def akY:List Nat:=[1,1,1,1,1,1]
def akZ:List Nat:=akY++[1]
def VF:List Nat:=[1,1,1,1,1,0,1]
def ak0:List Nat:=akZ++[1]
def Qv:List Nat:=akY++[0,1]
def ao2:List Nat:=ak0++[1]
def afv:List Nat:=akZ++[0,1]
def zN:List Nat:=ak0++[0,1]
def aaO:List Nat:=ao2++[0,1]
def e41 (J:Q2) (m:Nat):=evAt Tryz.prog env (ct m) J (m+1) 158 139 Tryz.f158 d35
def SX (x0:Bool):St:=⟨tsOf [(138,.dat 4 (.bool x0))],[],0⟩
def tX (x0:Bool) (x1:Dt):St:=⟨tsOf [(1,.ptr 0 [] 0),(124,.dat 4 (.bool x0))],[.box 29 (.dat 29 x1)],0⟩
def YE (x0 x1:Bool) (x2:Dt):St:=⟨tsOf [(1,.ptr 0 [] 0),(3,.dat 4 (.bool x0)),(4,.dat 4 (.bool x1))],[.box 29 (.dat 29 x2)],0⟩
def YF (x0 x1 x2:Bool) (x3:Dt):St:=⟨tsOf [(1,.ptr 0 [] 0),(3,.dat 4 (.bool x0)),(4,.dat 4 (.bool x1)),(96,.dat 4 (.bool x2))],[.box 29 (.dat 29 x3)],0⟩
def Qw (x0 x1 x2:Bool) (x3:Dt):St:=⟨tsOf [(1,.ptr 0 [] 0),(3,.dat 4 (.bool x0)),(4,.dat 4 (.bool x1)),(87,.dat 4 (.bool x2))],[.box 29 (.dat 29 x3)],0⟩
def VG (x0 x1 x2:Bool) (x3:Dt):St:=⟨tsOf [(1,.ptr 0 [] 0),(3,.dat 4 (.bool x0)),(4,.dat 4 (.bool x1)),(69,.dat 4 (.bool x2))],[.box 29 (.dat 29 x3)],0⟩
def afw (x0:Bool) (x1:Dt):St:=⟨tsOf [(1,.ptr 0 [] 0),(3,.dat 4 (.bool x0))],[.box 29 (.dat 29 x1)],0⟩
def afx (x0:Bool) (x1:Dt):St:=⟨tsOf [(1,.ptr 0 [] 0),(34,.dat 4 (.bool x0))],[.box 29 (.dat 29 x1)],0⟩
def aaP (x0:Bool) (x1:Dt):St:=⟨tsOf [(1,.ptr 0 [] 0),(22,.dat 4 (.bool x0))],[.box 29 (.dat 29 x1)],0⟩
theorem zW m x0:e41 jn m aaO [] (SX x0)=jc m x0:=
 tq (g:=fun J=>(bif x0 then
  some 4
   else
  (some 0))) (by rfl)
theorem zX m x0 x1:e41 jn m zN [] (tX x0 x1)=aX m x0 x1:=
 tq (g:=fun J=>(bif x0 then
  some 4
   else
  ((bif ((Dt.I x1 0) !=1) then((nP m (Dt.fld x1 4)).bind fun r3=>(bif (Bool.not r3) then(jj J 0 16 0 (SX true) (e41 J m aaO [])) else(jj J 0 16 0 (SX ((Dt.I x1 5) !=0)) (e41 J m aaO [])))) else(jj J 0 16 0 (SX ((Dt.I x1 5) !=0)) (e41 J m aaO [])))))) (by simp only[aj,zW m];rfl)
theorem zY m x0 x1 x2 x3:e41 jn m afv [] (YF x0 x1 x2 x3)=l6 m x0 x1 x2 x3:=
 tq (g:=fun J=>(bif x2 then
  some 8
   else
  ((bif (Bool.not x0) then(bif (decide (0<(List.length (Dt.L x3 1):Int))) then(jj J 0 14 0 (tX true x3) (e41 J m zN [])) else(bif (Bool.not x1) then(bif (Bool.not ((ByteArray.toList (Dt.S x3 2))==[])) then(jj J 0 14 0 (tX true x3) (e41 J m zN [])) else(bif ((Dt.I x3 0) !=34) then(jj J 0 14 0 (tX (decide (0<(List.length (Dt.L x3 3):Int))) x3) (e41 J m zN [])) else(jj J 0 14 0 (tX false x3) (e41 J m zN [])))) else(bif ((Dt.I x3 0) !=34) then(jj J 0 14 0 (tX (decide (0<(List.length (Dt.L x3 3):Int))) x3) (e41 J m zN [])) else(jj J 0 14 0 (tX false x3) (e41 J m zN []))))) else(bif (Bool.not x1) then(bif (Bool.not ((ByteArray.toList (Dt.S x3 2))==[])) then(jj J 0 14 0 (tX true x3) (e41 J m zN [])) else(bif ((Dt.I x3 0) !=34) then(jj J 0 14 0 (tX (decide (0<(List.length (Dt.L x3 3):Int))) x3) (e41 J m zN [])) else(jj J 0 14 0 (tX false x3) (e41 J m zN [])))) else(bif ((Dt.I x3 0) !=34) then(jj J 0 14 0 (tX (decide (0<(List.length (Dt.L x3 3):Int))) x3) (e41 J m zN [])) else(jj J 0 14 0 (tX false x3) (e41 J m zN [])))))))) (by simp only[aj,zX m];rfl)
theorem AA m x0 x1 x2 x3:e41 jn m Qv [] (Qw x0 x1 x2 x3)=fu m x0 x1 x2 x3:=
 tq (g:=fun J=>(bif x2 then
  some 9
   else
  ((bif ((Dt.I x3 0)==1) then((jN m (Dt.fld x3 4)).bind fun r2=>(jj J 0 12 0 (YF x0 x1 (Bool.not r2) x3) (e41 J m afv []))) else(jj J 0 12 0 (YF x0 x1 false x3) (e41 J m afv [])))))) (by simp only[aj,zY m];rfl)
theorem AB m x0 x1 x2 x3:e41 jn m VF [] (VG x0 x1 x2 x3)=gK m x0 x1 x2 x3:=
 tq (g:=fun J=>(bif x2 then
  some 10
   else
  ((bif x1 then((jE m (Dt.S x3 2)).bind fun r1=>(bif (Bool.not r1) then(jj J 0 10 0 (Qw x0 x1 true x3) (e41 J m Qv [])) else(bif ((Dt.I x3 0)==34) then((dh m (Dt.L x3 3)).bind fun r4=>(jj J 0 10 0 (Qw x0 x1 (Bool.not r4) x3) (e41 J m Qv []))) else(jj J 0 10 0 (Qw x0 x1 false x3) (e41 J m Qv []))))) else(bif ((Dt.I x3 0)==34) then((dh m (Dt.L x3 3)).bind fun r5=>(jj J 0 10 0 (Qw x0 x1 (Bool.not r5) x3) (e41 J m Qv []))) else(jj J 0 10 0 (Qw x0 x1 false x3) (e41 J m Qv []))))))) (by simp only[aj,AA m];rfl)
theorem AJ m x0 x1 x2:e41 jn m YD [] (YE x0 x1 x2)=jP m x0 x1 x2:=
 tq (g:=fun J=>(bif x0 then
  ((lX m (Dt.L x2 1)).bind fun r0=>
  (bif (Bool.not r0) then
  (bif ((Dt.I x2 0)==2) then
  (jj J 0 8 0 (VG x0 x1 true x2) (e41 J m VF []))
  else
  (jj J 0 8 0 (VG x0 x1 (decide (0<(List.length (Dt.L x2 1):Int))) x2) (e41 J m VF [])))
  else
  (jj J 0 8 0 (VG x0 x1 false x2) (e41 J m VF []))))
   else
  (jj J 0 8 0 (VG x0 x1 false x2) (e41 J m VF [])))) (by simp only[aj,AB m];rfl)
theorem AL m x0 x1:e41 jn m [1,1,1,1] [] (afw x0 x1)=nE m x0 x1:=
 tq (g:=fun J=>(bif ((Dt.I x1 0)==3) then
  (jj J 0 7 0 (YE x0 true x1) (e41 J m YD []))
   else
  ((nQ m (Dt.I x1 0)).bind fun r6=>
  (jj J 0 7 0 (YE x0 (r6==3) x1) (e41 J m YD []))))) (by simp only[aj,AJ m];rfl)
theorem AO m x0 x1:e41 jn m [1,1,0,1] [] (afx x0 x1)=nG m x0 x1:=
 tq (g:=fun J=>(bif x0 then
  some 11
   else
  ((bif ((Dt.I x1 0)==2) then(jj J 0 6 0 (afw true x1) (e41 J m [1,1,1,1] [])) else(jj J 0 6 0 (afw ((Dt.I x1 0)==3) x1) (e41 J m [1,1,1,1] [])))))) (by simp only[aj,AL m];rfl)
theorem AP m x0 x1:e41 jn m [1,0,1] [] (aaP x0 x1)=jQ m x0 x1:=
 tq (g:=fun J=>(bif x0 then
  some 11
   else
  ((bif ((Dt.I x1 0)==34) then(jj J 0 4 0 (afx ((List.length (Dt.L x1 6):Int) !=(List.length (Dt.L x1 3):Int)) x1) (e41 J m [1,1,0,1] [])) else(jj J 0 4 0 (afx false x1) (e41 J m [1,1,0,1] [])))))) (by simp only[aj,AO m];rfl)
theorem EZ m a0:e41 jn m [] [] ⟨[.dat 29 a0],[],0⟩=jd (m+1) a0:=
 tq (g:=fun J=>(bif (decide ((Dt.I a0 0)<1)) then
  (jj J 0 2 0 (aaP true a0) (e41 J m [1,0,1] []))
   else
  (bif (decide (37<(Dt.I a0 0))) then
  (jj J 0 2 0 (aaP true a0) (e41 J m [1,0,1] []))
  else
  ((nQ m (Dt.I a0 0)).bind fun r7=>
  ((oC m r7 (List.length (Dt.L a0 6):Int)).bind fun r8=>
  (jj J 0 2 0 (aaP (Bool.not r8) a0) (e41 J m [1,0,1] []))))))) (by simp only[aj,AP m];rfl)
def ao3:List Nat:=[1,1,1,1,0,1]
def afy:List Nat:=ao3++[0]
def e40 (J:Q30) (m:Nat):=evAt Tryz.prog env (ct m) J (m+1) 120 45 Tryz.f120 d40
def l40 (J:Q30) (m:Nat):=loopAt Tryz.prog env (ct m) J (m+1) 120 45 Tryz.f120 d40
def afz (x0:Int) (x1:List Dt) (x2 x3 x4:Int):St:=⟨tsOf [(1,.dat 3 (.int x0)),(2,.ptr 0 [] 0),(30,.dat 27 (.lst x1)),(31,.dat 3 (.int x2)),(32,.dat 3 (.int x3))],[.box 3 (.dat 3 (.int x4))],1⟩
def afA (x0:Int) (x1:Bool) (x2:Int) (x3:Dt):St:=⟨tsOf [(1,.dat 3 (.int x0)),(2,.ptr 0 [] 0),(3,.ptr 1 [] 0),(18,.dat 4 (.bool x1))],[.box 3 (.dat 3 (.int x2)),.box 29 (.dat 29 x3)],1⟩
theorem Qx m:∀M4 x0 x1 x2 x3 x4,l40 jn m afy [] M4 (afz x0 x1 x2 x3 x4)=Gs m (i40 m) M4 x0 x1 x2 x3 x4
 |0,_,_,_,_,_=>rfl
 | M4+1,x0,x1,x2,x3,x4=>
   tl (g:=fun J=>(bif (decide (x3<x2)) then
  (((idx x1 x3).bind fun v1=>((i40 m v1 (IntKind.wrap .i64 (x0+1)) x4).bind fun r2=>(bif (r2.1 !=0) then some (r2.1,r2.2) else((jj J 1 8 M4 (afz x0 x1 x2 (IntKind.wrap .i64 (x3+1)) r2.2) (l40 J m afy [] M4)))))))
   else
  (some (0,x4)))) (by simp only[aj,(Qx m M4)];rfl)
theorem ac8 m x0 x1 x2 x3:e40 jn m [1,0,1] [] (afA x0 x1 x2 x3)=R3 m (i40 m) x0 x1 x2 x3:=
 tq (g:=fun J=>(bif x1 then
  some (2,x2)
   else
  (((jd m x3).bind fun r0=>(bif (r0 !=0) then some (r0,(IntKind.wrap .i64 (x2+1))) else(((jj J 1 8 (Nat.succ m) (afz x0 (Dt.L x3 6) (List.length (Dt.L x3 6):Int) 0 (IntKind.wrap .i64 (x2+1))) (l40 J m afy [] (Nat.succ m)))))))))) (by simp only[aj,Qx m];rfl)
theorem alZ m a0 a1 a2:e40 jn m [] [] ⟨[.dat 29 a0,.dat 3 (.int a1),.ptr 0 [] 0],[.box 3 (.dat 3 (.int a2))],1⟩=i40 (m+1) a0 a1 a2:=
 tq (g:=fun J=>(bif (decide (16<a1)) then
  (jj J 0 2 0 (afA a1 true a2 a0) (e40 J m [1,0,1] []))
   else
  (jj J 0 2 0 (afA a1 (a2==256) a2 a0) (e40 J m [1,0,1] [])))) (by simp only[aj,ac8 m];rfl)
def e27 (J:Q2) (m:Nat):=evAt Tryz.prog env (ct m) J (m+1) 82 6 Tryz.f82 d35
theorem OE m a0:e27 jn m [] [] ⟨[.dat 29 a0],[],0⟩=p8 (m+1) a0:=
 tq (g:=fun J=>((i40 m a0 1 0).bind fun r0=>
  some r0.1)) (by rfl)
def e14 (J:Q0) (m:Nat):=evAt Tryz.prog env (ct m) J (m+1) 40 13 Tryz.f40 d16
theorem SY m a0 a1:e14 jn m [] [] ⟨[.dat 29 a0,.dat 26 a1],[],0⟩=expr_Eval (m+1) a0 a1:=
 tq (g:=fun J=>((p8 m a0).bind fun r0=>
  (bif (r0 !=0) then
  some kza2373
  else
  (((expr_eval m a0 a1 (Dt.lst [])).bind fun r1=>((aJ m r1).bind fun r2=>some r2)))))) (by rfl)
def al0:List Nat:=[1,1,0,1,0]
def ao4:List Nat:=[1,1,1,1,1,1]
def ao5:List Nat:=[1,1,1,1,1,0,1]
def ac9:List Nat:=ao5++[0]
def ao6:List Nat:=ao4++[1,0,1]
def ajz:List Nat:=ao6++[0]
def aqU:List Nat:=ac9++[0,1,1]
def ajA:List Nat:=aqU++[0,0,1,1,1,1]
def al1:List Nat:=ajA++[0,1]
def e3 (J:Q41) (m:Nat):=evAt Tryz.prog env (ct m) J (m+1) 19 107 Tryz.f19 d94
def l3 (J:Q41) (m:Nat):=loopAt Tryz.prog env (ct m) J (m+1) 19 107 Tryz.f19 d94
def al2 (x0 x1:List Dt) (x2:Int) (x3:Dt):St:=⟨tsOf [(1,.dat 23 (.lst x0)),(2,.dat 23 (.lst x1)),(3,.ptr 0 [] 0),(7,.dat 3 (.int x2))],[.box 29 (.dat 29 x3)],0⟩
def VH (x0:List Dt) (x1:Int) (x2:List Dt) (x3 x4:Int) (x5:Dt) (x6:List Dt):St:=⟨tsOf [(1,.dat 23 (.lst x0)),(3,.ptr 0 [] 0),(8,.row 1),(9,.dat 3 (.int x1)),(41,.dat 23 (.lst x2)),(42,.dat 3 (.int x3)),(43,.dat 3 (.int x4))],[.box 29 (.dat 29 x5),.row 75 x6],0⟩
def afB (x0:List Dt) (x1 x2:Int) (x3:List Dt) (x4 x5:Int) (x6:Dt) (x7:List Dt):St:=⟨tsOf [(1,.dat 23 (.lst x0)),(3,.ptr 0 [] 0),(8,.row 1),(9,.dat 3 (.int x1)),(13,.dat 3 (.int x2)),(41,.dat 23 (.lst x3)),(42,.dat 3 (.int x4)),(43,.dat 3 (.int x5))],[.box 29 (.dat 29 x6),.row 75 x7],0⟩
def afC (x0:List Dt) (x1 x2:Int) (x3:List Dt) (x4 x5:Int) (x6:Bool) (x7:Dt) (x8:List Dt):St:=⟨tsOf [(1,.dat 23 (.lst x0)),(3,.ptr 0 [] 0),(8,.row 1),(9,.dat 3 (.int x1)),(13,.dat 3 (.int x2)),(41,.dat 23 (.lst x3)),(42,.dat 3 (.int x4)),(43,.dat 3 (.int x5)),(68,.dat 4 (.bool x6))],[.box 29 (.dat 29 x7),.row 75 x8],0⟩
def aaQ (x0:List Dt) (x1:Int) (x2:List Dt) (x3 x4:Int) (x5:List Dt):St:=⟨tsOf [(1,.dat 23 (.lst x0)),(9,.dat 3 (.int x1)),(15,.row 0),(78,.dat 75 (.lst x2)),(79,.dat 3 (.int x3)),(80,.dat 3 (.int x4))],[.row 23 x5],0⟩
abbrev ao7 (m M7:Nat) (rec7:Q40):Prop:=∀x0 x1 x2 x3 x4 x5 x6,l3 jn m ac9 [] M7 (VH x0 x1 x2 x3 x4 x5 x6)=rec7 x0 x1 x2 x3 x4 x5 x6
theorem zZ m M7 rec7 (h7:ao7 m M7 rec7) x0 x1 x2 x3 x4 x5 x6 x7 x8:e3 jn m al1 [M7] (afC x0 x1 x2 x3 x4 x5 x6 x7 x8)=je m rec7 x0 x1 x2 x3 x4 x5 x6 x7 x8:=
 tq (g:=fun J=>(bif x6 then
  ((jj J 1 11 M7 (VH x0 (IntKind.wrap .i64 (x1+1)) x3 x4 (IntKind.wrap .i64 (x5+1)) x7 x8) (l3 J m ac9 [] M7)))
   else
  (((inL x8 x2).bind fun v7=>((x8[(Int.toNat x2)]?).bind fun v8=>((inL x8 x2).bind fun v9=>((x8[(Int.toNat x2)]?).bind fun v10=>((jj J 1 11 M7 (VH x0 x1 x3 x4 (IntKind.wrap .i64 (x5+1)) x7 (List.set x8 (Int.toNat x2) (Dt.int (IntKind.wrap .i64 ((Dt.toInt v8)+1))))) (l3 J m ac9 [] M7)))))))))) (by simp only[aj,h7];rfl)
theorem AQ m M7 rec7 (h7:ao7 m M7 rec7) x0 x1 x2 x3 x4 x5 x6 x7:e3 jn m ajA [M7] (afB x0 x1 x2 x3 x4 x5 x6 x7)=fA m rec7 x0 x1 x2 x3 x4 x5 x6 x7:=
 tq (g:=fun J=>(bif (decide (x2<0)) then
  (jj J 0 18 0 (afC x0 x1 x2 x3 x4 x5 true x6 x7) (e3 J m al1 [M7]))
   else
  (jj J 0 18 0 (afC x0 x1 x2 x3 x4 x5 (decide ((IntKind.wrap .i64 ((List.length x0:Int)-1))≤x2)) x6 x7) (e3 J m al1 [M7])))) (by simp only[aj,zZ m M7 rec7 h7];rfl)
theorem qU m:∀M15 x0 x1 x2 x3 x4 x5,l3 jn m ajz [] M15 (aaQ x0 x1 x2 x3 x4 x5)=jf m M15 x0 x1 x2 x3 x4 x5
 |0,_,_,_,_,_,_=>rfl
 | M15+1,x0,x1,x2,x3,x4,x5=>
   tl (g:=fun J=>(bif (decide (x4<x3)) then
  (((idx x2 x4).bind fun v11=>(bif (decide (0<(Dt.toInt v11))) then((idx x0 x4).bind fun v12=>((aL m v12).bind fun r13=>((fB m r13 (Dt.toInt v11)).bind fun r14=>((app x5 [r14]).bind fun v15=>((jj J 1 23 M15 (aaQ x0 x1 x2 x3 (IntKind.wrap .i64 (x4+1)) v15) (l3 J m ajz [] M15))))))) else((jj J 1 23 M15 (aaQ x0 x1 x2 x3 (IntKind.wrap .i64 (x4+1)) x5) (l3 J m ajz [] M15))))))
   else
  ((bif (decide (0<x1)) then((fB m nC x1).bind fun r16=>((app x5 [r16]).bind fun v17=>(some v17))) else(some x5))))) (by simp only[aj,(qU m M15)];rfl)
theorem sV m:∀M7 x0 x1 x2 x3 x4 x5 x6,l3 jn m ac9 [] M7 (VH x0 x1 x2 x3 x4 x5 x6)=bB m M7 x0 x1 x2 x3 x4 x5 x6
 |0,_,_,_,_,_,_,_=>rfl
 | M7+1,x0,x1,x2,x3,x4,x5,x6=>
   tl (g:=fun J=>(bif (decide (x4<x3)) then
  (((idx x2 x4).bind fun v4=>((expr_Eval m x5 v4).bind fun r5=>((i15 m x0 r5).bind fun r6=>(bif (Bool.not r6.2) then(jj J 0 17 0 (afB x0 x1 (IntKind.wrap .i64 (r6.1-1)) x2 x3 x4 x5 x6) (e3 J m ajA [M7])) else(jj J 0 17 0 (afB x0 x1 r6.1 x2 x3 x4 x5 x6) (e3 J m ajA [M7])))))))
   else
  (((jj J 1 23 (Nat.succ m) (aaQ x0 x1 x6 (List.length x6:Int) 0 []) (l3 J m ajz [] (Nat.succ m))))))) (by simp only[aj,AQ m M7 (bB m M7) (sV m M7),qU m];rfl)
theorem sW m:∀M2 x0 x1 x2 x3,l3 jn m al0 [] M2 (al2 x0 x1 x2 x3)=jR m M2 x0 x1 x2 x3
 |0,_,_,_,_=>rfl
 | M2+1,x0,x1,x2,x3=>
   tl (g:=fun J=>(bif (decide (x2<(List.length x0:Int))) then
  (((idx x0 (IntKind.wrap .i64 (x2-1))).bind fun v0=>((idx x0 x2).bind fun v1=>((ay m v0 v1).bind fun r2=>(bif (decide (0≤r2)) then some [] else((jj J 1 4 M2 (al2 x0 x1 (IntKind.wrap .i64 (x2+1)) x3) (l3 J m al0 [] M2))))))))
   else
  (((mkL (List.length x0:Int) (List.length x0:Int) (Dt.int 0)).bind fun v3=>((jj J 1 11 (Nat.succ m) (VH x0 0 x1 (List.length x1:Int) 0 x3 v3) (l3 J m ac9 [] (Nat.succ m)))))))) (by simp only[aj,(sW m M2),sV m];rfl)
theorem E8 m a0 a1 a2:e3 jn m [] [] ⟨[.dat 29 a0,.dat 23 (.lst a1),.dat 23 (.lst a2)],[],0⟩=gI (m+1) a0 a1 a2:=
 tq (g:=fun J=>(bif (decide ((List.length a1:Int)<2)) then
  some []
   else
  (((jj J 1 4 (Nat.succ m) (al2 a1 a2 1 a0) (l3 J m al0 [] (Nat.succ m))))))) (by simp only[aj,sW m];rfl)
def e0 (J:Q1) (m:Nat):=evAt Tryz.prog env (ct m) J (m+1) 4 37 Tryz.f4 d5
def afD (x0 x1:List Dt) (x2:Bool) (x3:Dt):St:=⟨tsOf [(1,.dat 23 (.lst x0)),(2,.dat 23 (.lst x1)),(3,.ptr 0 [] 0),(23,.dat 4 (.bool x2))],[.box 29 (.dat 29 x3)],0⟩
theorem vZ m x0 x1 x2 x3:e0 jn m [1,0,1] [] (afD x0 x1 x2 x3)=bq m x0 x1 x2 x3:=
 tq (g:=fun J=>(bif x2 then
  ((EC).bind fun r1=>
  some r1)
   else
  (((gI m x3 x0 x1).bind fun r2=>((jM m x3 x0 x1).bind fun r3=>((aZ m r2 r3).bind fun r4=>(bif r4 then((EC).bind fun r5=>some r5) else some false))))))) (by rfl)
theorem zy m a0 a1 a2:e0 jn m [] [] ⟨[.dat 29 a0,.dat 23 (.lst a1),.dat 23 (.lst a2)],[],0⟩=ig (m+1) a0 a1 a2:=
 tq (g:=fun J=>((lM m a2).bind fun r0=>
  (bif (Bool.not r0) then
  (jj J 0 2 0 (afD a1 a2 true a0) (e0 J m [1,0,1] []))
  else
  (bif (decide (30<(List.length a1:Int))) then
  (jj J 0 2 0 (afD a1 a2 true a0) (e0 J m [1,0,1] []))
  else
  ((iH m a0).bind fun r6=>
  (bif (r6 !=0) then
  (jj J 0 2 0 (afD a1 a2 true a0) (e0 J m [1,0,1] []))
  else
  ((i7 m a1).bind fun r7=>
  (jj J 0 2 0 (afD a1 a2 r7 a0) (e0 J m [1,0,1] []))))))))) (by simp only[aj,vZ m];rfl)
end Go.Proofs.YtmecfjhdnbgfeaaGreatDoor
