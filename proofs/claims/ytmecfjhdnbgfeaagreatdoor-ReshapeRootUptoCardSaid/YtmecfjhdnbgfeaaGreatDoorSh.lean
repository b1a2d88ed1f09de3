/- Generated: what the Go functions compute, over plain data. -/
import Derived.Test.YtmecfjhdnbgfeaaGreatDoorA3
import Derived.Test.YtmecfjhdnbgfeaaGreatDoorP1A
import Derived.Test.YtmecfjhdnbgfeaaGreatDoorOK
import Derived.Test.YtmecfjhdnbgfeaaGreatDoorOL
set_option linter.all false
noncomputable section
namespace Go.Proofs.YtmecfjhdnbgfeaaGreatDoor
open Nat (succ)
open IntKind (wrap)
open Go.Am Dt
abbrev Q0:=Nat->Nat->Nat->St->Option Dt->Option Dt
abbrev Q1:=Nat->Nat->Nat->St->Option Bool->Option Bool
abbrev Q2:=Nat->Nat->Nat->St->Option Int->Option Int
abbrev Q3:=Dt->Dt->Dt->Option Dt
abbrev Q4:=Int->Int->Int->List Dt->Option (List Dt)
abbrev Q5:=Dt->Bool->Option Bool
abbrev Q6:=Dt->Dt->List Dt->Option Dt
abbrev Q7:=Dt->Dt->Option Int
abbrev Q8:=Dt->Dt->Option Bool
abbrev Q9:=Dt->Option Bool
abbrev Q10:=Dt->Int->Int->Option (Int×Int)
abbrev Q11:=Dt->Option Dt
abbrev Q12:=Dt->List Dt->Option Dt
abbrev Q13:=Nat->Nat->Nat->St->Option (List Dt)->Option (List Dt)
abbrev Q14:=ByteArray->Int->Option Bool
abbrev Q15:=Dt->Int->Int->Option (Bool×Int×Int)
abbrev Q16:=Int->Int->List Dt->Option (List Dt)
abbrev Q17:=List Dt->List Dt->Int->Dt->Option (List Dt)
abbrev Q18:=List Dt->Option Bool
abbrev Q19:=Dt->Int->Option Int
abbrev Q20:=Bool->Int->Dt->Option Bool
abbrev Q23:=List Dt->Int->Option Bool
abbrev Q24:=Bool->List Dt->Int->Int->Dt->Dt->Option Dt
abbrev Q26:=List Dt->Int->Int->List Dt->Option Bool
abbrev Q27:=Dt->Option (Int×Int×ByteArray×List Dt×List Dt)
abbrev Q28:=List Dt->Int->Int->Dt->Int->Int->ByteArray->List Dt->List Dt->Option Dt
abbrev Q30:=List Dt->Int->Dt->Dt->Option Dt
abbrev Q31:=List Dt->List Dt->Option Bool
abbrev Q32:=ByteArray->Int->Int->Option Bool
abbrev Q33:=Nat->Nat->Nat->St->Option (Int×Int)->Option (Int×Int)
abbrev Q34:=Int->Dt->Dt->Option Int
abbrev Q36:=Int->Dt->Dt->Option Bool
abbrev Q37:=ByteArray->Bool->ByteArray->Int->Option ByteArray
abbrev Q41:=List Dt->Int->Dt->Dt->Int->Int->ByteArray->List Dt->List Dt->Option Dt
abbrev Q43:=List Dt->Int->Int->Dt->List Dt->List Dt->List Dt->List Dt->Option (List Dt)
abbrev Q44:=Int->Int->Dt->Dt->Option Bool
abbrev Q45:=ByteArray->Int->Int->Int->Option Bool
abbrev Q46:=Int->Int->Int->Dt->Option (Int×Int)
abbrev Q48:=Int->Bool->Bool->List Dt->Int->Int->Dt->Option Dt
abbrev Q53:=Nat->Nat->Nat->St->Option (Int×Int×ByteArray×List Dt×List Dt)->Option (Int×Int×ByteArray×List Dt×List Dt)
abbrev Q54:=Nat->Nat->Nat->St->Option (Bool×Int×Int)->Option (Bool×Int×Int)
abbrev Q55:=Nat->Nat->Nat->St->Option (List Dt×Int)->Option (List Dt×Int)
abbrev Q57:=List Dt->Int->Int->Dt->Dt->Int->Int->ByteArray->List Dt->Option Dt
abbrev Q59:=List Dt->List Dt->Int->Int->Dt->Int->Int->ByteArray->List Dt->List Dt->Option Dt
abbrev Q65:=List Dt->Int->Int->Dt->Dt->Int->Int->ByteArray->List Dt->List Dt->Option Dt
abbrev Q73:=List Dt->Int->Dt->Dt->Dt->Dt->Int->Int->ByteArray->List Dt->List Dt->Option Dt
abbrev Q74:=List Dt->List Dt->Int->Int->Bool->Int->Dt->Dt->Option (List Dt)
abbrev Q80:=Dt->List Dt->Int->Int->Dt->Dt->Dt->Int->Int->ByteArray->List Dt->List Dt->Option Dt
abbrev Q81:=Int->List Dt->Int->Int->Int->Option (Int×Int)
abbrev Q82:=List Dt->Int->Int->List Dt->List Dt->Option (List Dt)
abbrev Q83:=List Dt->Dt->Int->Int->Int->Dt->Option (Int×Bool)
abbrev Q86:=Nat->Nat->Nat->St->Option (Int×Bool)->Option (Int×Bool)
abbrev Q87:=Nat->Nat->Nat->St->Option ByteArray->Option ByteArray
abbrev Q88:=Nat->Nat->Nat->St->Option (Dt×Bool)->Option (Dt×Bool)
def DX:Dt:=
 agg [str (ByteArray.mk (List.toArray [])),agg [int 0,int 0,str (ByteArray.mk (List.toArray [])),lst [],lst []]]
def aj:Dt:=
 agg [int 0,int 0,str (ByteArray.mk (List.toArray [])),lst [],lst []]
def pR:Dt:=
 agg [int 2,int 0,str (ByteArray.mk (List.toArray [])),lst [],lst []]
def M7:Dt:=
 agg [int 9,int 0,str (ByteArray.mk (List.toArray [])),lst [],lst []]
def M8:Dt:=
 agg [int 9,int 1,str (ByteArray.mk (List.toArray [])),lst [],lst []]
def M9:Dt:=
 agg [int 5,int 0,str (ByteArray.mk (List.toArray [])),lst [],lst []]
def kS(m:Nat)(a:Q8):Nat->List Dt->List Dt->Int->Int->Option Bool
 |0,_,_,_,_=>none
 |f+1,c,d,e,b=>cond (b<e) ((idx c b).bind fun g=>(idx d b).bind fun h=>(a g h).bind fun i=>cond (!i) (some false) (kS m a f c d e (wrap .i64 (b+1)))) (some true)
def xY(m:Nat)(a:Q8)(b c:List Dt):Option Bool:=
 kS m a (succ m) b c (b.length:Int) 0
def uP(m:Nat)(c:Q31)(b:Q8)(a:Q44)(d e:Int)(f:Bool)(g h:Dt):Option Bool:=
 cond f (some false) (a d (wrap .i64 (e+1)) g h)
def lW(m:Nat)(b:Q31)(a:Q8):Nat->Int->Int->Dt->Dt->Option Bool
 |0,_,_,_,_=>none
 |g+1,f,c,d,e=>bif c<f then(idx (L d 4) c).bind fun h=>(idx (L e 4) c).bind fun i=>cond (!(S h 0).toList==(S i 0).toList) (uP m b a (lW m b a g) f c true d e) ((idx (L d 4) c).bind fun j=>(idx (L e 4) c).bind fun k=>(a (fld j 1) (fld k 1)).bind fun l=>uP m b a (lW m b a g) f c (!l) d e)else(b (L d 3) (L e 3)).bind fun n=>some n
def oW(m:Nat)(b:Q31)(a:Q8)(d:Bool)(c e:Dt):Option Bool:=
 cond d (some false) (lW m b a (succ m) ((L c 4).length:Int) 0 c e)
mutual
def bY:Nat->List Dt->List Dt->Option Bool
 |0,_,_=>none
 |m+1,a,b=>cond ((a.length:Int) !=(b.length:Int)) (some false) (xY m (dO m) a b)
def dO:Nat->Dt->Dt->Option Bool
 |0,_,_=>none
 |m+1,a,b=>cond (I a 0 !=I b 0) (oW m (bY m) (dO m) true a b) (cond (I a 1 !=I b 1) (oW m (bY m) (dO m) true a b) (cond (!(S a 2).toList==(S b 2).toList) (oW m (bY m) (dO m) true a b) (oW m (bY m) (dO m) (((L a 4).length:Int) !=((L b 4).length:Int)) a b)))
end
def ig:Nat->Int->Option Dt
 |0,_=>none
 |m+1,a=>some (agg [int 3,int a,str (ByteArray.mk (List.toArray [])),lst [],lst []])
def kK:Nat->Dt->Int->Option (Int×Int×ByteArray×List Dt×List Dt)
 |0,_,_=>none
 |m+1,a,b=>(ig m b).bind fun c=>some (5,0,ByteArray.mk (List.toArray []),[],[agg [str (ByteArray.mk (List.toArray [95,105,100])),a],agg [str (ByteArray.mk (List.toArray [99,111,117,110,116])),c]])
def Jm(m:Nat):Nat->Int->Int->Int->Int->List Dt->Option (List Dt)
 |0,_,_,_,_,_=>none
 |g+1,c,d,f,a,b=>cond (a<f) ((inL b (wrap .i64 (d+a))).bind fun i=>(b[(wrap .i64 (d+a)).toNat]?).bind fun e=>(inL b (wrap .i64 (c+a))).bind fun j=>(b[(wrap .i64 (c+a)).toNat]?).bind fun h=>(inL b (wrap .i64 (c+a))).bind fun k=>(b[(wrap .i64 (c+a)).toNat]?).bind fun l=>(inL (List.set b (wrap .i64 (c+a)).toNat e) (wrap .i64 (d+a))).bind fun n=>((List.set b (wrap .i64 (c+a)).toNat e)[(wrap .i64 (d+a)).toNat]?).bind fun o=>Jm m g c d f (wrap .i64 (a+1)) (List.set (List.set b (wrap .i64 (c+a)).toNat e) (wrap .i64 (d+a)).toNat h)) (some b)
def i27:Nat->Int->Int->Int->List Dt->Option (List Dt)
 |0,_,_,_,_=>none
 |m+1,a,b,c,d=>Jm m (succ m) a b c 0 d
def Cg(m:Nat):Nat->Int->Int->Int->List Dt->Option (List Dt)
 |0,_,_,_,_=>none
 |e+1,b,a,c,d=>cond (a !=c) (cond (c<a) ((i27 m (wrap .i64 (b-a)) b c d).bind fun f=>Cg m e b (wrap .i64 (a-c)) c f) ((i27 m (wrap .i64 (b-a)) (wrap .i64 (wrap .i64 (b+c)-a)) a d).bind fun g=>Cg m e b a (wrap .i64 (c-a)) g)) ((i27 m (wrap .i64 (b-a)) b a d).bind fun h=>some h)
def i26:Nat->Int->Int->Int->List Dt->Option (List Dt)
 |0,_,_,_,_=>none
 |m+1,b,a,c,d=>Cg m (succ m) a (wrap .i64 (a-b)) (wrap .i64 (c-a)) d
def zh(m:Nat)(b:Q11)(a:Q57)(c:List Dt)(d e:Int)(f g:Dt)(h i:Int)(j:ByteArray)(k:List Dt):Option Dt:=
 a c d (wrap .i64 (e+1)) f g h i j k
def zk(m:Nat)(a:Q11)(b:Q57)(e:List Dt)(f c:Int)(g h:Dt)(i j:Int)(k:ByteArray)(d:List Dt):Option Dt:=
 (idx e c).bind fun l=>(a l).bind fun n=>(inL d c).bind fun o=>(d[c.toNat]?).bind fun p=>zh m a b e f c g h i j k (List.set d c.toNat n)
def zl(m:Nat)(b:Q11)(a:Q28)(c:List Dt)(d e:Int)(f:Dt)(g h:Int)(i:ByteArray)(j k:List Dt):Option Dt:=
 a c d (wrap .i64 (e+1)) f g h i j k
def zn(m:Nat)(a:Q11)(b:Q28)(e:List Dt)(g c:Int)(h:Dt)(i j:Int)(k:ByteArray)(l d:List Dt):Option Dt:=
 (idx e c).bind fun f=>(a (fld f 1)).bind fun n=>(inL d c).bind fun o=>(d[c.toNat]?).bind fun p=>zl m a b e g c h i j k l (List.set d c.toNat (agg [str (S f 0),n]))
def zo(m:Nat)(a:Q11)(g:Dt)(b c:Int)(d:ByteArray)(e f:List Dt):Option Dt:=
 some (agg [int b,int c,str d,lst e,lst f])
def oZ(m:Nat)(a:Q11):Nat->List Dt->Int->Int->Dt->Int->Int->ByteArray->List Dt->List Dt->Option Dt
 |0,_,_,_,_,_,_,_,_,_=>none
 |j+1,k,b,c,d,e,f,g,h,i=>cond (c<b) (zn m a (oZ m a j) k b c d e f g h i) (zo m a d e f g h i)
def Ch(m:Nat)(a:Q11)(f:Dt)(b c:Int)(d:ByteArray)(e:List Dt):Option Dt:=
 some (agg [int b,int c,str d,lst e,lst []])
def zq(m:Nat)(a:Q11)(b c:Dt)(d e:Int)(f:ByteArray)(g:List Dt):Option Dt:=
 cond (0<((L b 4).length:Int)) ((mkL ((L b 4).length:Int) ((L b 4).length:Int) DX).bind fun h=>oZ m a (succ m) (L b 4) ((L b 4).length:Int) 0 c d e f g h) (Ch m a c d e f g)
def lY(m:Nat)(a:Q11):Nat->List Dt->Int->Int->Dt->Dt->Int->Int->ByteArray->List Dt->Option Dt
 |0,_,_,_,_,_,_,_,_,_=>none
 |j+1,k,b,c,d,e,f,g,h,i=>cond (c<b) (zk m a (lY m a j) k b c d e f g h i) (zq m a d e f g h i)
def wM(m:Nat)(b:Q11)(a:Q28)(c:List Dt)(d e:Int)(f:Dt)(g h:Int)(i:ByteArray)(j k:List Dt):Option Dt:=
 a c d (wrap .i64 (e+1)) f g h i j k
def wN(m:Nat)(a:Q11)(b:Q28)(g:List Dt)(h c:Int)(i:Dt)(j k:Int)(l:ByteArray)(n e:List Dt):Option Dt:=
 (idx g c).bind fun d=>(a (fld d 1)).bind fun f=>(inL e c).bind fun o=>(e[c.toNat]?).bind fun p=>wM m a b g h c i j k l n (List.set e c.toNat (agg [str (S d 0),f]))
def wO(m:Nat)(a:Q11)(g:Dt)(b c:Int)(d:ByteArray)(e f:List Dt):Option Dt:=
 some (agg [int b,int c,str d,lst e,lst f])
def mD(m:Nat)(a:Q11):Nat->List Dt->Int->Int->Dt->Int->Int->ByteArray->List Dt->List Dt->Option Dt
 |0,_,_,_,_,_,_,_,_,_=>none
 |b+1,k,c,d,e,f,g,h,i,j=>cond (d<c) (wN m a (mD m a b) k c d e f g h i j) (wO m a e f g h i j)
def Ci(m:Nat)(a:Q11)(c b:Dt):Option Dt:=
 some b
def Cj(m:Nat)(a:Q11)(b e c:Dt):Option Dt:=
 cond (0<((L b 4).length:Int)) ((mkL ((L b 4).length:Int) ((L b 4).length:Int) DX).bind fun d=>mD m a (succ m) (L b 4) ((L b 4).length:Int) 0 e (I c 0) (I c 1) (S c 2) (L c 3) d) (Ci m a e c)
def bR:Nat->Dt->Option Dt
 |0,_=>none
 |m+1,a=>cond (0<((L a 3).length:Int)) ((mkL ((L a 3).length:Int) ((L a 3).length:Int) aj).bind fun b=>lY m (bR m) (succ m) (L a 3) ((L a 3).length:Int) 0 a aj (I a 0) (I a 1) (S a 2) b) (Cj m (bR m) a aj (agg [int (I a 0),int (I a 1),str (S a 2),lst [],lst []]))
def dP:Nat->Int->Int->Option Int
 |0,_,_=>none
 |m+1,a,b=>cond (a<b) (some (-1)) (cond (b<a) (some 1) (some 0))
def qc(m:Nat):Nat->ByteArray->ByteArray->Int->Option Int
 |0,_,_,_=>none
 |e+1,b,c,a=>cond (a<(b.size:Int)) (bif a<(c.size:Int)then(idxS b a).bind fun f=>(idxS c a).bind fun g=>cond (f !=g) ((idxS b a).bind fun h=>(idxS c a).bind fun i=>(dP m (wrap .i64 h) (wrap .i64 i)).bind fun j=>some j) (qc m e b c (wrap .i64 (a+1)))else(dP m (b.size:Int) (c.size:Int)).bind fun d=>some d) ((dP m (b.size:Int) (c.size:Int)).bind fun d=>some d)
def jE:Nat->ByteArray->ByteArray->Option Int
 |0,_,_=>none
 |m+1,a,b=>qc m (succ m) a b 0
def mE(m:Nat)(a:Q7)(b c:Dt):Option Int:=
 (dP m ((L b 3).length:Int) ((L c 3).length:Int)).bind fun d=>some d
def mF(m:Nat)(a:Q7):Nat->Int->Dt->Dt->Option Int
 |0,_,_,_=>none
 |f+1,b,c,d=>cond (b<((L c 3).length:Int)) (bif b<((L d 3).length:Int)then(idx (L c 3) b).bind fun g=>(idx (L d 3) b).bind fun h=>(a g h).bind fun e=>cond (e !=0) (some e) (mF m a f (wrap .i64 (b+1)) c d)else mE m a c d) (mE m a c d)
def uq(m:Nat)(a:Q7)(b:Int)(c d:Dt):Option Int:=
 mF m a (succ m) b c d
def pU(m:Nat)(b:Q7)(a:Q34)(d c:Int)(e f:Dt):Option Int:=
 cond (c !=0) (some c) (a (wrap .i64 (d+1)) e f)
def kU(m:Nat)(a:Q7)(c d:Dt):Option Int:=
 (dP m ((L c 4).length:Int) ((L d 4).length:Int)).bind fun b=>some b
def iC(m:Nat)(a:Q7):Nat->Int->Dt->Dt->Option Int
 |0,_,_,_=>none
 |h+1,b,c,d=>cond (b<((L c 4).length:Int)) (bif b<((L d 4).length:Int)then(idx (L c 4) b).bind fun j=>(idx (L d 4) b).bind fun k=>(jE m (S j 0) (S k 0)).bind fun i=>cond (i==0) ((idx (L c 4) b).bind fun e=>(idx (L d 4) b).bind fun f=>(a (fld e 1) (fld f 1)).bind fun g=>pU m a (iC m a h) b g c d) (pU m a (iC m a h) b i c d)else kU m a c d) (kU m a c d)
def uw(m:Nat)(a:Q7)(b:Int)(c d:Dt):Option Int:=
 iC m a (succ m) b c d
def xZ(m:Nat)(a:Q7):Option Int:=
 some 0
def mG(m:Nat)(a:Q7)(d:Int)(e:Bool)(b c:Dt):Option Int:=
 cond e ((jE m (S b 2) (S c 2)).bind fun f=>some f) (cond (d==6) (uq m a 0 b c) (cond (d==5) (uw m a 0 b c) (xZ m a)))
def mH(m:Nat)(a:Q7)(b:Int)(e:Bool)(c d:Dt):Option Int:=
 cond e ((dP m (I c 1) (I d 1)).bind fun f=>some f) (cond (b==4) (mG m a b (b==4) c d) (cond (b==7) (mG m a b (b==7) c d) (mG m a b (b==8) c d)))
def qI(m:Nat)(a:Q7)(b c:Dt):Option Int:=
 cond (I b 0==3) (mH m a (I b 0) (I b 0==3) b c) (cond (I b 0==9) (mH m a (I b 0) (I b 0==9) b c) (mH m a (I b 0) (I b 0==10) b c))
def bF:Nat->Dt->Dt->Option Int
 |0,_,_=>none
 |m+1,a,b=>cond (I a 0 !=I b 0) ((dP m (I a 0) (I b 0)).bind fun c=>some c) (qI m (bF m) a b)
def ru:Nat->Int->Option Dt
 |0,_=>none
 |m+1,a=>some (agg [int 3,int a,str (ByteArray.mk (List.toArray [])),lst [],lst []])
def o7:Nat->Dt->Int->Option Dt
 |0,_,_=>none
 |m+1,a,b=>(ru m b).bind fun c=>some (agg [int 5,int 0,str (ByteArray.mk (List.toArray [])),lst [],lst [agg [str (ByteArray.mk (List.toArray [95,105,100])),a],agg [str (ByteArray.mk (List.toArray [99,111,117,110,116])),c]]])
def cO:Nat->Option Dt
 |0=>none
 |m+1=>some pR
def cK:Nat->Option Dt
 |0=>none
 |m+1=>some pR
def sI:Nat->Int->Option Bool
 |0,_=>none
 |m+1,a=>some (a !=a)
def eX:Nat->Int->Int->Option Int
 |0,_,_=>none
 |m+1,a,b=>(sI m a).bind fun d=>(sI m b).bind fun c=>cond d (cond c (some 0) (some (-1))) (cond c (some 1) (cond (a<b) (some (-1)) (cond (b<a) (some 1) (some 0))))
def mI(m:Nat)(a:Q7):Nat->Int->Int->Dt->Dt->Option Int
 |0,_,_,_,_=>none
 |g+1,e,b,c,d=>bif b<e then(idx (L c 3) b).bind fun h=>(idx (L d 3) b).bind fun i=>(a h i).bind fun f=>cond (f !=0) (some f) (mI m a g e (wrap .i64 (b+1)) c d)else(eX m ((L c 3).length:Int) ((L d 3).length:Int)).bind fun j=>some j
def uy(m:Nat)(a:Q7)(b c:Int)(d e:Dt):Option Int:=
 mI m a (succ m) b c d e
def mJ(m:Nat)(a:Q7):Nat->Int->Int->Dt->Dt->Option Int
 |0,_,_,_,_=>none
 |k+1,i,b,d,e=>bif b<i then(idx (L d 4) b).bind fun l=>(idx (L e 4) b).bind fun n=>(strings_Compare (S l 0) (S n 0)).bind fun j=>cond (j !=0) (some j) ((idx (L d 4) b).bind fun f=>(idx (L e 4) b).bind fun g=>(a (fld f 1) (fld g 1)).bind fun c=>cond (c !=0) (some c) (mJ m a k i (wrap .i64 (b+1)) d e))else(eX m ((L d 4).length:Int) ((L e 4).length:Int)).bind fun h=>some h
def uz(m:Nat)(a:Q7)(b c:Int)(d e:Dt):Option Int:=
 mJ m a (succ m) b c d e
def yc(m:Nat)(a:Q7):Option Int:=
 some 0
def mK(m:Nat)(a:Q7)(d:Int)(e:Bool)(b c:Dt):Option Int:=
 cond e ((strings_Compare (S b 2) (S c 2)).bind fun f=>some f) (cond (d==6) (uy m a (cond (((L c 3).length:Int)<((L b 3).length:Int)) ((L c 3).length:Int) ((L b 3).length:Int)) 0 b c) (cond (d==5) (uz m a (cond (((L c 4).length:Int)<((L b 4).length:Int)) ((L c 4).length:Int) ((L b 4).length:Int)) 0 b c) (yc m a)))
def mM(m:Nat)(a:Q7)(b:Int)(e:Bool)(c d:Dt):Option Int:=
 cond e ((eX m (I c 1) (I d 1)).bind fun f=>some f) (cond (b==4) (mK m a b (b==4) c d) (cond (b==7) (mK m a b (b==7) c d) (mK m a b (b==8) c d)))
def qJ(m:Nat)(a:Q7)(b c:Dt):Option Int:=
 cond (I b 0==3) (mM m a (I b 0) (I b 0==3) b c) (cond (I b 0==9) (mM m a (I b 0) (I b 0==9) b c) (mM m a (I b 0) (I b 0==10) b c))
def bD:Nat->Dt->Dt->Option Int
 |0,_,_=>none
 |m+1,a,b=>cond (I a 0 !=I b 0) ((eX m (I a 0) (I b 0)).bind fun c=>some c) (qJ m (bD m) a b)
def i16:Nat->Int->Dt->Dt->Option Int
 |0,_,_,_=>none
 |m+1,a,b,c=>(idx (toLst c) a).bind fun d=>(idx (L d 4) 0).bind fun e=>(bD m (fld e 1) b).bind fun f=>some f
def ahL(m:Nat)(a:Q83)(d:List Dt)(e:Dt)(g b c:Int)(f:Dt):Option (Int×Bool):=
 (idx d (wrap .i64 (shrI IntKind.u64 (wrap IntKind.u64 (wrap .i64 (b+c))) 1))).bind fun h=>(i16 m (toInt h) f e).bind fun i=>cond (i<0) (a d e g (wrap .i64 (wrap .i64 (shrI IntKind.u64 (wrap IntKind.u64 (wrap .i64 (b+c))) 1)+1)) c f) (a d e g b (wrap .i64 (shrI IntKind.u64 (wrap IntKind.u64 (wrap .i64 (b+c))) 1)) f)
def ahM(m:Nat)(b:List Dt)(c:Dt)(d a:Int)(e:Dt):Option (Int×Bool):=
 cond (a<d) ((idx b a).bind fun f=>(i16 m (toInt f) e c).bind fun g=>some (a,g==0)) (some (a,false))
def NH(m:Nat):Nat->List Dt->Dt->Int->Int->Int->Dt->Option (Int×Bool)
 |0,_,_,_,_,_,_=>none
 |g+1,b,c,d,a,e,f=>cond (a<e) (ahL m (NH m g) b c d a e f) (ahM m b c d a f)
def ahN(m:Nat)(a:List Dt)(b:Dt)(c d e:Int)(f:Dt):Option (Int×Bool):=
 NH m (succ m) a b c d e f
def i15:Nat->List Dt->Dt->Dt->Option (Int×Bool)
 |0,_,_,_=>none
 |m+1,a,b,c=>ahN m a c (a.length:Int) 0 (a.length:Int) b
def dF:Nat->Dt->Dt->Option Int
 |0,_,_=>none
 |m+1,a,b=>(idx (L b 4) 1).bind fun c=>(idx (L a 4) 1).bind fun d=>(bD m (fld c 1) (fld d 1)).bind fun e=>some e
def Jo(m:Nat)(c:Q4):Nat->Int->Int->Int->Int->List Dt->Option (List Dt)
 |0,_,_,_,_,_=>none
 |h+1,d,e,f,a,b=>cond (d<a) ((inL b a).bind fun q=>(b[a.toNat]?).bind fun i=>(inL b (wrap .i64 (a-1))).bind fun r=>(b[(wrap .i64 (a-1)).toNat]?).bind fun j=>(dF m i j).bind fun k=>cond (k<0) ((inL b (wrap .i64 (a-1))).bind fun s=>(b[(wrap .i64 (a-1)).toNat]?).bind fun g=>(inL b a).bind fun t=>(b[a.toNat]?).bind fun l=>(inL b a).bind fun u=>(b[a.toNat]?).bind fun n=>(inL (List.set b a.toNat g) (wrap .i64 (a-1))).bind fun o=>((List.set b a.toNat g)[(wrap .i64 (a-1)).toNat]?).bind fun p=>Jo m c h d e f (wrap .i64 (a-1)) (List.set (List.set b a.toNat g) (wrap .i64 (a-1)).toNat l)) (c d e (wrap .i64 (f+1)) b)) (c d e (wrap .i64 (f+1)) b)
def AZ(m:Nat):Nat->Int->Int->Int->List Dt->Option (List Dt)
 |0,_,_,_,_=>none
 |d+1,e,b,a,c=>cond (a<b) (Jo m (AZ m d) (succ m) e b a a c) (some c)
def i23:Nat->Int->Int->List Dt->Option (List Dt)
 |0,_,_,_=>none
 |m+1,a,b,c=>AZ m (succ m) a b (wrap .i64 (a+1)) c
def Fx(m:Nat)(c:Q4):Nat->Int->Int->List Dt->Option (List Dt)
 |0,_,_,_=>none
 |f+1,e,a,b=>bif a<wrap .i64 (e-1)then(inL b (wrap .i64 (a+1))).bind fun k=>(b[(wrap .i64 (a+1)).toNat]?).bind fun d=>(inL b a).bind fun l=>(b[a.toNat]?).bind fun g=>(inL b a).bind fun n=>(b[a.toNat]?).bind fun h=>(inL (List.set b a.toNat d) (wrap .i64 (a+1))).bind fun i=>((List.set b a.toNat d)[(wrap .i64 (a+1)).toNat]?).bind fun j=>Fx m c f e (wrap .i64 (a+1)) (List.set (List.set b a.toNat d) (wrap .i64 (a+1)).toNat g)else some b
def VN(m:Nat)(a:Q4)(b c:Int)(d:List Dt):Option (List Dt):=
 Fx m a (succ m) c b d
def Ck(m:Nat)(a:Q4):Nat->Int->Int->Int->List Dt->Option (List Dt)
 |0,_,_,_,_=>none
 |f+1,e,b,d,c=>cond (b<d) ((inL c (wrap .i64 (shrI IntKind.u64 (wrap IntKind.u64 (wrap .i64 (b+d))) 1))).bind fun j=>(c[(wrap .i64 (shrI IntKind.u64 (wrap IntKind.u64 (wrap .i64 (b+d))) 1)).toNat]?).bind fun g=>(inL c e).bind fun k=>(c[e.toNat]?).bind fun h=>(dF m g h).bind fun i=>cond (i<0) (Ck m a f e (wrap .i64 (wrap .i64 (shrI IntKind.u64 (wrap IntKind.u64 (wrap .i64 (b+d))) 1)+1)) d c) (Ck m a f e b (wrap .i64 (shrI IntKind.u64 (wrap IntKind.u64 (wrap .i64 (b+d))) 1)) c)) (VN m a e b c)
def abj(m:Nat)(a:Q4)(b c d:Int)(e:List Dt):Option (List Dt):=
 Ck m a (succ m) b c d e
def A8(m:Nat)(c:Q4):Nat->Int->Int->List Dt->Option (List Dt)
 |0,_,_,_=>none
 |e+1,g,a,b=>cond (g<a) ((inL b (wrap .i64 (a-1))).bind fun h=>(b[(wrap .i64 (a-1)).toNat]?).bind fun d=>(inL b a).bind fun i=>(b[a.toNat]?).bind fun f=>(inL b a).bind fun j=>(b[a.toNat]?).bind fun k=>(inL (List.set b a.toNat d) (wrap .i64 (a-1))).bind fun l=>((List.set b a.toNat d)[(wrap .i64 (a-1)).toNat]?).bind fun n=>A8 m c e g (wrap .i64 (a-1)) (List.set (List.set b a.toNat d) (wrap .i64 (a-1)).toNat f)) (some b)
def Na(m:Nat)(a:Q4)(b c:Int)(d:List Dt):Option (List Dt):=
 A8 m a (succ m) c b d
def yg(m:Nat)(a:Q4):Nat->Int->Int->Int->List Dt->Option (List Dt)
 |0,_,_,_,_=>none
 |e+1,f,b,d,c=>cond (b<d) ((inL c f).bind fun j=>(c[f.toNat]?).bind fun g=>(inL c (wrap .i64 (shrI IntKind.u64 (wrap IntKind.u64 (wrap .i64 (b+d))) 1))).bind fun k=>(c[(wrap .i64 (shrI IntKind.u64 (wrap IntKind.u64 (wrap .i64 (b+d))) 1)).toNat]?).bind fun h=>(dF m g h).bind fun i=>cond (!(i<0)) (yg m a e f (wrap .i64 (wrap .i64 (shrI IntKind.u64 (wrap IntKind.u64 (wrap .i64 (b+d))) 1)+1)) d c) (yg m a e f b (wrap .i64 (shrI IntKind.u64 (wrap IntKind.u64 (wrap .i64 (b+d))) 1)) c)) (Na m a f b c)
def Nb(m:Nat)(a:Q4)(d e f:Int)(g:Bool)(c:List Dt):Option (List Dt):=
 cond g ((a e f d c).bind fun b=>some b) (some c)
def DY(m:Nat)(a:Q4)(c d b:Int)(e:List Dt):Option (List Dt):=
 cond (d<b) (Nb m a c d b (decide (b<c)) e) (Nb m a c d b false e)
def Nc(m:Nat)(a:Q4)(g d b h e:Int)(i:Bool)(f:List Dt):Option (List Dt):=
 cond i ((a g h b f).bind fun c=>DY m a d b e c) (DY m a d b e f)
def He(m:Nat)(a:Q4)(c e d b f:Int)(g:List Dt):Option (List Dt):=
 cond (c<b) (Nc m a c e d b f (decide (b<d)) g) (Nc m a c e d b f false g)
def Nf(m:Nat)(a:Q4)(e i f g b c:Int)(j:Bool)(h:List Dt):Option (List Dt):=
 cond j ((i26 m b i c h).bind fun d=>He m a e f g b c d) (He m a e f g b c h)
def Hf(m:Nat)(a:Q4)(e c f g d b:Int)(h:List Dt):Option (List Dt):=
 cond (b<c) (Nf m a e c f g b (wrap .i64 (d-b)) (decide (c<wrap .i64 (d-b))) h) (Nf m a e c f g b (wrap .i64 (d-b)) false h)
def yh(m:Nat)(a:Q4):Nat->Int->Int->Int->Int->Int->Int->Int->Int->List Dt->Option (List Dt)
 |0,_,_,_,_,_,_,_,_,_=>none
 |e+1,g,h,i,j,k,b,c,f,d=>cond (b<c) ((inL d (wrap .i64 (f-wrap .i64 (shrI IntKind.u64 (wrap IntKind.u64 (wrap .i64 (b+c))) 1)))).bind fun p=>(d[(wrap .i64 (f-wrap .i64 (shrI IntKind.u64 (wrap IntKind.u64 (wrap .i64 (b+c))) 1))).toNat]?).bind fun l=>(inL d (wrap .i64 (shrI IntKind.u64 (wrap IntKind.u64 (wrap .i64 (b+c))) 1))).bind fun q=>(d[(wrap .i64 (shrI IntKind.u64 (wrap IntKind.u64 (wrap .i64 (b+c))) 1)).toNat]?).bind fun n=>(dF m l n).bind fun o=>cond (!(o<0)) (yh m a e g h i j k (wrap .i64 (wrap .i64 (shrI IntKind.u64 (wrap IntKind.u64 (wrap .i64 (b+c))) 1)+1)) c f d) (yh m a e g h i j k b (wrap .i64 (shrI IntKind.u64 (wrap IntKind.u64 (wrap .i64 (b+c))) 1)) f d)) (Hf m a g h i j k b d)
def abk(m:Nat)(a:Q4)(b d c:Int)(e:List Dt):Option (List Dt):=
 cond (wrap .i64 (c-d)==1) (yg m a (succ m) d b d e) (cond (wrap .i64 (shrI IntKind.u64 (wrap IntKind.u64 (wrap .i64 (b+c))) 1)<d) (yh m a (succ m) b d c (wrap .i64 (shrI IntKind.u64 (wrap IntKind.u64 (wrap .i64 (b+c))) 1)) (wrap .i64 (wrap .i64 (shrI IntKind.u64 (wrap IntKind.u64 (wrap .i64 (b+c))) 1)+d)) (wrap .i64 (wrap .i64 (wrap .i64 (shrI IntKind.u64 (wrap IntKind.u64 (wrap .i64 (b+c))) 1)+d)-c)) (wrap .i64 (shrI IntKind.u64 (wrap IntKind.u64 (wrap .i64 (b+c))) 1)) (wrap .i64 (wrap .i64 (wrap .i64 (shrI IntKind.u64 (wrap IntKind.u64 (wrap .i64 (b+c))) 1)+d)-1)) e) (yh m a (succ m) b d c (wrap .i64 (shrI IntKind.u64 (wrap IntKind.u64 (wrap .i64 (b+c))) 1)) (wrap .i64 (wrap .i64 (shrI IntKind.u64 (wrap IntKind.u64 (wrap .i64 (b+c))) 1)+d)) b d (wrap .i64 (wrap .i64 (wrap .i64 (shrI IntKind.u64 (wrap IntKind.u64 (wrap .i64 (b+c))) 1)+d)-1)) e))
def i25:Nat->Int->Int->Int->List Dt->Option (List Dt)
 |0,_,_,_,_=>none
 |m+1,a,b,c,d=>cond (wrap .i64 (b-a)==1) (abj m (i25 m) a b c d) (abk m (i25 m) a b c d)
def Hg(m:Nat)(a:Q16)(b c:Int)(d:List Dt):Option (List Dt):=
 a b (wrap .i64 (c*2)) d
def Jp(m:Nat)(a:Q16):Nat->Int->Int->Int->Int->List Dt->Option (List Dt)
 |0,_,_,_,_,_=>none
 |g+1,c,b,d,e,f=>cond (e<=c) ((i25 m d (wrap .i64 (d+b)) e f).bind fun h=>Jp m a g c b e (wrap .i64 (e+wrap .i64 (2*b))) h) (cond (wrap .i64 (d+b)<c) ((i25 m d (wrap .i64 (d+b)) c f).bind fun i=>Hg m a c b i) (Hg m a c b f))
def zu(m:Nat):Nat->Int->Int->List Dt->Option (List Dt)
 |0,_,_,_=>none
 |d+1,b,a,c=>cond (a<b) (Jp m (zu m d) (succ m) b a 0 (wrap .i64 (2*a)) c) (some c)
def VO(m:Nat)(a b:Int)(c:List Dt):Option (List Dt):=
 zu m (succ m) a b c
def Jq(m:Nat):Nat->Int->Int->Int->Int->List Dt->Option (List Dt)
 |0,_,_,_,_,_=>none
 |f+1,a,c,d,b,e=>cond (b<=a) ((i23 m d b e).bind fun g=>Jq m f a c b (wrap .i64 (b+c)) g) ((i23 m d a e).bind fun h=>VO m a c h)
def i22:Nat->Int->List Dt->Option (List Dt)
 |0,_,_=>none
 |m+1,a,b=>Jq m (succ m) a 20 0 20 b
def i21:Nat->List Dt->Option (List Dt)
 |0,_=>none
 |m+1,a=>(i22 m (a.length:Int) a).bind fun b=>some b
def iM(m:Nat)(a:Q14)(b:ByteArray)(c:Int)(d:Bool):Option Bool:=
 cond d (some false) (a b (wrap .i64 (c+1)))
def iN(m:Nat):Nat->ByteArray->Int->Option Bool
 |0,_,_=>none
 |c+1,a,b=>bif b<(a.size:Int)then(idxS a b).bind fun d=>cond (d<33) (iM m (iN m c) a b true) ((idxS a b).bind fun e=>cond (126<e) (iM m (iN m c) a b true) ((idxS a b).bind fun f=>iM m (iN m c) a b (f==46)))else some true
def iO(m:Nat)(a:ByteArray)(b:Bool):Option Bool:=
 cond b (some false) (iN m (succ m) a 0)
def iE:Nat->ByteArray->Option Bool
 |0,_=>none
 |m+1,a=>cond ((a.size:Int)<1) (iO m a true) (cond (32<(a.size:Int)) (iO m a true) ((idxS a 0).bind fun b=>iO m a (b==36)))
def mO(m:Nat):Nat->List Dt->Int->Option Bool
 |0,_,_=>none
 |c+1,a,b=>bif b<(a.length:Int)then(idx a b).bind fun d=>(iE m (toStr d)).bind fun e=>cond (!e) (some false) (mO m c a (wrap .i64 (b+1)))else some true
def mP(m:Nat)(a:List Dt)(b:Bool):Option Bool:=
 cond b (some false) (mO m (succ m) a 0)
def iV:Nat->List Dt->Option Bool
 |0,_=>none
 |m+1,a=>cond ((a.length:Int)<1) (mP m a true) (mP m a (decide (16<(a.length:Int))))
def mQ(m:Nat)(b:Q8)(a:Q36)(c:Int)(d:Bool)(e f:Dt):Option Bool:=
 cond d (some false) (a (wrap .i64 (c+1)) e f)
def o8(m:Nat)(a:Q8):Nat->Int->Dt->Dt->Option Bool
 |0,_,_,_=>none
 |e+1,b,c,d=>bif b<((L c 4).length:Int)then(idx (L c 4) b).bind fun f=>(idx (L d 4) b).bind fun g=>cond (!(S f 0).toList==(S g 0).toList) (mQ m a (o8 m a e) b true c d) ((idx (L c 4) b).bind fun h=>(idx (L d 4) b).bind fun i=>(a (fld h 1) (fld i 1)).bind fun j=>mQ m a (o8 m a e) b (!j) c d)else some true
def uQ(m:Nat)(a:Q8):Nat->Int->Dt->Dt->Option Bool
 |0,_,_,_=>none
 |e+1,b,c,d=>bif b<((L c 3).length:Int)then(idx (L c 3) b).bind fun f=>(idx (L d 3) b).bind fun g=>(a f g).bind fun h=>cond (!h) (some false) (uQ m a e (wrap .i64 (b+1)) c d)else o8 m a (succ m) 0 c d
def dY(m:Nat)(a:Q8)(b:Bool)(c d:Dt):Option Bool:=
 cond b (some false) (uQ m a (succ m) 0 c d)
def bJ:Nat->Dt->Dt->Option Bool
 |0,_,_=>none
 |m+1,a,b=>cond (I a 0 !=I b 0) (dY m (bJ m) true a b) (cond (I a 1 !=I b 1) (dY m (bJ m) true a b) (cond (!(S a 2).toList==(S b 2).toList) (dY m (bJ m) true a b) (cond (((L a 3).length:Int) !=((L b 3).length:Int)) (dY m (bJ m) true a b) (dY m (bJ m) (((L a 4).length:Int) !=((L b 4).length:Int)) a b))))
def qd(m:Nat)(a:Q23):Nat->List Dt->Int->Int->Option Bool
 |0,_,_,_=>none
 |e+1,b,c,d=>cond (d<c) ((idx b d).bind fun f=>(idx b c).bind fun g=>cond ((toStr f).toList==(toStr g).toList) (some false) (qd m a e b c (wrap .i64 (d+1)))) (a b (wrap .i64 (c+1)))
def jX(m:Nat):Nat->List Dt->Int->Option Bool
 |0,_,_=>none
 |c+1,a,b=>bif b<(a.length:Int)then(idx a b).bind fun d=>(iE m (toStr d)).bind fun e=>cond (!e) (some false) (qd m (jX m c) (succ m) a b 0)else some true
def nK:Nat->List Dt->Option Bool
 |0,_=>none
 |m+1,a=>jX m (succ m) a 0
def gK(m:Nat)(a:Bool):Option Int:=
 cond a (some (-1)) (some 2)
def zw(m:Nat)(a:Int)(b:Bool):Option Int:=
 cond b (some 3) (cond (a==4) (gK m (a==4)) (cond (a==6) (gK m (a==6)) (cond (a==16) (gK m (a==16)) (cond (a==17) (gK m (a==17)) (cond (a==21) (gK m (a==21)) (cond (a==29) (gK m (a==29)) (cond (a==37) (gK m (a==37)) (cond (a==35) (gK m (a==35)) (gK m (a==34))))))))))
def iP(m:Nat)(a:Int)(b:Bool):Option Int:=
 cond b (some 1) (cond (a==19) (zw m a (a==19)) (zw m a (a==25)))
def uR(m:Nat)(a:Int)(b:Bool):Option Int:=
 cond b (some 0) (cond (a==18) (iP m a (a==18)) (cond (a==22) (iP m a (a==22)) (cond (a==23) (iP m a (a==23)) (cond (a==24) (iP m a (a==24)) (cond (a==26) (iP m a (a==26)) (cond (a==30) (iP m a (a==30)) (cond (a==31) (iP m a (a==31)) (iP m a (a==36)))))))))
def qg:Nat->Int->Option Int
 |0,_=>none
 |m+1,a=>cond (a==1) (uR m a (a==1)) (cond (a==2) (uR m a (a==2)) (uR m a (a==3)))
def qh:Nat->Dt->Option Bool
 |0,_=>none
 |m+1,a=>cond (I a 0==0) (cond (I a 1==0) (bif (S a 2).toList==[]then cond (((L a 3).length:Int)==0) (some (((L a 4).length:Int)==0)) (some false)else some false) (some false)) (some false)
def jF(m:Nat)(a:Int)(b:Bool):Option Int:=
 cond b (some 5) (cond (a==35) (some 6) (cond (a==34) (some 7) (some 2)))
def zy(m:Nat)(a:Int)(b:Bool):Option Int:=
 cond b (some 4) (cond (a==4) (jF m a (a==4)) (cond (a==6) (jF m a (a==6)) (cond (a==16) (jF m a (a==16)) (cond (a==17) (jF m a (a==17)) (cond (a==21) (jF m a (a==21)) (cond (a==29) (jF m a (a==29)) (jF m a (a==37))))))))
def zA(m:Nat)(a:Int)(b:Bool):Option Int:=
 cond b (some 3) (cond (a==19) (zy m a (a==19)) (zy m a (a==25)))
def iQ(m:Nat)(a:Int)(b:Bool):Option Int:=
 cond b (some 1) (cond (a==32) (zA m a (a==32)) (zA m a (a==33)))
def uS(m:Nat)(a:Int)(b:Bool):Option Int:=
 cond b (some 0) (cond (a==18) (iQ m a (a==18)) (cond (a==22) (iQ m a (a==22)) (cond (a==23) (iQ m a (a==23)) (cond (a==24) (iQ m a (a==24)) (cond (a==26) (iQ m a (a==26)) (cond (a==30) (iQ m a (a==30)) (cond (a==31) (iQ m a (a==31)) (iQ m a (a==36)))))))))
def qj:Nat->Int->Option Int
 |0,_=>none
 |m+1,a=>cond (a==1) (uS m a (a==1)) (cond (a==2) (uS m a (a==2)) (uS m a (a==3)))
def vP(m:Nat)(a b:Int)(c:Bool):Option Bool:=
 cond c (some (a==2)) (cond (b==4) (some (a==3)) (cond (b==7) (some (decide (1<=a))) (some true)))
def qK:Nat->Int->Int->Option Bool
 |0,_,_=>none
 |m+1,a,b=>cond (a==0) (some (b==0)) (cond (a==1) (some (b==1)) (cond (a==2) (vP m b a (a==2)) (vP m b a (a==3))))
def ou(m:Nat)(a:Q12):Nat->List Dt->List Dt->Int->Int->Dt->Option Dt
 |0,_,_,_,_,_=>none
 |g+1,b,d,e,c,h=>cond (c<e) ((idx d c).bind fun f=>(idx b 0).bind fun i=>cond ((S f 0).toList==(toStr i).toList) ((cutL b 1 (b.length:Int)).bind fun j=>(a (fld f 1) j).bind fun k=>some k) (ou m a g b d e (wrap .i64 (c+1)) h)) (some aj)
def jh(m:Nat)(b:Q12)(a:Q59)(c d:List Dt)(e f:Int)(g:Dt)(h i:Int)(j:ByteArray)(k l:List Dt):Option Dt:=
 a c d e (wrap .i64 (f+1)) g h i j k l
def jo(m:Nat)(a:Q12):Nat->List Dt->List Dt->Int->Int->Dt->Int->Int->ByteArray->List Dt->List Dt->Option Dt
 |0,_,_,_,_,_,_,_,_,_,_=>none
 |k+1,c,d,e,b,l,f,g,h,i,j=>cond (b<e) ((idx d b).bind fun o=>(a o c).bind fun n=>cond (I n 0 !=0) ((app i [n]).bind fun p=>jh m a (jo m a k) c d e b l f g h p j) (jh m a (jo m a k) c d e b l f g h i j)) (some (agg [int f,int g,str h,lst i,lst j]))
def kL(m:Nat)(a:Q12)(c:List Dt)(b d:Dt):Option Dt:=
 cond (I b 0==5) (ou m a (succ m) c (L b 4) ((L b 4).length:Int) 0 d) (cond (I b 0==6) (jo m a (succ m) c (L b 3) ((L b 3).length:Int) 0 d 6 0 (ByteArray.mk (List.toArray [])) [] []) (some aj))
def bZ:Nat->Dt->List Dt->Option Dt
 |0,_,_=>none
 |m+1,a,b=>cond ((b.length:Int)==0) (some a) (kL m (bZ m) b a aj)
def bU:Nat->Int->Option Dt
 |0,_=>none
 |m+1,a=>some (agg [int 3,int a,str (ByteArray.mk (List.toArray [])),lst [],lst []])
def nV:Nat->Dt->Option Dt
 |0,_=>none
 |m+1,a=>cond (I a 0==0) ((cK m).bind fun b=>some b) (some a)
def gB:Nat->Dt->Option Bool
 |0,_=>none
 |m+1,a=>cond (2<I a 0) (cond (I a 0==9) (cond (!I a 1==0) (some true) (some (I a 0==1))) (cond (I a 0==3) (cond (!I a 1==0) (some true) (some (I a 0==1))) (some true))) (some (I a 0==1))
def bW:Nat->Bool->Option Dt
 |0,_=>none
 |m+1,a=>cond a (some M8) (some M7)
def ql(m:Nat):Nat->Int->List Dt->Int->Dt->Option Dt
 |0,_,_,_,_=>none
 |d+1,a,b,c,e=>bif c<(b.length:Int)then(idx b c).bind fun f=>(gB m f).bind fun g=>cond (g==(a==17)) ((bW m (a==17)).bind fun h=>some h) (ql m d a b (wrap .i64 (c+1)) e)else(bW m (a==16)).bind fun i=>some i
def nL:Nat->Int->List Dt->Option Dt
 |0,_,_=>none
 |m+1,a,b=>ql m (succ m) a b 0 aj
def dX:Nat->Int->Option Dt
 |0,_=>none
 |m+1,a=>some (agg [int 3,int a,str (ByteArray.mk (List.toArray [])),lst [],lst []])
def mR(m:Nat)(a:Q37)(d:ByteArray)(e:Bool)(b:ByteArray)(f c:Int):Option ByteArray:=
 cond (Nat.ble (b.size+(strOfNums [c]).size) 1152921504606846976) (a d e (b++strOfNums [c]) (wrap .i64 (f+1))) none
def gF(m:Nat)(a:Q37)(b:ByteArray)(c:Bool)(d:ByteArray)(e f:Int)(g:Bool):Option ByteArray:=
 cond g (mR m a b c d e (wrap IntKind.u8 (f+32))) (mR m a b c d e f)
def iF(m:Nat)(a:Q37)(d:ByteArray)(c:Bool)(e:ByteArray)(f b:Int):Option ByteArray:=
 cond (!c) (cond (65<=b) (gF m a d c e f b (decide (b<=90))) (gF m a d c e f b false)) (gF m a d c e f b false)
def gG(m:Nat)(a:Q37)(b:ByteArray)(c:Bool)(d:ByteArray)(e f:Int)(g:Bool):Option ByteArray:=
 cond g (iF m a b c d e (wrap IntKind.u8 (f-32))) (iF m a b c d e f)
def uD(m:Nat)(a:Q37)(c:ByteArray)(d:Bool)(f:ByteArray)(e:Int):Option ByteArray:=
 (idxS c e).bind fun b=>cond d (cond (97<=b) (gG m a c d f e b (decide (b<=122))) (gG m a c d f e b false)) (gG m a c d f e b false)
def jP(m:Nat):Nat->ByteArray->Bool->ByteArray->Int->Option ByteArray
 |0,_,_,_,_=>none
 |d+1,a,e,b,c=>cond (c<(a.size:Int)) (uD m (jP m d) a e b c) (some b)
def gL:Nat->ByteArray->Bool->Option ByteArray
 |0,_,_=>none
 |m+1,a,b=>jP m (succ m) a b (ByteArray.mk (List.toArray [])) 0
def jY:Nat->ByteArray->Option Dt
 |0,_=>none
 |m+1,a=>some (agg [int 4,int 0,str a,lst [],lst []])
def qm(m:Nat)(a b:Int)(c f:Dt):Option Dt:=
 (cutS (S c 2) a (wrap .i64 (a+b))).bind fun d=>(jY m d).bind fun e=>some e
def qo(m:Nat)(a:Int)(b c d:Dt):Option Dt:=
 cond (wrap .i64 (((S b 2).size:Int)-a)<I c 1) (qm m a (wrap .i64 (((S b 2).size:Int)-a)) b d) (qm m a (I c 1) b d)
def wP(m:Nat)(a b c d:Dt):Option Dt:=
 cond (((S a 2).size:Int)<I b 1) (qo m ((S a 2).size:Int) a c d) (qo m (I b 1) a c d)
def jZ(m:Nat)(a:Bool)(b c d e:Dt):Option Dt:=
 cond a ((cK m).bind fun f=>some f) (wP m b c d e)
def nM:Nat->Dt->Dt->Dt->Option Dt
 |0,_,_,_=>none
 |m+1,c,a,b=>cond (I c 0 !=4) (jZ m true c a b aj) (cond (I a 0 !=3) (jZ m true c a b aj) (cond (I b 0 !=3) (jZ m true c a b aj) (cond (I a 1<0) (jZ m true c a b aj) (jZ m (decide (I b 1<0)) c a b aj))))
def o9(m:Nat):Nat->Int->Int->Int->Dt->Dt->Int->Int->ByteArray->List Dt->List Dt->Option Dt
 |0,_,_,_,_,_,_,_,_,_,_=>none
 |i+1,c,d,b,a,j,e,f,g,k,h=>bif b<((L a 3).length:Int)then(idx (L a 3) (wrap .i64 (wrap .i64 (((L a 3).length:Int)-1)-b))).bind fun n=>(app k [n]).bind fun l=>(idx (L a 3) b).bind fun o=>cond (I o 0==3) ((idx (L a 3) b).bind fun p=>o9 m i c (wrap .i64 (d+I p 1)) (wrap .i64 (b+1)) a j e f g l h) (o9 m i c d (wrap .i64 (b+1)) a j e f g l h)else cond (c==31) ((dX m d).bind fun q=>some q) (some (agg [int e,int f,str g,lst k,lst h]))
def lZ:Nat->Int->Dt->Option Dt
 |0,_,_=>none
 |m+1,b,a=>cond (I a 0 !=6) ((cK m).bind fun c=>some c) (cond (b==26) ((dX m ((L a 3).length:Int)).bind fun d=>some d) (o9 m (succ m) b 0 0 a aj 6 0 (ByteArray.mk (List.toArray [])) [] []))
def qL(m:Nat)(a:Int)(b:Bool)(c e:Dt):Option Dt:=
 cond b (some aj) ((idx (L c 3) a).bind fun d=>some d)
def mU(m:Nat)(a:Int)(b c:Dt):Option Dt:=
 cond (a<0) (qL m a true b c) (qL m a (decide (((L b 3).length:Int)<=a)) b c)
def uE(m:Nat)(a b c:Dt):Option Dt:=
 cond (I b 1<0) (mU m (wrap .i64 (I b 1+((L a 3).length:Int))) a c) (mU m (I b 1) a c)
def qM(m:Nat)(a:Bool)(b c d:Dt):Option Dt:=
 cond a ((cK m).bind fun e=>some e) (uE m b c d)
def jG:Nat->Dt->Dt->Option Dt
 |0,_,_=>none
 |m+1,a,b=>cond (I a 0 !=6) (qM m true a b aj) (qM m (I b 0 !=3) a b aj)
def dZ:Nat->Int->Dt->Dt->Option Dt
 |0,_,_,_=>none
 |m+1,b,c,d=>(bF m c d).bind fun a=>cond (b==10) ((bW m (a==0)).bind fun e=>some e) (cond (b==11) ((bW m (a !=0)).bind fun f=>some f) (cond (b==12) ((bW m (decide (0<a))).bind fun g=>some g) (cond (b==13) ((bW m (decide (0<=a))).bind fun h=>some h) (cond (b==14) ((bW m (decide (a<0))).bind fun i=>some i) (cond (b==15) ((bW m (decide (a<=0))).bind fun j=>some j) ((dX m a).bind fun k=>some k))))))
def mV(m:Nat):Nat->Int->Dt->List Dt->Option (List Dt)
 |0,_,_,_=>none
 |d+1,a,b,c=>cond (a<((L b 4).length:Int)) ((idx (L b 4) a).bind fun e=>(app c [fld e 1]).bind fun f=>mV m d (wrap .i64 (a+1)) b f) (some c)
def mW(m:Nat)(a:Dt)(b:List Dt):Option (List Dt):=
 cond (I a 0==5) (mV m (succ m) 0 a b) (some b)
def mX(m:Nat):Nat->Int->Dt->List Dt->Option (List Dt)
 |0,_,_,_=>none
 |d+1,b,a,c=>cond (b<((L a 3).length:Int)) ((idx (L a 3) b).bind fun e=>(app c [e]).bind fun f=>mX m d (wrap .i64 (b+1)) a f) (mW m a c)
def kW:Nat->Dt->Option (List Dt)
 |0,_=>none
 |m+1,a=>cond (I a 0==6) (mX m (succ m) 0 a []) (mW m a [])
def kM(m:Nat)(a:Q19):Nat->Int->List Dt->Int->Int->Option Int
 |0,_,_,_,_=>none
 |g+1,e,b,c,d=>bif d<(b.length:Int)then(idx b d).bind fun h=>(a h (wrap .i64 (e-1))).bind fun f=>kM m a g e b (cond (c<f) f c) (wrap .i64 (d+1))else some (wrap .i64 (c+1))
def iq(m:Nat)(a:Q19)(b:Int)(c:List Dt)(d:Bool):Option Int:=
 cond d (some 1) (kM m a (succ m) b c 0 0)
def eP:Nat->Dt->Int->Option Int
 |0,_,_=>none
 |m+1,c,a=>(kW m c).bind fun b=>cond (a<2) (iq m (eP m) a b true) (iq m (eP m) a b ((b.length:Int)==0))
def nN:Nat->Dt->Option Int
 |0,_=>none
 |m+1,a=>(eP m a 17).bind fun b=>some b
def qp(m:Nat)(a:Q19):Nat->Int->Int->List Dt->Int->Option Int
 |0,_,_,_,_=>none
 |f+1,c,b,d,e=>cond (e<(d.length:Int)) (cond (b<c) ((idx d e).bind fun g=>(a g (wrap .i64 (c-b))).bind fun h=>qp m a f c (wrap .i64 (b+h)) d (wrap .i64 (e+1))) (some b)) (some b)
def iW:Nat->Dt->Int->Option Int
 |0,_,_=>none
 |m+1,a,b=>(kW m a).bind fun c=>qp m (iW m) (succ m) b 1 c 0
def nO:Nat->Dt->Option Int
 |0,_=>none
 |m+1,a=>(iW m a 1025).bind fun b=>some b
def uU(m:Nat)(a:Q45)(b:ByteArray)(c d e:Int):Option Bool:=
 a b c d (wrap .i64 (e+1))
def pq(m:Nat)(a:Q45)(b:ByteArray)(c d e:Int)(f:Bool):Option Bool:=
 cond f (some false) (uU m a b c d e)
def uV(m:Nat)(a:Q45)(b:ByteArray)(c e d:Int):Option Bool:=
 (idxS b (wrap .i64 (c+d))).bind fun f=>cond (f<128) (pq m a b c e d true) ((idxS b (wrap .i64 (c+d))).bind fun g=>pq m a b c e d (decide (191<g)))
def uW(m:Nat):Option Bool:=
 some true
def pz(m:Nat):Nat->ByteArray->Int->Int->Int->Option Bool
 |0,_,_,_,_=>none
 |c+1,d,e,a,b=>cond (b<a) (uV m (pz m c) d e a b) (uW m)
def uX(m:Nat)(a:ByteArray)(b c d:Int):Option Bool:=
 pz m (succ m) a b c d
def uY(m:Nat)(a:ByteArray)(b c:Int):Option Bool:=
 uX m a b c 0
def rY:Nat->ByteArray->Int->Int->Option Bool
 |0,_,_,_=>none
 |m+1,a,b,c=>cond ((a.size:Int)<wrap .i64 (b+c)) (some false) (uY m a b c)
def E8(m:Nat)(a:Q14)(b:ByteArray)(c d:Int):Option Bool:=
 a b (wrap .i64 (wrap .i64 (c+d)+1))
def bS(m:Nat)(a:Q14)(b:ByteArray)(c d:Int)(e:Bool):Option Bool:=
 cond e (some false) (E8 m a b c d)
def zB(m:Nat)(a:Q14)(b:ByteArray)(c e d:Int):Option Bool:=
 cond (e==224) ((idxS b (wrap .i64 (c+1))).bind fun n=>cond (n<160) (bS m a b c d true) (cond (e==237) ((idxS b (wrap .i64 (c+1))).bind fun o=>cond (159<o) (bS m a b c d true) (cond (e==240) ((idxS b (wrap .i64 (c+1))).bind fun p=>cond (p<144) (bS m a b c d true) (cond (e==244) ((idxS b (wrap .i64 (c+1))).bind fun q=>bS m a b c d (decide (143<q))) (bS m a b c d false))) (cond (e==244) ((idxS b (wrap .i64 (c+1))).bind fun r=>bS m a b c d (decide (143<r))) (bS m a b c d false)))) (cond (e==240) ((idxS b (wrap .i64 (c+1))).bind fun s=>cond (s<144) (bS m a b c d true) (cond (e==244) ((idxS b (wrap .i64 (c+1))).bind fun t=>bS m a b c d (decide (143<t))) (bS m a b c d false))) (cond (e==244) ((idxS b (wrap .i64 (c+1))).bind fun u=>bS m a b c d (decide (143<u))) (bS m a b c d false))))) (cond (e==237) ((idxS b (wrap .i64 (c+1))).bind fun f=>cond (159<f) (bS m a b c d true) (cond (e==240) ((idxS b (wrap .i64 (c+1))).bind fun g=>cond (g<144) (bS m a b c d true) (cond (e==244) ((idxS b (wrap .i64 (c+1))).bind fun h=>bS m a b c d (decide (143<h))) (bS m a b c d false))) (cond (e==244) ((idxS b (wrap .i64 (c+1))).bind fun i=>bS m a b c d (decide (143<i))) (bS m a b c d false)))) (cond (e==240) ((idxS b (wrap .i64 (c+1))).bind fun j=>cond (j<144) (bS m a b c d true) (cond (e==244) ((idxS b (wrap .i64 (c+1))).bind fun k=>bS m a b c d (decide (143<k))) (bS m a b c d false))) (cond (e==244) ((idxS b (wrap .i64 (c+1))).bind fun l=>bS m a b c d (decide (143<l))) (bS m a b c d false))))
def l8(m:Nat)(a:Q14)(b:ByteArray)(c e d:Int):Option Bool:=
 (rY m b (wrap .i64 (c+1)) d).bind fun f=>cond (!f) (some false) (zB m a b c e d)
def uZ(m:Nat)(a:Q14)(b:ByteArray)(c d:Int)(e:Bool):Option Bool:=
 cond e (l8 m a b c d 3) (some false)
def u6(m:Nat)(a:Q14)(c:ByteArray)(d b:Int)(e:Bool):Option Bool:=
 cond e (l8 m a c d b 2) (cond (240<=b) (uZ m a c d b (decide (b<=244))) (uZ m a c d b false))
def u7(m:Nat)(a:Q14)(c:ByteArray)(d b:Int)(e:Bool):Option Bool:=
 cond e (l8 m a c d b 1) (cond (224<=b) (u6 m a c d b (decide (b<=239))) (u6 m a c d b false))
def zC(m:Nat)(a:Q14)(c:ByteArray)(d:Int):Option Bool:=
 (idxS c d).bind fun b=>cond (b<128) (l8 m a c d b 0) (cond (194<=b) (u7 m a c d b (decide (b<=223))) (u7 m a c d b false))
def Cm(m:Nat):Option Bool:=
 some true
def jH(m:Nat):Nat->ByteArray->Int->Option Bool
 |0,_,_=>none
 |c+1,a,b=>cond (b<(a.size:Int)) (zC m (jH m c) a b) (Cm m)
def rZ:Nat->ByteArray->Option Bool
 |0,_=>none
 |m+1,a=>jH m (succ m) a 0
def jI(m:Nat)(a:Q14)(b:ByteArray)(c:Int)(d:Bool):Option Bool:=
 cond d (some false) (a b (wrap .i64 (c+1)))
def jJ(m:Nat):Nat->ByteArray->Int->Option Bool
 |0,_,_=>none
 |c+1,a,b=>bif b<(a.size:Int)then(idxS a b).bind fun d=>cond (d<32) (jI m (jJ m c) a b true) ((idxS a b).bind fun e=>jI m (jJ m c) a b (decide (126<e)))else some true
def jK(m:Nat)(a:ByteArray)(b:Bool):Option Bool:=
 cond b (some false) (jJ m (succ m) a 0)
def nW:Nat->ByteArray->Option Bool
 |0,_=>none
 |m+1,a=>cond ((a.size:Int)<1) (jK m a true) (jK m a (decide (128<(a.size:Int))))
def ow(m:Nat)(a:Q5)(b:Q5):Nat->Bool->Int->Dt->Option Bool
 |0,_,_,_=>none
 |f+1,d,e,c=>bif e<((L c 3).length:Int)then(idx (L c 3) e).bind fun g=>(a g d).bind fun h=>cond (!h) (some false) (ow m a b f d (wrap .i64 (e+1)) c)else(b c d).bind fun i=>some i
def Bz(m:Nat)(a:Q5)(b:Q5)(c:Bool)(d:Dt):Option Bool:=
 ow m a b (succ m) c 0 d
def rU(m:Nat)(b:Q5)(c:Q5)(d:Bool)(a:Dt):Option Bool:=
 cond (I a 0==9) (cond (I a 1==0) (some true) (some (I a 1==1))) (cond (I a 0==10) (some (decide (0<=I a 1))) (cond (I a 0==4) (cond (((S a 2).size:Int)<=4096) ((rZ m (S a 2)).bind fun e=>some e) (some false)) (cond (I a 0==7) (some (decide (((S a 2).size:Int)<=4096))) (cond (I a 0==8) (some (((S a 2).size:Int)==12)) (Bz m b c d a)))))
def dL(m:Nat)(a:Q5)(b:Q5)(c d:Bool)(e:Dt):Option Bool:=
 cond d (some false) (rU m a b c e)
def jr(m:Nat)(a:Q5)(b:Q5)(d f e:Bool)(c:Dt):Option Bool:=
 cond (!f) (cond (!(S c 2).toList==[]) (dL m a b d true c) (cond (!e) (cond (I c 1 !=0) (dL m a b d true c) (cond (I c 0<1) (dL m a b d true c) (dL m a b d (decide (11<I c 0)) c))) (cond (I c 0<1) (dL m a b d true c) (dL m a b d (decide (11<I c 0)) c)))) (cond (!e) (cond (I c 1 !=0) (dL m a b d true c) (cond (I c 0<1) (dL m a b d true c) (dL m a b d (decide (11<I c 0)) c))) (cond (I c 0<1) (dL m a b d true c) (dL m a b d (decide (11<I c 0)) c)))
def jv(m:Nat)(a:Q5)(b:Q5)(d e:Bool)(c:Dt):Option Bool:=
 cond (I c 0==3) (jr m a b d e true c) (cond (I c 0==9) (jr m a b d e true c) (jr m a b d e (I c 0==10) c))
def rV(m:Nat)(a:Q5)(b:Q5)(d:Bool)(c:Dt):Option Bool:=
 cond (I c 0==4) (jv m a b d true c) (cond (I c 0==7) (jv m a b d true c) (jv m a b d (I c 0==8) c))
def jw(m:Nat)(a:Q5)(b:Q5)(c d:Bool)(e:Dt):Option Bool:=
 cond d (some false) (rV m a b c e)
def kN(m:Nat)(a:Q5)(b:Q20):Nat->Bool->Int->Int->Dt->Dt->Option Bool
 |0,_,_,_,_,_=>none
 |h+1,f,c,d,e,g=>cond (d<c) ((idx (L e 4) d).bind fun i=>cond ((S i 0).toList==(S g 0).toList) (some false) (kN m a b h f c (wrap .i64 (d+1)) e g)) (b f (wrap .i64 (c+1)) e)
def dV(m:Nat)(a:Q5)(b:Q20)(c:Bool)(d:Int)(e:Bool)(f g:Dt):Option Bool:=
 cond e (some false) (kN m a b (succ m) c d 0 f g)
def dH(m:Nat)(a:Q5):Nat->Bool->Int->Dt->Option Bool
 |0,_,_,_=>none
 |f+1,b,d,e=>bif d<((L e 4).length:Int)then(idx (L e 4) d).bind fun c=>cond b ((iE m (S c 0)).bind fun g=>cond (!g) (dV m a (dH m a f) b d true e c) (bif !b then(nW m (S c 0)).bind fun h=>cond (!h) (dV m a (dH m a f) b d true e c) ((a (fld c 1) b).bind fun i=>dV m a (dH m a f) b d (!i) e c)else(a (fld c 1) b).bind fun j=>dV m a (dH m a f) b d (!j) e c)) (bif !b then(nW m (S c 0)).bind fun k=>cond (!k) (dV m a (dH m a f) b d true e c) ((a (fld c 1) b).bind fun l=>dV m a (dH m a f) b d (!l) e c)else(a (fld c 1) b).bind fun n=>dV m a (dH m a f) b d (!n) e c)else some true
mutual
def bH:Nat->Dt->Bool->Option Bool
 |0,_,_=>none
 |m+1,a,b=>cond (I a 0 !=6) (cond (0<((L a 3).length:Int)) (jw m (bH m) (dD m) b true a) (cond (I a 0 !=5) (jw m (bH m) (dD m) b (decide (0<((L a 4).length:Int))) a) (jw m (bH m) (dD m) b false a))) (cond (I a 0 !=5) (jw m (bH m) (dD m) b (decide (0<((L a 4).length:Int))) a) (jw m (bH m) (dD m) b false a))
def dD:Nat->Dt->Bool->Option Bool
 |0,_,_=>none
 |m+1,a,b=>dH m (bH m) (succ m) b 0 a
end
def iX:Nat->Dt->Option Bool
 |0,_=>none
 |m+1,a=>(nN m a).bind fun b=>cond (b<=16) ((nO m a).bind fun c=>cond (c<=1024) ((bH m a true).bind fun d=>some d) (some false)) (some false)
def l9:Nat->Dt->Option Bool
 |0,_=>none
 |m+1,a=>cond (I a 0 !=5) (some true) ((iX m a).bind fun b=>some (!b))
def NI(m:Nat):Nat->List Dt->Int->Int->Option Int
 |0,_,_,_=>none
 |d+1,b,c,a=>cond (a<c) ((idx b a).bind fun e=>(l9 m e).bind fun f=>cond f (some a) (NI m d b c (wrap .i64 (a+1)))) (some (-1))
def i10:Nat->List Dt->Option Int
 |0,_=>none
 |m+1,a=>NI m (succ m) a (a.length:Int) 0
def i9:Nat->List Dt->Option Bool
 |0,_=>none
 |m+1,a=>(i10 m a).bind fun b=>some (decide (0<=b))
def nP:Nat->List Dt->Option Bool
 |0,_=>none
 |m+1,a=>bif (a.length:Int)<=30 then(i9 m a).bind fun b=>some (!b)else some false
def bC(m:Nat)(a:Bool):Option Int:=
 cond a (some 4) (some 0)
def zD(m:Nat)(b:Bool)(a:Dt):Option Int:=
 cond (I a 0 !=2) (cond (I a 0 !=3) (cond (0<((L a 1).length:Int)) (bC m true) (cond (!b) (cond (!(S a 2).toList==[]) (bC m true) (cond (I a 0 !=34) (cond (0<((L a 3).length:Int)) (bC m true) (cond (I a 0 !=1) ((bJ m (fld a 4) aj).bind fun h=>cond (!h) (bC m true) (bC m (I a 5 !=0))) (bC m (I a 5 !=0)))) (cond (I a 0 !=1) ((bJ m (fld a 4) aj).bind fun i=>cond (!i) (bC m true) (bC m (I a 5 !=0))) (bC m (I a 5 !=0))))) (cond (I a 0 !=34) (cond (0<((L a 3).length:Int)) (bC m true) (cond (I a 0 !=1) ((bJ m (fld a 4) aj).bind fun j=>cond (!j) (bC m true) (bC m (I a 5 !=0))) (bC m (I a 5 !=0)))) (cond (I a 0 !=1) ((bJ m (fld a 4) aj).bind fun k=>cond (!k) (bC m true) (bC m (I a 5 !=0))) (bC m (I a 5 !=0)))))) (cond (!b) (cond (!(S a 2).toList==[]) (bC m true) (cond (I a 0 !=34) (cond (0<((L a 3).length:Int)) (bC m true) (cond (I a 0 !=1) ((bJ m (fld a 4) aj).bind fun l=>cond (!l) (bC m true) (bC m (I a 5 !=0))) (bC m (I a 5 !=0)))) (cond (I a 0 !=1) ((bJ m (fld a 4) aj).bind fun n=>cond (!n) (bC m true) (bC m (I a 5 !=0))) (bC m (I a 5 !=0))))) (cond (I a 0 !=34) (cond (0<((L a 3).length:Int)) (bC m true) (cond (I a 0 !=1) ((bJ m (fld a 4) aj).bind fun o=>cond (!o) (bC m true) (bC m (I a 5 !=0))) (bC m (I a 5 !=0)))) (cond (I a 0 !=1) ((bJ m (fld a 4) aj).bind fun c=>cond (!c) (bC m true) (bC m (I a 5 !=0))) (bC m (I a 5 !=0)))))) (cond (!b) (cond (!(S a 2).toList==[]) (bC m true) (cond (I a 0 !=34) (cond (0<((L a 3).length:Int)) (bC m true) (cond (I a 0 !=1) ((bJ m (fld a 4) aj).bind fun d=>cond (!d) (bC m true) (bC m (I a 5 !=0))) (bC m (I a 5 !=0)))) (cond (I a 0 !=1) ((bJ m (fld a 4) aj).bind fun e=>cond (!e) (bC m true) (bC m (I a 5 !=0))) (bC m (I a 5 !=0))))) (cond (I a 0 !=34) (cond (0<((L a 3).length:Int)) (bC m true) (cond (I a 0 !=1) ((bJ m (fld a 4) aj).bind fun f=>cond (!f) (bC m true) (bC m (I a 5 !=0))) (bC m (I a 5 !=0)))) (cond (I a 0 !=1) ((bJ m (fld a 4) aj).bind fun g=>cond (!g) (bC m true) (bC m (I a 5 !=0))) (bC m (I a 5 !=0)))))
def vg(m:Nat)(a b:Bool)(c:Dt):Option Int:=
 cond b (some 8) (zD m a c)
def zF(m:Nat)(b:Bool)(a:Dt):Option Int:=
 cond (I a 0==1) ((iX m (fld a 4)).bind fun c=>vg m b (!c) a) (vg m b false a)
def mh(m:Nat)(a b:Bool)(c:Dt):Option Int:=
 cond b (some 9) (zF m a c)
def pF(m:Nat)(b:Bool)(a:Dt):Option Int:=
 cond b ((iE m (S a 2)).bind fun e=>cond (!e) (mh m b true a) (cond (I a 0==34) ((nK m (L a 3)).bind fun c=>mh m b (!c) a) (mh m b false a))) (cond (I a 0==34) ((nK m (L a 3)).bind fun d=>mh m b (!d) a) (mh m b false a))
def iR(m:Nat)(b:Bool)(a:Dt):Option Int:=
 cond b (some 10) (cond (I a 0==3) (pF m true a) (cond (I a 0==32) (pF m true a) (pF m (I a 0==33) a)))
def zG(m:Nat)(a:Dt):Option Int:=
 cond (I a 0==2) ((iV m (L a 1)).bind fun d=>cond (!d) (iR m true a) (cond (I a 0==3) (cond (0<((L a 1).length:Int)) ((iV m (L a 1)).bind fun b=>iR m (!b) a) (iR m false a)) (iR m false a))) (cond (I a 0==3) (cond (0<((L a 1).length:Int)) ((iV m (L a 1)).bind fun c=>iR m (!c) a) (iR m false a)) (iR m false a))
def fM(m:Nat)(a:Bool)(b:Dt):Option Int:=
 cond a (some 11) (zG m b)
def r9:Nat->Dt->Option Int
 |0,_=>none
 |m+1,a=>cond (I a 0<1) (fM m true a) (cond (37<I a 0) (fM m true a) ((qg m (I a 0)).bind fun b=>cond (0<=b) ((qg m (I a 0)).bind fun c=>cond (((L a 6).length:Int) !=c) (fM m true a) (cond (I a 0==34) (cond (((L a 6).length:Int) !=((L a 3).length:Int)) (fM m true a) (fM m (((L a 6).length:Int)==0) a)) (fM m false a))) (cond (I a 0==34) (cond (((L a 6).length:Int) !=((L a 3).length:Int)) (fM m true a) (fM m (((L a 6).length:Int)==0) a)) (fM m false a))))
def wQ(m:Nat)(b:Q10)(a:Q46)(c d e:Int)(f:Dt):Option (Int×Int):=
 a e c (wrap .i64 (d+1)) f
def mY(m:Nat)(a:Q10):Nat->Int->Int->Int->Dt->Option (Int×Int)
 |0,_,_,_,_=>none
 |g+1,e,f,c,d=>bif c<((L d 6).length:Int)then(idx (L d 6) c).bind fun h=>(a h (wrap .i64 (e+1)) (wrap .i64 (f+1))).bind fun b=>cond (b.2 !=0) (some (b.1,b.2)) (wQ m a (mY m a g) f c b.1 d)else some (e,0)
def sS(m:Nat)(a:Q10)(b e:Int)(f:Bool)(c:Dt):Option (Int×Int):=
 cond f (some (b,2)) ((r9 m c).bind fun d=>cond (d !=0) (some (b,d)) (mY m a (succ m) b e 0 c))
def fJ:Nat->Dt->Int->Int->Option (Int×Int)
 |0,_,_,_=>none
 |m+1,c,a,b=>cond (16<b) (sS m (fJ m) a b true c) (sS m (fJ m) a b (decide (256<a)) c)
def jL:Nat->Dt->Option Int
 |0,_=>none
 |m+1,a=>(fJ m a 1 1).bind fun b=>some b.2
def oz(m:Nat)(a:Q32)(b:ByteArray)(c d:Int)(e:Bool):Option Bool:=
 cond e (some true) (a b c (wrap .i64 (d+1)))
def fT(m:Nat):Nat->ByteArray->Int->Int->Option Bool
 |0,_,_,_=>none
 |d+1,b,c,a=>cond (a<c) ((idxS b a).bind fun e=>cond (e<33) (oz m (fT m d) b c a true) ((idxS b a).bind fun f=>cond (126<f) (oz m (fT m d) b c a true) ((idxS b a).bind fun g=>oz m (fT m d) b c a (g==46)))) (some false)
def oC(m:Nat)(a:ByteArray)(b:Bool):Option Bool:=
 cond b (some true) (fT m (succ m) a (a.size:Int) 0)
def nX:Nat->ByteArray->Option Bool
 |0,_=>none
 |m+1,a=>cond ((a.size:Int)<1) (oC m a true) (cond (32<(a.size:Int)) (oC m a true) ((idxS a 0).bind fun b=>oC m a (b==36)))
def DZ(m:Nat):Nat->List Dt->Int->Int->Option Int
 |0,_,_,_=>none
 |d+1,b,c,a=>cond (a<c) ((idx b a).bind fun e=>(nX m (toStr e)).bind fun f=>cond f (some a) (DZ m d b c (wrap .i64 (a+1)))) (some (-1))
def i105:Nat->List Dt->Option Int
 |0,_=>none
 |m+1,a=>DZ m (succ m) a (a.length:Int) 0
def agq:Nat->List Dt->Option Bool
 |0,_=>none
 |m+1,a=>(i105 m a).bind fun b=>some (decide (0<=b))
def nY:Nat->List Dt->Option Bool
 |0,_=>none
 |m+1,a=>cond (1<=(a.length:Int)) (bif (a.length:Int)<=16 then(agq m a).bind fun b=>some (!b)else some false) (some false)
def kX:Nat->ByteArray->Option Bool
 |0,_=>none
 |m+1,a=>(nY m [str a]).bind fun b=>some b
def kI(m:Nat)(a:Q26)(b:ByteArray)(c:List Dt)(d e:Int)(f:Bool)(g:List Dt):Option Bool:=
 cond f (some false) (a c d (wrap .i64 (e+1)) (mput g b (bool true)))
def eO(m:Nat):Nat->List Dt->Int->Int->List Dt->Option Bool
 |0,_,_,_,_=>none
 |f+1,c,d,a,e=>cond (a<d) ((idx c a).bind fun b=>(kX m (toStr b)).bind fun g=>cond (!g) (kI m (eO m f) (toStr b) c d a true e) (kI m (eO m f) (toStr b) c d a (Dt.toBool (mgetD e (toStr b) (bool false))) e)) (some true)
def eY:Nat->List Dt->Option Bool
 |0,_=>none
 |m+1,a=>eO m (succ m) a (a.length:Int) 0 []
def iw:Nat->Dt->Option Dt
 |0,_=>none
 |m+1,a=>cond (I a 0==0) ((cO m).bind fun b=>some b) (some a)
def j3(m:Nat):Nat->List Dt->Int->Int->Dt->Int->Int->ByteArray->List Dt->List Dt->Option Dt
 |0,_,_,_,_,_,_,_,_,_=>none
 |i+1,b,c,a,j,d,e,f,g,h=>cond (a<c) ((idx b a).bind fun k=>(iw m k).bind fun l=>(app g [l]).bind fun n=>j3 m i b c (wrap .i64 (a+1)) j d e f n h) (some (agg [int d,int e,str f,lst g,lst h]))
def nZ(m:Nat)(a:Q65)(b:List Dt)(c d:Int)(e f:Dt)(g h:Int)(i:ByteArray)(j k:List Dt):Option Dt:=
 a b c (wrap .i64 (d+1)) e f g h i j k
def gD(m:Nat):Nat->List Dt->Int->Int->Dt->Dt->Int->Int->ByteArray->List Dt->List Dt->Option Dt
 |0,_,_,_,_,_,_,_,_,_,_=>none
 |j+1,b,c,a,d,k,e,f,g,h,i=>cond (a<c) ((idx b a).bind fun l=>cond (I l 0 !=0) ((idx (L d 3) a).bind fun n=>(app i [agg [str (toStr n),l]]).bind fun o=>nZ m (gD m j) b c a d k e f g h o) (nZ m (gD m j) b c a d k e f g h i)) (some (agg [int e,int f,str g,lst h,lst i]))
def eF:Nat->Dt->List Dt->Option Dt
 |0,_,_=>none
 |m+1,b,a=>cond (I b 0==35) (j3 m (succ m) a (a.length:Int) 0 aj 6 0 (ByteArray.mk (List.toArray [])) [] []) (gD m (succ m) a (a.length:Int) 0 b aj 5 0 (ByteArray.mk (List.toArray [])) [] [])
def sU(m:Nat)(a:Bool)(b:Dt):Option Bool:=
 cond a (some (I b 1 !=0)) (some true)
def sV(m:Nat)(a:Int)(c:Bool)(b:Dt):Option Bool:=
 cond c (some false) (cond (a==9) (sU m (a==9) b) (sU m (a==3) b))
def eB:Nat->Dt->Option Bool
 |0,_=>none
 |m+1,a=>cond (I a 0==0) (sV m (I a 0) (I a 0==0) a) (sV m (I a 0) (I a 0==2) a)
def mZ(m:Nat)(a:Int)(b:Bool):Option Int:=
 cond b (some (wrap .i64 (a-1))) (some a)
def iT:Nat->Int->Int->Option Int
 |0,_,_=>none
 |m+1,b,a=>cond (a=0) none (cond (a=0) none (cond (Int.tmod b a !=0) (mZ m (wrap .i64 (Int.tdiv b a)) (!decide (b<0)==decide (a<0))) (mZ m (wrap .i64 (Int.tdiv b a)) false)))
def iG(m:Nat):Nat->Int->List Dt->Int->Int->Dt->Option Dt
 |0,_,_,_,_,_=>none
 |f+1,c,d,e,a,g=>cond (a<e) ((idx d a).bind fun h=>iG m f (wrap .i64 (c+toInt h)) d e (wrap .i64 (a+1)) g) ((bU m c).bind fun b=>some b)
def jD(m:Nat):Nat->Int->List Dt->Int->Int->Dt->Option Dt
 |0,_,_,_,_,_=>none
 |a+1,e,f,g,b,h=>cond (b<g) ((idx f b).bind fun c=>jD m a (wrap .i64 (e*toInt c)) f g (wrap .i64 (b+1)) h) ((bU m e).bind fun d=>some d)
def dS(m:Nat)(h:Int)(n:Dt)(a:List Dt):Option Dt:=
 (inL a 0).bind fun i=>(a[0]?).bind fun d=>(inL a 1).bind fun j=>(a[1]?).bind fun e=>(iT m (toInt d) (toInt e)).bind fun c=>cond (h==8) ((inL a 0).bind fun k=>(a[0]?).bind fun f=>(inL a 1).bind fun l=>(a[1]?).bind fun g=>(bU m (wrap .i64 (toInt f-wrap .i64 (toInt g*c)))).bind fun b=>some b) ((bU m c).bind fun b=>some b)
def fH(m:Nat)(d:Int)(e:Dt)(a:List Dt):Option Dt:=
 (inL a 1).bind fun f=>(a[1]?).bind fun b=>cond (toInt b==0) ((cO m).bind fun c=>some c) (dS m d e a)
def iH(m:Nat)(b:Int)(c:Dt)(a:List Dt):Option Dt:=
 cond (b==5) ((inL a 1).bind fun e=>(a[1]?).bind fun d=>(inL a 1).bind fun f=>(a[1]?).bind fun g=>iG m (succ m) 0 (List.set a 1 (int (wrap .i64 (0-toInt d)))) ((List.set a 1 (int (wrap .i64 (0-toInt d)))).length:Int) 0 c) (cond (b==4) (iG m (succ m) 0 a (a.length:Int) 0 c) (cond (b==6) (jD m (succ m) 1 a (a.length:Int) 0 c) (fH m b c a)))
def j4(m:Nat):Nat->Int->List Dt->Int->Int->Dt->List Dt->Option Dt
 |0,_,_,_,_,_,_=>none
 |h+1,c,d,e,a,f,b=>cond (a<e) ((idx d a).bind fun g=>cond (I g 0 !=3) ((cO m).bind fun i=>some i) ((inL b a).bind fun j=>(b[a.toNat]?).bind fun k=>j4 m h c d e (wrap .i64 (a+1)) f (List.set b a.toNat (int (I g 1))))) (iH m c f b)
def dW:Nat->Int->List Dt->Option Dt
 |0,_,_=>none
 |m+1,b,a=>(mkL (a.length:Int) (a.length:Int) (int 0)).bind fun c=>j4 m (succ m) b a (a.length:Int) 0 aj c
def bX:Nat->Bool->Option Dt
 |0,_=>none
 |m+1,a=>cond a (some M8) (some M7)
def jy:Nat->Int->Int->Option Dt
 |0,_,_=>none
 |m+1,b,a=>cond (b==10) ((bX m (a==0)).bind fun c=>some c) (cond (b==11) ((bX m (a !=0)).bind fun d=>some d) (cond (b==12) ((bX m (decide (0<a))).bind fun e=>some e) (cond (b==13) ((bX m (decide (0<=a))).bind fun f=>some f) (cond (b==14) ((bX m (decide (a<0))).bind fun g=>some g) (cond (b==15) ((bX m (decide (a<=0))).bind fun h=>some h) ((bU m a).bind fun i=>some i))))))
def vk(m:Nat)(a:Q48)(c:Int)(d i:Bool)(e:List Dt)(f g:Int)(h j:Dt):Option Dt:=
 cond i (a c d true e f (wrap .i64 (g+1)) h) ((eB m j).bind fun b=>a c d b e f (wrap .i64 (g+1)) h)
def mo(m:Nat):Nat->Int->Bool->Bool->List Dt->Int->Int->Dt->Option Dt
 |0,_,_,_,_,_,_,_=>none
 |j+1,c,k,d,e,f,b,l=>cond (b<f) ((idx e b).bind fun a=>cond k ((eB m a).bind fun g=>vk m (mo m j) c g d e f b l a) (vk m (mo m j) c false d e f b l a)) (cond (c==16) ((bX m k).bind fun h=>some h) ((bX m d).bind fun i=>some i))
def gQ:Nat->Int->List Dt->Option Dt
 |0,_,_=>none
 |m+1,b,a=>cond (b==18) ((idx a 0).bind fun d=>(eB m d).bind fun e=>(bX m (!e)).bind fun f=>some f) (cond (b==19) ((idx a 0).bind fun g=>(eB m g).bind fun h=>cond h ((idx a 1).bind fun i=>some i) ((idx a 2).bind fun j=>some j)) (cond (b==20) ((idx a 0).bind fun k=>(iw m k).bind fun l=>cond (I l 0==2) ((idx a 1).bind fun n=>some n) ((idx a 0).bind fun c=>some c)) (mo m (succ m) b true false a (a.length:Int) 0 aj)))
def jM:Nat->Dt->Dt->Option Bool
 |0,_,_=>none
 |m+1,a,b=>(bD m a b).bind fun c=>some (c==0)
def rW(m:Nat)(a:List Dt)(b:Int)(c:Bool)(e:Dt):Option Dt:=
 cond c (some aj) ((idx a b).bind fun d=>some d)
def oD(m:Nat)(b:List Dt)(a:Int)(c:Dt):Option Dt:=
 cond (a<0) (rW m b a true c) (rW m b a (decide ((b.length:Int)<=a)) c)
def kY:Nat->List Dt->Dt->Option Dt
 |0,_,_=>none
 |m+1,b,a=>cond (I a 0 !=3) ((cO m).bind fun c=>some c) (cond (I a 1<0) (oD m b (wrap .i64 (I a 1+(b.length:Int))) aj) (oD m b (I a 1) aj))
def qN(m:Nat)(b:Dt)(a:List Dt):Option Dt:=
 some (agg [int 6,int 0,str (ByteArray.mk (List.toArray [])),lst a,lst []])
def kP(m:Nat):Nat->Int->Int->Dt->List Dt->Option Dt
 |0,_,_,_,_=>none
 |f+1,b,c,e,a=>cond (b<c) ((inL a c).bind fun k=>(a[c.toNat]?).bind fun d=>(inL a b).bind fun l=>(a[b.toNat]?).bind fun g=>(inL a b).bind fun n=>(a[b.toNat]?).bind fun h=>(inL (List.set a b.toNat d) c).bind fun i=>((List.set a b.toNat d)[c.toNat]?).bind fun j=>kP m f (wrap .i64 (b+1)) (wrap .i64 (c-1)) e (List.set (List.set a b.toNat d) c.toNat g)) (qN m e a)
def jQ(m:Nat):Nat->Int->List Dt->Int->Int->Dt->Option Dt
 |0,_,_,_,_,_=>none
 |a+1,d,e,f,c,h=>bif c<f then(idx e c).bind fun b=>cond (I b 0==3) (jQ m a (wrap .i64 (d+I b 1)) e f (wrap .i64 (c+1)) h) (jQ m a d e f (wrap .i64 (c+1)) h)else(bU m d).bind fun g=>some g
def ng(m:Nat):Nat->List Dt->List Dt->Int->Int->Dt->Option Dt
 |0,_,_,_,_,_=>none
 |a+1,h,i,j,b,k=>bif b<j then(idx i b).bind fun c=>(idx h 0).bind fun d=>(jM m c d).bind fun e=>cond e ((bX m true).bind fun f=>some f) (ng m a h i j (wrap .i64 (b+1)) k)else(bX m false).bind fun g=>some g
def vQ(m:Nat)(b:Int)(f:List Dt)(c:Dt)(a:List Dt):Option Dt:=
 cond (b==26) ((bU m (a.length:Int)).bind fun g=>some g) (cond (b==30) (kP m (succ m) 0 (wrap .i64 ((a.length:Int)-1)) c a) (cond (b==31) (jQ m (succ m) 0 a (a.length:Int) 0 c) (cond (b==28) (ng m (succ m) f a (a.length:Int) 0 c) (cond (b==27) ((idx f 1).bind fun d=>(kY m a d).bind fun e=>some e) (qN m c a)))))
def oF(m:Nat):Nat->Int->List Dt->List Dt->Int->Int->Dt->List Dt->Option Dt
 |0,_,_,_,_,_,_,_=>none
 |i+1,b,c,d,e,a,f,g=>cond (a<e) ((idx d a).bind fun h=>cond (I h 0 !=6) ((cO m).bind fun j=>some j) ((app g (L h 3)).bind fun k=>oF m i b c d e (wrap .i64 (a+1)) f k)) (vQ m b c f g)
def fE(m:Nat)(b:Int)(c a:List Dt)(d:Dt):Option Dt:=
 oF m (succ m) b c a (a.length:Int) 0 d []
def dM:Nat->Int->List Dt->Option Dt
 |0,_,_=>none
 |m+1,b,a=>cond (b==27) ((cutL a 0 1).bind fun d=>fE m b a d aj) (cond (b==28) ((cutL a 1 (a.length:Int)).bind fun c=>fE m b a c aj) (fE m b a a aj))
def D5(m:Nat)(a:Q15):Nat->List Dt->Int->Int->Int->Int->Option (Int×Int)
 |0,_,_,_,_,_=>none
 |h+1,d,e,c,f,g=>cond (c<e) ((idx d c).bind fun i=>(a i f g).bind fun b=>cond (!b.1) (some (b.2.1,b.2.2)) (D5 m a h d e (wrap .i64 (c+1)) b.2.1 b.2.2)) (some (f,g))
def D6(m:Nat)(a:Q15):Nat->List Dt->Int->Int->Int->Int->Option (Int×Int)
 |0,_,_,_,_,_=>none
 |h+1,d,e,c,f,g=>cond (c<e) ((idx d c).bind fun i=>(a (fld i 1) f g).bind fun b=>cond (!b.1) (some (b.2.1,b.2.2)) (D6 m a h d e (wrap .i64 (c+1)) b.2.1 b.2.2)) (some (f,g))
mutual
def kZ:Nat->Dt->Int->Option Int
 |0,_,_=>none
 |m+1,b,a=>cond (1==a) (some 1) ((agr m b 1 a).bind fun c=>some c.1)
def agr:Nat->Dt->Int->Int->Option (Int×Int)
 |0,_,_,_=>none
 |m+1,a,b,c=>cond (I a 0==6) (D5 m (Fy m) (succ m) (L a 3) ((L a 3).length:Int) 0 b c) (cond (I a 0==5) (D6 m (Fy m) (succ m) (L a 4) ((L a 4).length:Int) 0 b c) (some (b,c)))
def Fy:Nat->Dt->Int->Int->Option (Bool×Int×Int)
 |0,_,_,_=>none
 |m+1,d,a,b=>(kZ m d (wrap .i64 (b-a))).bind fun c=>some (decide (wrap .i64 (a+c)<b),wrap .i64 (a+c),b)
end
def nQ:Nat->Dt->Option Int
 |0,_=>none
 |m+1,a=>(kZ m a 1025).bind fun b=>some b
def D7(m:Nat)(a:Q15):Nat->List Dt->Int->Int->Int->Int->Option (Int×Int)
 |0,_,_,_,_,_=>none
 |h+1,d,e,c,f,g=>cond (c<e) ((idx d c).bind fun i=>(a i f g).bind fun b=>cond (!b.1) (some (b.2.1,b.2.2)) (D7 m a h d e (wrap .i64 (c+1)) b.2.1 b.2.2)) (some (f,g))
def D8(m:Nat)(a:Q15):Nat->List Dt->Int->Int->Int->Int->Option (Int×Int)
 |0,_,_,_,_,_=>none
 |h+1,d,e,c,f,g=>cond (c<e) ((idx d c).bind fun i=>(a (fld i 1) f g).bind fun b=>cond (!b.1) (some (b.2.1,b.2.2)) (D8 m a h d e (wrap .i64 (c+1)) b.2.1 b.2.2)) (some (f,g))
mutual
def lg:Nat->Dt->Int->Option Int
 |0,_,_=>none
 |m+1,b,a=>cond (a==1) (some 1) ((i127 m b 0 a).bind fun c=>some (wrap .i64 (1+c.1)))
def i127:Nat->Dt->Int->Int->Option (Int×Int)
 |0,_,_,_=>none
 |m+1,a,b,c=>cond (I a 0==6) (D7 m (Fz m) (succ m) (L a 3) ((L a 3).length:Int) 0 b c) (cond (I a 0==5) (D8 m (Fz m) (succ m) (L a 4) ((L a 4).length:Int) 0 b c) (some (b,c)))
def Fz:Nat->Dt->Int->Int->Option (Bool×Int×Int)
 |0,_,_,_=>none
 |m+1,d,a,c=>(lg m d (wrap .i64 (c-1))).bind fun b=>some (decide (cond (a<b) b a<wrap .i64 (c-1)),cond (a<b) b a,c)
end
def nR:Nat->Dt->Option Int
 |0,_=>none
 |m+1,a=>(lg m a 17).bind fun b=>some b
def nS(m:Nat):Nat->ByteArray->Int->Dt->Option Int
 |0,_,_,_=>none
 |d+1,c,a,b=>bif a<((L b 4).length:Int)then(idx (L b 4) a).bind fun e=>cond ((S e 0).toList==c.toList) (some a) (nS m d c (wrap .i64 (a+1)) b)else some (-1)
def ni:Nat->Dt->ByteArray->Option Int
 |0,_,_=>none
 |m+1,a,b=>cond (I a 0 !=5) (some (-1)) (nS m (succ m) b 0 a)
def sJ:Nat->Dt->ByteArray->Option (Dt×Bool)
 |0,_,_=>none
 |m+1,a,c=>(ni m a c).bind fun b=>cond (b<0) (some (aj,false)) ((idx (L a 4) b).bind fun d=>some (fld d 1,true))
def sK(m:Nat)(a:Q12):Nat->List Dt->Int->Dt->Dt->Int->Int->ByteArray->List Dt->List Dt->Option Dt
 |0,_,_,_,_,_,_,_,_,_=>none
 |j+1,d,b,c,k,e,f,g,h,i=>bif b<((L c 3).length:Int)then(idx (L c 3) b).bind fun n=>(a n d).bind fun l=>cond (I l 0 !=0) ((app h [l]).bind fun o=>sK m a j d (wrap .i64 (b+1)) c k e f g o i) (sK m a j d (wrap .i64 (b+1)) c k e f g h i)else some (agg [int e,int f,str g,lst h,lst i])
def yj(m:Nat)(a:Q12)(b:List Dt)(c e:Dt):Option Dt:=
 cond (I c 0==5) ((idx b 0).bind fun f=>(sJ m c (toStr f)).bind fun d=>cond d.2 ((cutL b 1 (b.length:Int)).bind fun g=>(a d.1 g).bind fun h=>some h) (some aj)) (cond (I c 0==6) (sK m a (succ m) b 0 c e 6 0 (ByteArray.mk (List.toArray [])) [] []) (some aj))
def iA:Nat->Dt->List Dt->Option Dt
 |0,_,_=>none
 |m+1,a,b=>cond ((b.length:Int)==0) (some a) (yj m (iA m) b a aj)
def qw(m:Nat):Nat->List Dt->Int->Int->Option Bool
 |0,_,_,_=>none
 |d+1,a,c,b=>bif b<(a.length:Int)then(idx a b).bind fun e=>cond (I e 0 !=c) (some false) (qw m d a c (wrap .i64 (b+1)))else some true
def iY:Nat->List Dt->Int->Option Bool
 |0,_,_=>none
 |m+1,a,b=>qw m (succ m) a b 0
def oG(m:Nat):Nat->List Dt->ByteArray->Int->Dt->Option Dt
 |0,_,_,_,_=>none
 |f+1,b,a,c,g=>cond (c<(b.length:Int)) (bif (a.size:Int)<=4096 then(idx b c).bind fun e=>cond (Nat.ble (a.size+(S e 2).size) 1152921504606846976) (oG m f b (a++S e 2) (wrap .i64 (c+1)) g) none else(jY m a).bind fun d=>some d) ((jY m a).bind fun d=>some d)
def lC:Nat->List Dt->Option Dt
 |0,_=>none
 |m+1,a=>(iY m a 4).bind fun b=>cond (!b) ((cK m).bind fun c=>some c) (oG m (succ m) a (ByteArray.mk (List.toArray [])) 0 aj)
def rz(m:Nat):Nat->List Dt->Int->Dt->Int->Int->ByteArray->List Dt->List Dt->Option Dt
 |0,_,_,_,_,_,_,_,_=>none
 |h+1,a,b,i,c,d,e,f,g=>cond (b<(a.length:Int)) ((idx a b).bind fun j=>(app f (L j 3)).bind fun k=>rz m h a (wrap .i64 (b+1)) i c d e k g) (some (agg [int c,int d,str e,lst f,lst g]))
def qx:Nat->List Dt->Option Dt
 |0,_=>none
 |m+1,a=>(iY m a 6).bind fun b=>cond (!b) ((cK m).bind fun c=>some c) (rz m (succ m) a 0 aj 6 0 (ByteArray.mk (List.toArray [])) [] [])
def lD(m:Nat)(a:Int)(b:Bool):Option Int:=
 cond b (some (wrap .i64 (a-1))) (some a)
def eZ:Nat->Int->Int->Option Int
 |0,_,_=>none
 |m+1,b,a=>cond (a==(-1)) (some (wrap .i64 (0-b))) (cond (a=0) none (cond (a=0) none (cond (Int.tmod b a !=0) (cond (a=0) none (lD m (wrap .i64 (Int.tdiv b a)) (!decide (Int.tmod b a<0)==decide (a<0)))) (lD m (wrap .i64 (Int.tdiv b a)) false))))
def BD(m:Nat)(c:Int)(a:List Dt)(i:Int)(p:Dt):Option Dt:=
 cond (c==5) ((idx a 0).bind fun j=>(idx a 1).bind fun k=>(dX m (wrap .i64 (I j 1-I k 1))).bind fun b=>some b) (cond (c==7) ((idx a 0).bind fun l=>(idx a 1).bind fun n=>(eZ m (I l 1) (I n 1)).bind fun o=>(dX m o).bind fun b=>some b) (cond (c==8) ((idx a 0).bind fun d=>(idx a 1).bind fun e=>(idx a 0).bind fun f=>(idx a 1).bind fun g=>(eZ m (I f 1) (I g 1)).bind fun h=>(dX m (wrap .i64 (I d 1-wrap .i64 (I e 1*h)))).bind fun b=>some b) ((dX m i).bind fun b=>some b)))
def jA(m:Nat):Nat->Int->List Dt->Int->Int->Dt->Option Dt
 |0,_,_,_,_,_=>none
 |f+1,c,a,d,b,e=>cond (b<(a.length:Int)) (cond (c==6) ((idx a b).bind fun g=>jA m f c a (wrap .i64 (d*I g 1)) (wrap .i64 (b+1)) e) ((idx a b).bind fun h=>jA m f c a (wrap .i64 (d+I h 1)) (wrap .i64 (b+1)) e)) (BD m c a d e)
def jB(m:Nat)(a:Int)(b:List Dt)(d:Bool)(c:Dt):Option Dt:=
 cond d ((cK m).bind fun e=>some e) (cond (a==6) (jA m (succ m) a b 1 0 c) (jA m (succ m) a b 0 0 c))
def fU:Nat->Int->List Dt->Option Dt
 |0,_,_=>none
 |m+1,b,a=>(iY m a 3).bind fun e=>cond (!e) (jB m b a true aj) (cond (b==7) ((idx a 1).bind fun c=>jB m b a (I c 1==0) aj) (cond (b==8) ((idx a 1).bind fun d=>jB m b a (I d 1==0) aj) (jB m b a false aj)))
def jN:Nat->Dt->Dt->Option Bool
 |0,_,_=>none
 |m+1,a,b=>(bF m a b).bind fun c=>some (c==0)
def lF(m:Nat):Nat->List Dt->Int->Dt->Option Bool
 |0,_,_,_=>none
 |d+1,a,b,c=>bif b<(a.length:Int)then(idx a b).bind fun e=>(jN m e c).bind fun f=>cond f (some true) (lF m d a (wrap .i64 (b+1)) c)else some false
def j5:Nat->List Dt->Dt->Option Bool
 |0,_,_=>none
 |m+1,a,b=>lF m (succ m) a 0 b
def sW(m:Nat)(a c:Dt)(b:List Dt):Option Dt:=
 some (agg [int (I a 0),int (I a 1),str (S a 2),lst (L a 3),lst b])
def lG(m:Nat):Nat->ByteArray->Int->Int->Dt->Dt->Dt->List Dt->Option Dt
 |0,_,_,_,_,_,_,_=>none
 |i+1,g,c,b,a,d,e,f=>bif b<((L a 4).length:Int)then(idx (L a 4) b).bind fun j=>cond (b==c) ((app f [agg [str (S j 0),d]]).bind fun h=>lG m i g c (wrap .i64 (b+1)) a d e h) ((app f [j]).bind fun h=>lG m i g c (wrap .i64 (b+1)) a d e h)else cond (c<0) ((app f [agg [str g,d]]).bind fun k=>sW m a e k) (sW m a e f)
def pG:Nat->Dt->ByteArray->Dt->Option Dt
 |0,_,_,_=>none
 |m+1,a,b,c=>cond (I a 0 !=5) (some a) ((ni m a b).bind fun d=>lG m (succ m) b d 0 a c aj [])
def nk(m:Nat)(a:Q30)(b:List Dt)(c:Int)(d e:Dt):Option Dt:=
 a b (wrap .i64 (c+1)) d e
def qy(m:Nat)(a:Q30):Nat->List Dt->Int->Int->Dt->Dt->Option Dt
 |0,_,_,_,_,_=>none
 |g+1,b,c,d,e,f=>(idx b c).bind fun h=>cond (d<((L h 4).length:Int)) ((idx b c).bind fun i=>(idx (L i 4) d).bind fun j=>(idx b c).bind fun k=>(idx (L k 4) d).bind fun l=>(pG m f (S j 0) (fld l 1)).bind fun n=>qy m a g b c (wrap .i64 (d+1)) e n) (nk m a b c e f)
def fu(m:Nat):Nat->List Dt->Int->Dt->Dt->Option Dt
 |0,_,_,_,_=>none
 |d+1,a,b,e,c=>bif b<(a.length:Int)then(idx a b).bind fun f=>cond (I f 0==0) (nk m (fu m d) a b e c) ((idx a b).bind fun g=>cond (I g 0==2) (nk m (fu m d) a b e c) ((idx a b).bind fun h=>cond (I h 0 !=5) ((cK m).bind fun i=>some i) (qy m (fu m d) (succ m) a b 0 e c)))else some c
def nT:Nat->List Dt->Option Dt
 |0,_=>none
 |m+1,a=>fu m (succ m) a 0 aj M9
def sZ(m:Nat)(c:List Dt)(d:Bool)(e:Dt):Option Dt:=
 cond d ((idx c 1).bind fun a=>some a) ((idx c 0).bind fun b=>some b)
def j6(m:Nat)(f:List Dt)(g h:Dt):Option Dt:=
 cond (I g 0==24) ((idx f 0).bind fun a=>(dX m ((S a 2).size:Int)).bind fun b=>some b) ((idx f 0).bind fun c=>(gL m (S c 2) (I g 0==23)).bind fun d=>(jY m d).bind fun e=>some e)
def Co(m:Nat)(e:List Dt)(f:Dt):Option Dt:=
 (idx e 1).bind fun a=>(idx e 0).bind fun b=>(j5 m (L a 3) b).bind fun c=>(bW m c).bind fun d=>some d
def rX(m:Nat)(a:Q41)(b:List Dt)(c:Int)(d e:Dt)(f g:Int)(h:ByteArray)(i j:List Dt):Option Dt:=
 a b (wrap .i64 (c+1)) d e f g h i j
def jC(m:Nat):Nat->List Dt->Int->Dt->Dt->Int->Int->ByteArray->List Dt->List Dt->Option Dt
 |0,_,_,_,_,_,_,_,_,_=>none
 |b+1,c,a,d,o,e,f,g,h,i=>bif a<(c.length:Int)then(idx c a).bind fun j=>cond (I j 0 !=0) ((idx (L d 3) a).bind fun k=>(idx c a).bind fun l=>(app i [agg [str (toStr k),l]]).bind fun n=>rX m (jC m b) c a d o e f g h n) (rX m (jC m b) c a d o e f g h i)else some (agg [int e,int f,str g,lst h,lst i])
def oH(m:Nat):Nat->List Dt->Int->Dt->Int->Int->ByteArray->List Dt->List Dt->Option Dt
 |0,_,_,_,_,_,_,_,_=>none
 |a+1,b,c,l,g,h,i,j,k=>cond (c<(b.length:Int)) ((idx b c).bind fun d=>(nV m d).bind fun e=>(app j [e]).bind fun f=>oH m a b (wrap .i64 (c+1)) l g h i f k) (some (agg [int g,int h,str i,lst j,lst k]))
def tu(m:Nat)(a:List Dt)(b:Int)(t:Bool)(c d:Dt):Option Dt:=
 cond t ((idx a 0).bind fun e=>(lZ m (I c 0) e).bind fun f=>some f) (cond (b==27) ((idx a 0).bind fun g=>(idx a 1).bind fun h=>(jG m g h).bind fun i=>some i) (cond (b==28) ((idx a 1).bind fun j=>cond (I j 0 !=6) ((cK m).bind fun k=>some k) (Co m a d)) (cond (b==29) ((qx m a).bind fun l=>some l) (cond (b==34) (jC m (succ m) a 0 c d 5 0 (ByteArray.mk (List.toArray [])) [] []) (cond (b==35) (oH m (succ m) a 0 d 6 0 (ByteArray.mk (List.toArray [])) [] []) (cond (b==36) ((idx a 0).bind fun n=>(dX m (I n 0)).bind fun o=>some o) (cond (b==37) ((nT m a).bind fun p=>some p) ((idx a 0).bind fun q=>(idx a 1).bind fun r=>(dZ m (I c 0) q r).bind fun s=>some s))))))))
def tC(m:Nat)(b:List Dt)(a:Int)(k:Bool)(c d:Dt):Option Dt:=
 cond k ((idx b 0).bind fun e=>cond (I e 0 !=4) ((cK m).bind fun f=>some f) (j6 m b c d)) (cond (a==25) ((idx b 0).bind fun g=>(idx b 1).bind fun h=>(idx b 2).bind fun i=>(nM m g h i).bind fun j=>some j) (cond (a==26) (tu m b a (a==26) c d) (cond (a==30) (tu m b a (a==30) c d) (tu m b a (a==31) c d))))
def wR(m:Nat)(a:List Dt)(b:Int)(g:Bool)(d c:Dt):Option Dt:=
 cond g ((nL m (I d 0) a).bind fun h=>some h) (cond (b==18) ((idx a 0).bind fun i=>(gB m i).bind fun j=>(bW m (!j)).bind fun k=>some k) (cond (b==19) ((idx a 0).bind fun l=>(gB m l).bind fun n=>cond n ((idx a 1).bind fun o=>some o) ((idx a 2).bind fun p=>some p)) (cond (b==20) ((idx a 0).bind fun q=>cond (I q 0==0) (sZ m a true c) ((idx a 0).bind fun e=>sZ m a (I e 0==2) c)) (cond (b==21) ((lC m a).bind fun f=>some f) (cond (b==22) (tC m a b (b==22) d c) (cond (b==23) (tC m a b (b==23) d c) (tC m a b (b==24) d c)))))))
def nu(m:Nat)(b:List Dt)(a:Int)(e:Bool)(c d:Dt):Option Dt:=
 cond e ((fU m (I c 0) b).bind fun f=>some f) (cond (a==16) (wR m b a (a==16) c d) (wR m b a (a==17) c d))
def aV:Nat->Dt->List Dt->Option Dt
 |0,_,_=>none
 |m+1,a,b=>cond (I a 0==4) (nu m b (I a 0) (I a 0==4) a aj) (cond (I a 0==5) (nu m b (I a 0) (I a 0==5) a aj) (cond (I a 0==6) (nu m b (I a 0) (I a 0==6) a aj) (cond (I a 0==7) (nu m b (I a 0) (I a 0==7) a aj) (nu m b (I a 0) (I a 0==8) a aj))))
def zH(m:Nat)(a:Q6)(b:Q6)(c:Bool)(f d:Dt):Option Dt:=
 cond c ((cK m).bind fun e=>some e) (some d)
def fO(m:Nat)(a:Q6)(b:Q6)(d c:Dt):Option Dt:=
 cond (I c 0 !=0) ((iX m c).bind fun e=>zH m a b (!e) d c) (zH m a b false d c)
def pI(m:Nat)(a:Q6)(b:Q6):Nat->List Dt->Int->Dt->Dt->Dt->Option Dt
 |0,_,_,_,_,_=>none
 |g+1,c,d,e,f,h=>bif d<(c.length:Int)then(idx c d).bind fun i=>cond ((S i 0).toList==(S e 2).toList) ((idx c d).bind fun j=>(iA m (fld j 1) (L e 1)).bind fun k=>pI m a b g c (wrap .i64 (d+1)) e f k) (pI m a b g c (wrap .i64 (d+1)) e f h)else fO m a b f h
def wS(m:Nat)(a:Q6)(b:Q6)(d e g:Dt)(f:List Dt):Option Dt:=
 (aV m d f).bind fun c=>fO m a b e c
def rA(m:Nat)(a:Q6)(b:Q6):Nat->List Dt->Int->Dt->Dt->Dt->Dt->List Dt->Option Dt
 |0,_,_,_,_,_,_,_=>none
 |j+1,e,d,c,f,g,h,i=>cond (d<((L c 6).length:Int)) ((idx (L c 6) d).bind fun k=>(a k f e).bind fun l=>(app i [l]).bind fun n=>rA m a b j e (wrap .i64 (d+1)) c f g h n) (wS m a b c g h i)
def zI(m:Nat)(b:Q6)(a:Q6)(c:List Dt)(g:Bool)(d e f h:Dt):Option Dt:=
 cond g ((a d e c).bind fun i=>fO m b a f i) (rA m b a (succ m) c 0 d e f h [])
def rF(m:Nat)(b:Q6)(a:Q73)(d:List Dt)(e:Int)(f g h i:Dt)(j k:Int)(l:ByteArray)(n c:List Dt):Option Dt:=
 a d (wrap .i64 (e+1)) f g h i j k l n c
def jO(m:Nat)(a:Q6):Nat->List Dt->Int->Dt->Dt->Dt->Dt->Int->Int->ByteArray->List Dt->List Dt->Option Dt
 |0,_,_,_,_,_,_,_,_,_,_,_=>none
 |l+1,f,c,d,g,n,e,h,i,j,k,b=>bif c<((L e 3).length:Int)then(app [] f).bind fun s=>(idx (L e 3) c).bind fun t=>(app s [agg [str (S d 2),t]]).bind fun u=>(idx (L d 6) 1).bind fun v=>(a v g u).bind fun r=>cond (I d 0==32) ((nV m r).bind fun w=>(app k [w]).bind fun x=>rF m a (jO m a l) f c d g n e h i j x b) ((gB m r).bind fun o=>cond o ((idx (L e 3) c).bind fun p=>(app k [p]).bind fun q=>rF m a (jO m a l) f c d g n e h i j q b) (rF m a (jO m a l) f c d g n e h i j k b))else some (agg [int h,int i,str j,lst k,lst b])
mutual
def bM:Nat->Dt->Dt->List Dt->Option Dt
 |0,_,_,_=>none
 |m+1,a,b,c=>cond (I a 0==1) (fO m (bM m) (dK m) aj (fld a 4)) (cond (I a 0==2) ((iA m b (L a 1)).bind fun d=>fO m (bM m) (dK m) aj d) (cond (I a 0==3) (pI m (bM m) (dK m) (succ m) c 0 a aj aj) (cond (I a 0==32) (zI m (bM m) (dK m) c (I a 0==32) a b aj aj) (zI m (bM m) (dK m) c (I a 0==33) a b aj aj))))
def dK:Nat->Dt->Dt->List Dt->Option Dt
 |0,_,_,_=>none
 |m+1,a,b,c=>(idx (L a 6) 0).bind fun e=>(bM m e b c).bind fun d=>cond (I d 0 !=6) ((cK m).bind fun f=>some f) (jO m (bM m) (succ m) c 0 a b aj d 6 0 (ByteArray.mk (List.toArray [])) [] [])
end
def ko:Nat->Dt->Dt->Option Dt
 |0,_,_=>none
 |m+1,a,c=>(jL m a).bind fun d=>cond (d !=0) (some aj) ((bM m a c []).bind fun b=>cond (I b 0==0) (some aj) (some b))
def rG(m:Nat):Nat->List Dt->Int->Dt->List Dt->Option (List Dt×Int)
 |0,_,_,_,_=>none
 |f+1,a,b,c,d=>bif b<(a.length:Int)then(idx a b).bind fun g=>(ko m c g).bind fun e=>cond (I e 0 !=5) (some ([],8)) ((app d [e]).bind fun h=>rG m f a (wrap .i64 (b+1)) c h)else some (d,0)
def uF:Nat->Dt->List Dt->Option (List Dt×Int)
 |0,_,_=>none
 |m+1,a,b=>rG m (succ m) b 0 a []
def pJ:Nat->Dt->Dt->Option Dt
 |0,_,_=>none
 |m+1,b,c=>(ko m b c).bind fun a=>cond (I a 0==0) (some pR) (some a)
def qz(m:Nat)(b:Q17)(a:Q74)(c d:List Dt)(e f:Int)(g:Bool)(h:Int)(i j:Dt):Option (List Dt):=
 a c d e f g (wrap .i64 (h+1)) i j
def kQ(m:Nat)(a:Q17)(g b:List Dt)(h i f:Int)(j k:Dt):Option (List Dt):=
 (cutL b 0 f).bind fun l=>(app [] l).bind fun n=>(o7 m k i).bind fun o=>(app n [o]).bind fun c=>(cutL b f (b.length:Int)).bind fun d=>(app c d).bind fun e=>a g e (wrap .i64 (h+1)) j
def oJ(m:Nat)(a:Q17):Nat->List Dt->List Dt->Int->Int->Int->Dt->Dt->Option (List Dt)
 |0,_,_,_,_,_,_,_=>none
 |e+1,f,c,g,d,b,h,i=>cond (0<b) ((idx c (wrap .i64 (b-1))).bind fun j=>(idx (L j 4) 1).bind fun k=>cond (I (fld k 1) 1<d) (oJ m a e f c g d (wrap .i64 (b-1)) h i) (kQ m a f c g d b h i)) (kQ m a f c g d b h i)
def qA(m:Nat)(a:Q17)(c b:List Dt)(d f:Int)(g:Bool)(e h:Dt):Option (List Dt):=
 cond (!g) (a c b (wrap .i64 (d+1)) e) (oJ m a (succ m) c b d f (b.length:Int) e h)
def gT(m:Nat)(a:Q17):Nat->List Dt->List Dt->Int->Int->Bool->Int->Dt->Dt->Option (List Dt)
 |0,_,_,_,_,_,_,_,_=>none
 |i+1,b,g,d,h,j,c,e,f=>bif c<(b.length:Int)then(idx b c).bind fun k=>(pJ m e k).bind fun l=>(bF m l f).bind fun n=>cond (n==0) (cond j (qz m a (gT m a i) b g d (wrap .i64 (h+1)) (decide (d<=c)) c e f) (qz m a (gT m a i) b g d (wrap .i64 (h+1)) false c e f)) (qz m a (gT m a i) b g d h j c e f)else qA m a b g d h j e f
def fP(m:Nat):Nat->List Dt->List Dt->Int->Dt->Option (List Dt)
 |0,_,_,_,_=>none
 |e+1,a,c,b,d=>cond (b<(a.length:Int)) ((idx a b).bind fun f=>(pJ m d f).bind fun g=>gT m (fP m e) (succ m) a c b 0 true 0 d g) (some c)
def qB:Nat->Dt->List Dt->Option (List Dt)
 |0,_,_=>none
 |m+1,a,b=>fP m (succ m) b [] 0 a
def qC(m:Nat)(a:Q27):Nat->List Dt->Int->Int->Dt->Int->Int->ByteArray->List Dt->List Dt->Option (Int×Int×ByteArray×List Dt×List Dt)
 |0,_,_,_,_,_,_,_,_,_=>none
 |l+1,e,f,b,n,g,h,i,j,d=>cond (b<f) ((idx e b).bind fun k=>(a (fld k 1)).bind fun c=>(inL d b).bind fun o=>(d[b.toNat]?).bind fun p=>qC m a l e f (wrap .i64 (b+1)) n g h i j (List.set d b.toNat (agg [str (S k 0),agg [int c.1,int c.2.1,str c.2.2.1,lst c.2.2.2.1,lst c.2.2.2.2]]))) (some (g,h,i,j,d))
def kr(m:Nat)(a:Q27)(b g:Dt)(c d:Int)(e:ByteArray)(f h:List Dt):Option (Int×Int×ByteArray×List Dt×List Dt):=
 cond (0<((L b 4).length:Int)) ((mkL ((L b 4).length:Int) ((L b 4).length:Int) DX).bind fun i=>qC m a (succ m) (L b 4) ((L b 4).length:Int) 0 g c d e f i) (some (c,d,e,f,h))
def ny(m:Nat)(a:Q27):Nat->List Dt->Int->Int->Dt->Dt->Int->Int->ByteArray->List Dt->List Dt->Option (Int×Int×ByteArray×List Dt×List Dt)
 |0,_,_,_,_,_,_,_,_,_,_=>none
 |n+1,e,f,b,g,h,i,j,k,d,l=>cond (b<f) ((idx e b).bind fun o=>(a o).bind fun c=>(inL d b).bind fun p=>(d[b.toNat]?).bind fun q=>ny m a n e f (wrap .i64 (b+1)) g h i j k (List.set d b.toNat (agg [int c.1,int c.2.1,str c.2.2.1,lst c.2.2.2.1,lst c.2.2.2.2])) l) (kr m a g h i j k d l)
def dA:Nat->Dt->Option (Int×Int×ByteArray×List Dt×List Dt)
 |0,_=>none
 |m+1,a=>bif 0<((L a 3).length:Int)then(mkL ((L a 3).length:Int) ((L a 3).length:Int) aj).bind fun b=>ny m (dA m) (succ m) (L a 3) ((L a 3).length:Int) 0 a aj (I a 0) (I a 1) (S a 2) b []else kr m (dA m) a aj (I a 0) (I a 1) (S a 2) [] []
def rH(m:Nat):Nat->ByteArray->Int->Int->Dt->Option Int
 |0,_,_,_,_=>none
 |e+1,b,c,a,d=>cond (a<c) ((idx (L d 4) a).bind fun f=>cond ((S f 0).toList==b.toList) (some a) (rH m e b c (wrap .i64 (a+1)) d)) (some (-1))
def sj:Nat->Dt->ByteArray->Option Int
 |0,_,_=>none
 |m+1,a,b=>cond (I a 0 !=5) (some (-1)) (rH m (succ m) b ((L a 4).length:Int) 0 a)
def Hl(m:Nat)(i:ByteArray)(j n:Dt)(e f:Int)(g:ByteArray)(h a:List Dt):Option Dt:=
 (sj m (agg [int e,int f,str g,lst h,lst a]) i).bind fun d=>bif 0<=d then(dA m j).bind fun b=>(inL a d).bind fun o=>(a[d.toNat]?).bind fun k=>some (agg [int e,int f,str g,lst h,lst (List.set a d.toNat (agg [str (S k 0),agg [int b.1,int b.2.1,str b.2.2.1,lst b.2.2.2.1,lst b.2.2.2.2]]))])else(dA m j).bind fun c=>(app a [agg [str i,agg [int c.1,int c.2.1,str c.2.2.1,lst c.2.2.2.1,lst c.2.2.2.2]]]).bind fun l=>some (agg [int e,int f,str g,lst h,lst l])
def uG:Nat->Dt->ByteArray->Dt->Option Dt
 |0,_,_,_=>none
 |m+1,b,c,d=>(dA m b).bind fun a=>cond (a.1 !=5) (some (agg [int a.1,int a.2.1,str a.2.2.1,lst a.2.2.2.1,lst a.2.2.2.2])) (Hl m c d aj a.1 a.2.1 a.2.2.1 a.2.2.2.1 a.2.2.2.2)
def rJ(m:Nat)(a:Q24)(b:Bool)(c:List Dt)(d e:Int)(f g:Dt):Option Dt:=
 a b c d (wrap .i64 (e+1)) f g
def wT(m:Nat)(a:Q24)(c:Bool)(d:List Dt)(e f:Int)(g b:Dt):Option Dt:=
 cond (1024<((L b 4).length:Int)) ((cO m).bind fun h=>some h) (rJ m a c d e f g b)
def rM(m:Nat)(a:Q24):Nat->Bool->List Dt->Int->Int->List Dt->Int->Int->Dt->Dt->Option Dt
 |0,_,_,_,_,_,_,_,_,_=>none
 |l+1,c,d,e,f,g,h,b,i,j=>cond (b<h) ((idx g b).bind fun k=>(uG m j (S k 0) (fld k 1)).bind fun n=>rM m a l c d e f g h (wrap .i64 (b+1)) i n) (wT m a c d e f i j)
def vo(m:Nat)(a:Q24)(b:Bool)(c:List Dt)(d e i:Int)(j:Bool)(f h g:Dt):Option Dt:=
 cond j (rJ m a b c d e f h) (cond (i==5) (cond b (rJ m a false c d e f g) (rM m a (succ m) b c d e (L g 4) ((L g 4).length:Int) 0 f h)) ((cO m).bind fun k=>some k))
def gM(m:Nat):Nat->Bool->List Dt->Int->Int->Dt->Dt->Option Dt
 |0,_,_,_,_,_,_=>none
 |f+1,g,c,d,b,h,e=>cond (b<d) ((idx c b).bind fun a=>cond (I a 0==0) (vo m (gM m f) g c d b (I a 0) (I a 0==0) h e a) (vo m (gM m f) g c d b (I a 0) (I a 0==2) h e a)) (some e)
def qD:Nat->List Dt->Option Dt
 |0,_=>none
 |m+1,a=>gM m (succ m) true a (a.length:Int) 0 aj M9
def fV(m:Nat)(a:Q32)(b:ByteArray)(c d:Int)(e:Bool):Option Bool:=
 cond e (some false) (a b c (wrap .i64 (d+1)))
def fZ(m:Nat):Nat->ByteArray->Int->Int->Option Bool
 |0,_,_,_=>none
 |d+1,b,c,a=>cond (a<c) ((idxS b a).bind fun e=>cond (e<33) (fV m (fZ m d) b c a true) ((idxS b a).bind fun f=>cond (126<f) (fV m (fZ m d) b c a true) ((idxS b a).bind fun g=>fV m (fZ m d) b c a (g==46)))) (some true)
def gq(m:Nat)(a:ByteArray)(b:Bool):Option Bool:=
 cond b (some false) (fZ m (succ m) a (a.size:Int) 0)
def og:Nat->ByteArray->Option Bool
 |0,_=>none
 |m+1,a=>cond ((a.size:Int)<1) (gq m a true) (cond (32<(a.size:Int)) (gq m a true) ((idxS a 0).bind fun b=>gq m a (b==36)))
def nA(m:Nat)(a:Q9)(b:Q18):Nat->List Dt->Int->Int->Option Bool
 |0,_,_,_=>none
 |f+1,d,e,c=>cond (c<e) ((idx d c).bind fun g=>(a g).bind fun h=>cond (!h) (some false) (nA m a b f d e (wrap .i64 (c+1)))) (some true)
def tF(m:Nat)(b:Q9)(a:Q18)(c:List Dt)(d e:Int):Option Bool:=
 nA m b a (succ m) c d e
def fQ(m:Nat)(c:Q9)(a:Q18)(d:Int)(e:Bool)(b:Dt):Option Bool:=
 cond e (some true) (cond (d==9) (cond (I b 1==0) (some true) (some (I b 1==1))) (cond (d==10) (some (decide (0<=I b 1))) (cond (d==4) (cond (((S b 2).size:Int)<=4096) ((utf8_ValidString (S b 2)).bind fun f=>some f) (some false)) (cond (d==7) (some (decide (((S b 2).size:Int)<=4096))) (cond (d==8) (some (((S b 2).size:Int)==12)) (cond (d==6) (tF m c a (L b 3) ((L b 3).length:Int) 0) (cond (d==5) ((a (L b 4)).bind fun g=>some g) (some false))))))))
def nC(m:Nat)(b:Q9)(a:Q18)(c:Dt):Option Bool:=
 cond (I c 0==1) (fQ m b a (I c 0) (I c 0==1) c) (cond (I c 0==2) (fQ m b a (I c 0) (I c 0==2) c) (cond (I c 0==11) (fQ m b a (I c 0) (I c 0==11) c) (fQ m b a (I c 0) (I c 0==3) c)))
def gU(m:Nat)(b:Q9)(a:Q18)(c:Bool)(d:Dt):Option Bool:=
 cond c (some false) (nC m b a d)
def nD(m:Nat)(b:Q9)(a:Q18)(c:Dt):Option Bool:=
 cond (I c 0 !=6) (cond (0<((L c 3).length:Int)) (gU m b a true c) (cond (I c 0 !=5) (gU m b a (decide (0<((L c 4).length:Int))) c) (gU m b a false c))) (cond (I c 0 !=5) (gU m b a (decide (0<((L c 4).length:Int))) c) (gU m b a false c))
def gV(m:Nat)(b:Q9)(a:Q18)(c:Bool)(d:Dt):Option Bool:=
 cond c (some false) (nD m b a d)
def gW(m:Nat)(b:Q9)(a:Q18)(e d:Bool)(c:Dt):Option Bool:=
 cond (!e) (cond (I c 1 !=0) (gV m b a true c) (cond (!d) (gV m b a (!(S c 2).toList==[]) c) (gV m b a false c))) (cond (!d) (gV m b a (!(S c 2).toList==[]) c) (gV m b a false c))
def gX(m:Nat)(b:Q9)(a:Q18)(d:Bool)(c:Dt):Option Bool:=
 cond (I c 0==4) (gW m b a d true c) (cond (I c 0==7) (gW m b a d true c) (gW m b a d (I c 0==8) c))
def fA(m:Nat)(b:Q9)(a:Q26)(c:List Dt)(d e:Int)(f:Bool)(g:List Dt)(h:Dt):Option Bool:=
 cond f (some false) (a c d (wrap .i64 (e+1)) (mput g (S h 0) (bool true)))
def eD(m:Nat)(a:Q9):Nat->List Dt->Int->Int->List Dt->Option Bool
 |0,_,_,_,_=>none
 |g+1,d,e,c,f=>cond (c<e) ((idx d c).bind fun b=>(og m (S b 0)).bind fun h=>cond (!h) (fA m a (eD m a g) d e c true f b) (cond (Dt.toBool (mgetD f (S b 0) (bool false))) (fA m a (eD m a g) d e c true f b) ((a (fld b 1)).bind fun i=>fA m a (eD m a g) d e c (!i) f b))) (some true)
mutual
def bP:Nat->Dt->Option Bool
 |0,_=>none
 |m+1,a=>cond (I a 0==3) (gX m (bP m) (bL m) true a) (cond (I a 0==9) (gX m (bP m) (bL m) true a) (gX m (bP m) (bL m) (I a 0==10) a))
def bL:Nat->List Dt->Option Bool
 |0,_=>none
 |m+1,a=>eD m (bP m) (succ m) a (a.length:Int) 0 []
end
def lH:Nat->Dt->Option Bool
 |0,_=>none
 |m+1,a=>(nQ m a).bind fun b=>cond (b<=1024) ((nR m a).bind fun c=>cond (c<=16) ((bP m a).bind fun d=>some d) (some false)) (some false)
def oK(m:Nat)(a:Q3)(b:Q3):Nat->Dt->Dt->Dt->Option Dt
 |0,_,_,_=>none
 |e+1,c,d,f=>cond (!List.isEmpty (toLst c)) ((idx (toLst c) 0).bind fun g=>bif (S g 0).toList==(S d 2).toList then(idx (toLst c) 0).bind fun h=>(bZ m (fld h 1) (L d 1)).bind fun i=>some i else(idx (toLst c) 0).bind fun j=>oK m a b e (fld j 2) d f) (some aj)
def iI(m:Nat)(b:Q3)(c:Q3)(i:Int)(k:Bool)(j n:Dt)(a:List Dt):Option Dt:=
 cond k ((dM m (I j 0) a).bind fun d=>some d) (cond (i==36) ((inL a 0).bind fun l=>(a[0]?).bind fun e=>(bU m (I e 0)).bind fun f=>some f) (cond (i==37) ((qD m a).bind fun g=>some g) ((eF m j a).bind fun h=>some h)))
def jR(m:Nat)(a:Q3)(b:Q3)(c:Int)(h:Bool)(d f:Dt)(e:List Dt):Option Dt:=
 cond h ((d9 (I d 0) e).bind fun g=>some g) (cond (c==26) (iI m a b c (c==26) d f e) (cond (c==30) (iI m a b c (c==30) d f e) (cond (c==31) (iI m a b c (c==31) d f e) (cond (c==29) (iI m a b c (c==29) d f e) (cond (c==27) (iI m a b c (c==27) d f e) (iI m a b c (c==28) d f e))))))
def jS(m:Nat)(a:Q3)(b:Q3)(c:Int)(h:Bool)(d f:Dt)(e:List Dt):Option Dt:=
 cond h ((gQ m (I d 0) e).bind fun g=>some g) (cond (c==21) (jR m a b c (c==21) d f e) (cond (c==22) (jR m a b c (c==22) d f e) (cond (c==23) (jR m a b c (c==23) d f e) (cond (c==24) (jR m a b c (c==24) d f e) (jR m a b c (c==25) d f e)))))
def gH(m:Nat)(a:Q3)(b:Q3)(c:Int)(k:Bool)(e f:Dt)(d:List Dt):Option Dt:=
 cond k ((inL d 0).bind fun l=>(d[0]?).bind fun g=>(inL d 1).bind fun n=>(d[1]?).bind fun h=>(bD m g h).bind fun i=>(jy m (I e 0) i).bind fun j=>some j) (cond (c==16) (jS m a b c (c==16) e f d) (cond (c==17) (jS m a b c (c==17) e f d) (cond (c==18) (jS m a b c (c==18) e f d) (cond (c==19) (jS m a b c (c==19) e f d) (jS m a b c (c==20) e f d)))))
def jU(m:Nat)(a:Q3)(b:Q3)(c:Int)(h:Bool)(d f:Dt)(e:List Dt):Option Dt:=
 cond h ((dW m (I d 0) e).bind fun g=>some g) (cond (c==9) (gH m a b c (c==9) d f e) (cond (c==10) (gH m a b c (c==10) d f e) (cond (c==11) (gH m a b c (c==11) d f e) (cond (c==12) (gH m a b c (c==12) d f e) (cond (c==13) (gH m a b c (c==13) d f e) (cond (c==14) (gH m a b c (c==14) d f e) (gH m a b c (c==15) d f e)))))))
def aJ(m:Nat)(a:Q3)(b:Q3)(c d:Dt)(e:List Dt):Option Dt:=
 cond (I c 0==4) (jU m a b (I c 0) (I c 0==4) c d e) (cond (I c 0==5) (jU m a b (I c 0) (I c 0==5) c d e) (cond (I c 0==6) (jU m a b (I c 0) (I c 0==6) c d e) (cond (I c 0==7) (jU m a b (I c 0) (I c 0==7) c d e) (jU m a b (I c 0) (I c 0==8) c d e))))
def oL(m:Nat)(a:Q3)(b:Q3):Nat->Dt->List Dt->Int->Int->Dt->Dt->Dt->List Dt->Option Dt
 |0,_,_,_,_,_,_,_,_=>none
 |k+1,e,f,g,c,h,i,j,d=>cond (c<g) ((idx f c).bind fun l=>(a l i e).bind fun n=>(inL d c).bind fun p=>(d[c.toNat]?).bind fun o=>oL m a b k e f g (wrap .i64 (c+1)) h i j (List.set d c.toNat n)) (aJ m a b h j d)
def vR(m:Nat)(b:Q3)(a:Q3)(d:Dt)(f:Bool)(c e g:Dt):Option Dt:=
 cond f ((a c e d).bind fun h=>some h) ((mkL ((L c 6).length:Int) ((L c 6).length:Int) aj).bind fun i=>oL m b a (succ m) d (L c 6) ((L c 6).length:Int) 0 c e g i)
def tH(m:Nat)(b:Q3)(a:Q80)(e:Dt)(f:List Dt)(g h:Int)(i j k:Dt)(l n:Int)(o:ByteArray)(c d:List Dt):Option Dt:=
 a e f g (wrap .i64 (h+1)) i j k l n o c d
def lI(m:Nat)(a:Q3):Nat->Dt->List Dt->Int->Int->Dt->Dt->Dt->Int->Int->ByteArray->List Dt->List Dt->Option Dt
 |0,_,_,_,_,_,_,_,_,_,_,_,_=>none
 |n+1,f,g,h,e,d,i,o,j,k,l,b,c=>cond (e<h) ((idx g e).bind fun p=>(idx (L d 6) 1).bind fun r=>(a r i (lst [agg [str (S d 2),p,f]])).bind fun q=>cond (I d 0==32) ((iw m q).bind fun s=>(app b [s]).bind fun t=>tH m a (lI m a n) f g h e d i o j k l t c) ((eB m q).bind fun u=>cond u ((app b [p]).bind fun v=>tH m a (lI m a n) f g h e d i o j k l v c) (tH m a (lI m a n) f g h e d i o j k l b c))) (some (agg [int j,int k,str l,lst b,lst c]))
mutual
def cZ:Nat->Dt->Dt->Dt->Option Dt
 |0,_,_,_=>none
 |m+1,b,c,d=>(fF m b c d).bind fun a=>cond (I a 0==0) (some aj) ((lH m a).bind fun e=>cond (!e) ((cO m).bind fun f=>some f) (some a))
def fF:Nat->Dt->Dt->Dt->Option Dt
 |0,_,_,_=>none
 |m+1,a,b,c=>cond (I a 0==1) (some (fld a 4)) (cond (I a 0==2) ((bZ m b (L a 1)).bind fun d=>some d) (cond (I a 0==3) (oK m (cZ m) (eG m) (succ m) c a aj) (cond (I a 0==32) (vR m (cZ m) (eG m) c (I a 0==32) a b aj) (vR m (cZ m) (eG m) c (I a 0==33) a b aj))))
def eG:Nat->Dt->Dt->Dt->Option Dt
 |0,_,_,_=>none
 |m+1,b,c,d=>(idx (L b 6) 0).bind fun e=>(cZ m e c d).bind fun a=>cond (I a 0 !=6) ((cO m).bind fun f=>some f) (lI m (cZ m) (succ m) d (L a 3) ((L a 3).length:Int) 0 b c aj 6 0 (ByteArray.mk (List.toArray [])) [] [])
end
def ku(m:Nat)(a:Bool):Option Int:=
 cond a (some 4) (some 0)
def su(m:Nat)(a:Dt):Option Int:=
 cond (I a 0 !=1) ((qh m (fld a 4)).bind fun b=>cond (!b) (ku m true) (ku m (I a 5 !=0))) (ku m (I a 5 !=0))
def dx(m:Nat)(a:Bool)(b:Dt):Option Int:=
 cond a (some 4) (su m b)
def sw(m:Nat)(c b:Bool)(a:Dt):Option Int:=
 cond (!c) (cond (0<((L a 1).length:Int)) (dx m true a) (cond (!b) (cond (!(S a 2).toList==[]) (dx m true a) (cond (I a 0 !=34) (dx m (decide (0<((L a 3).length:Int))) a) (dx m false a))) (cond (I a 0 !=34) (dx m (decide (0<((L a 3).length:Int))) a) (dx m false a)))) (cond (!b) (cond (!(S a 2).toList==[]) (dx m true a) (cond (I a 0 !=34) (dx m (decide (0<((L a 3).length:Int))) a) (dx m false a))) (cond (I a 0 !=34) (dx m (decide (0<((L a 3).length:Int))) a) (dx m false a)))
def oh(m:Nat)(a b c:Bool)(d:Dt):Option Int:=
 cond c (some 8) (sw m a b d)
def tJ(m:Nat)(b c:Bool)(a:Dt):Option Int:=
 cond (I a 0==1) ((lH m (fld a 4)).bind fun d=>oh m b c (!d) a) (oh m b c false a)
def gY(m:Nat)(a b c:Bool)(d:Dt):Option Int:=
 cond c (some 9) (tJ m a b d)
def tK(m:Nat)(c b:Bool)(a:Dt):Option Int:=
 cond b ((kX m (S a 2)).bind fun d=>cond (!d) (gY m c b true a) (cond (I a 0==34) ((eY m (L a 3)).bind fun e=>gY m c b (!e) a) (gY m c b false a))) (cond (I a 0==34) ((eY m (L a 3)).bind fun f=>gY m c b (!f) a) (gY m c b false a))
def je(m:Nat)(a b c:Bool)(d:Dt):Option Int:=
 cond c (some 10) (tK m a b d)
def lJ(m:Nat)(b c:Bool)(a:Dt):Option Int:=
 cond b ((nY m (L a 1)).bind fun d=>cond (!d) (cond (I a 0==2) (je m b c true a) (je m b c (decide (0<((L a 1).length:Int))) a)) (je m b c false a)) (je m b c false a)
def pV(m:Nat)(b:Bool)(a:Dt):Option Int:=
 cond (I a 0==3) (lJ m b true a) ((qj m (I a 0)).bind fun c=>lJ m b (c==3) a)
def pW(m:Nat)(b:Bool)(a:Dt):Option Int:=
 cond b (some 11) (cond (I a 0==2) (pV m true a) (pV m (I a 0==3) a))
def lK(m:Nat)(b:Bool)(a:Dt):Option Int:=
 cond b (some 11) (cond (I a 0==34) (pW m (((L a 6).length:Int) !=((L a 3).length:Int)) a) (pW m false a))
def kC:Nat->Dt->Option Int
 |0,_=>none
 |m+1,a=>cond (I a 0<1) (lK m true a) (cond (37<I a 0) (lK m true a) ((qj m (I a 0)).bind fun b=>(qK m b ((L a 6).length:Int)).bind fun c=>lK m (!c) a))
def abl(m:Nat)(b:Q10)(a:Q81)(c:Int)(d:List Dt)(e f g:Int):Option (Int×Int):=
 a c d e (wrap .i64 (f+1)) g
def Jr(m:Nat)(a:Q10):Nat->Int->List Dt->Int->Int->Int->Option (Int×Int)
 |0,_,_,_,_,_=>none
 |h+1,d,e,f,c,g=>cond (c<f) ((idx e c).bind fun i=>(a i (wrap .i64 (d+1)) g).bind fun b=>cond (b.1 !=0) (some (b.1,b.2)) (abl m a (Jr m a h) d e f c b.2)) (some (0,g))
def VP(m:Nat)(a:Q10)(e:Int)(f:Bool)(b:Int)(c:Dt):Option (Int×Int):=
 cond f (some (2,b)) ((kC m c).bind fun d=>cond (d !=0) (some (d,wrap .i64 (b+1))) (Jr m a (succ m) e (L c 6) ((L c 6).length:Int) 0 (wrap .i64 (b+1))))
def i46:Nat->Dt->Int->Int->Option (Int×Int)
 |0,_,_,_=>none
 |m+1,c,a,b=>cond (16<a) (VP m (i46 m) a true b c) (VP m (i46 m) a (b==256) b c)
def sF:Nat->Dt->Option Int
 |0,_=>none
 |m+1,a=>(i46 m a 1 0).bind fun b=>some b.1
def kR:Nat->Dt->Dt->Option Dt
 |0,_,_=>none
 |m+1,a,b=>(sF m a).bind fun c=>cond (c !=0) (some aj) ((cZ m a b (lst [])).bind fun d=>(bR m d).bind fun e=>some e)
def oM(m:Nat):Nat->List Dt->Int->Int->Dt->List Dt->Option (List Dt×Int)
 |0,_,_,_,_,_=>none
 |g+1,b,c,a,d,e=>cond (a<c) ((idx b a).bind fun h=>(kR m d h).bind fun f=>cond (I f 0 !=5) (some ([],8)) ((app e [f]).bind fun i=>oM m g b c (wrap .i64 (a+1)) d i)) (some (e,0))
def qO:Nat->Dt->List Dt->Option (List Dt×Int)
 |0,_,_=>none
 |m+1,b,a=>oM m (succ m) a (a.length:Int) 0 b []
def uI(m:Nat)(a:Q43)(b:List Dt)(c d:Int)(e:Dt)(f g h i:List Dt):Option (List Dt):=
 a b c (wrap .i64 (d+1)) e f g h i
def jV(m:Nat)(b:Q43)(f:Int)(g:List Dt)(h i:Int)(j:Dt)(k l c d:List Dt):Option (List Dt):=
 (inL d f).bind fun q=>(d[f.toNat]?).bind fun a=>(inL c (toInt a)).bind fun n=>(c[(toInt a).toNat]?).bind fun e=>(inL c (toInt a)).bind fun o=>(c[(toInt a).toNat]?).bind fun p=>uI m b g h i j k l (List.set c (toInt a).toNat (int (wrap .i64 (toInt e+1)))) d
def iJ(m:Nat)(a:Q43)(h:List Dt)(i j:Int)(k:Dt)(b e l f:List Dt)(n:Dt):Option (List Dt):=
 (i15 m f n (lst (frzD (Option.some 4) b e))).bind fun d=>cond (!d.2) ((lV d.1 f [int (b.length:Int)]).bind fun o=>(kK m n 0).bind fun c=>(app b [aj]).bind fun g=>(inL g (b.length:Int)).bind fun q=>(g[(b.length:Int).toNat]?).bind fun r=>(app l [int 0]).bind fun p=>jV m a d.1 h i j k (List.set g (b.length:Int).toNat (agg [int c.1,int c.2.1,str c.2.2.1,lst c.2.2.2.1,bool true])) (List.set (e++[lst []]) (b.length:Int).toNat (lst c.2.2.2.2)) p o) (jV m a d.1 h i j k b e l f)
def uJ(m:Nat)(a:Q43)(b:List Dt)(e c:Int)(d:Dt)(f g h i:List Dt):Option (List Dt):=
 (idx b c).bind fun k=>(kR m d k).bind fun j=>cond (I j 0==0) (iJ m a b e c d f g h i pR) (iJ m a b e c d f g h i j)
def tL(m:Nat)(a:Q82)(b:List Dt)(c d:Int)(e f:List Dt):Option (List Dt):=
 a b c (wrap .i64 (d+1)) e f
def uK(m:Nat)(c:Q82)(i:List Dt)(k a:Int)(d j:List Dt):Option (List Dt):=
 (idx i a).bind fun e=>(inL d a).bind fun l=>(d[a.toNat]?).bind fun f=>cond (lkd (Option.some 4) f) ((j[a.toNat]?).bind fun b=>(ig m (toInt e)).bind fun g=>(inL (toLst b) 1).bind fun n=>((toLst b)[1]?).bind fun h=>tL m c i k a d (List.set (List.set j a.toNat (lst [])) a.toNat (lst (List.set (toLst b) 1 (agg [str (S h 0),g]))))) none
def lM(m:Nat)(b:List Dt):Option (List Dt):=
 (i21 m b).bind fun a=>some a
def jW(m:Nat):Nat->List Dt->Int->Int->List Dt->List Dt->Option (List Dt)
 |0,_,_,_,_,_=>none
 |e+1,f,a,b,c,d=>cond (b<a) (uK m (jW m e) f a b c d) (lM m (frzD (Option.some 4) c d))
def nE(m:Nat)(b c a:List Dt):Option (List Dt):=
 jW m (succ m) a (a.length:Int) 0 b c
def iK(m:Nat):Nat->List Dt->Int->Int->Dt->List Dt->List Dt->List Dt->List Dt->Option (List Dt)
 |0,_,_,_,_,_,_,_,_=>none
 |f+1,g,a,b,h,c,d,e,i=>cond (b<a) (uJ m (iK m f) g a b h c d e i) (nE m c d e)
def mq:Nat->Dt->List Dt->Option (List Dt)
 |0,_,_=>none
 |m+1,b,a=>iK m (succ m) a (a.length:Int) 0 b [] [] [] []
def gI(m:Nat)(a:List Dt)(e:Bool)(b:Dt):Option Bool:=
 cond e ((FN).bind fun f=>some f) ((qO m b a).bind fun c=>(uF m b a).bind fun d=>cond (c.2==d.2) ((bY m c.1 d.1).bind fun g=>cond g ((mq m b a).bind fun h=>(qB m b a).bind fun i=>(bY m h i).bind fun j=>cond j ((FN).bind fun k=>some k) (some false)) (some false)) (some false))
def lN:Nat->Dt->List Dt->Option Bool
 |0,_,_=>none
 |m+1,a,b=>(nP m b).bind fun c=>cond (!c) (gI m b true a) ((jL m a).bind fun d=>gI m b (d !=0) a)
