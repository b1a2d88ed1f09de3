/- Generated: what the Go functions compute, over plain data. -/
import Derived.Test.YtmecfjhdnbgfeaaGreatDoorA3
import Derived.Test.YtmecfjhdnbgfeaaGreatDoorP1A
import Derived.Test.YtmecfjhdnbgfeaaGreatDoorOK
import Derived.Test.YtmecfjhdnbgfeaaGreatDoorOL
set_option linter.all false
noncomputable section
namespace Go.Proofs.YtmecfjhdnbgfeaaGreatDoor
open Nat (succ)
open IntKind (wrap)
open Go.Am Dt
abbrev Q0:=Nat->Nat->Nat->St->Option Bool->Option Bool
abbrev Q1:=Nat->Nat->Nat->St->Option Int->Option Int
abbrev Q2:=Dt->Dt->Dt->Option Dt
abbrev Q3:=Int->Int->Int->List Dt->Option (List Dt)
abbrev Q4:=Nat->Nat->Nat->St->Option Dt->Option Dt
abbrev Q5:=Dt->Bool->Option Bool
abbrev Q6:=Dt->Dt->Option Int
abbrev Q7:=Dt->Option Dt
abbrev Q8:=Dt->Option Bool
abbrev Q9:=Dt->Int->Int->Option (Int×Int)
abbrev Q10:=Nat->Nat->Nat->St->Option (List Dt)->Option (List Dt)
abbrev Q11:=ByteArray->Int->Option Bool
abbrev Q12:=Dt->Int->Int->Option (Bool×Int×Int)
abbrev Q13:=Int->Int->List Dt->Option (List Dt)
abbrev Q14:=Dt->Dt->Option Bool
abbrev Q15:=List Dt->Option Bool
abbrev Q16:=List Dt->Int->Int->Dt->Int->Int->ByteArray->List Dt->List Dt->Option Dt
abbrev Q17:=Dt->Int->Option Int
abbrev Q18:=Bool->Int->Dt->Option Bool
abbrev Q20:=List Dt->Int->Option Bool
abbrev Q21:=Dt->List Dt->Option Dt
abbrev Q22:=Bool->List Dt->Int->Int->Dt->Dt->Option Dt
abbrev Q24:=List Dt->Int->Int->List Dt->Option Bool
abbrev Q25:=Dt->Option (Int×Int×ByteArray×List Dt×List Dt)
abbrev Q27:=Int->List Dt->Int->Int->Option Int
abbrev Q28:=ByteArray->Int->Int->Option Bool
abbrev Q29:=Nat->Nat->Nat->St->Option (Int×Int)->Option (Int×Int)
abbrev Q30:=Int->Dt->Dt->Option Int
abbrev Q32:=Int->Dt->Dt->Option Bool
abbrev Q33:=List Dt->Int->Int->Dt->Dt->Int->Int->ByteArray->List Dt->List Dt->Option Dt
abbrev Q38:=List Dt->Int->List Dt->Int->Int->Dt->List Dt->Option (List Dt)
abbrev Q39:=List Dt->Int->Int->Dt->List Dt->List Dt->List Dt->List Dt->Option (List Dt)
abbrev Q40:=ByteArray->Int->Int->Int->Option Bool
abbrev Q41:=Int->Int->Int->Dt->Option (Int×Int)
abbrev Q43:=Int->Bool->Bool->List Dt->Int->Int->Dt->Option Dt
abbrev Q45:=List Dt->List Dt->Bool->List Dt->Int->Int->Dt->Option Bool
abbrev Q46:=Nat->Nat->Nat->St->Option (Int×Int×ByteArray×List Dt×List Dt)->Option (Int×Int×ByteArray×List Dt×List Dt)
abbrev Q47:=Nat->Nat->Nat->St->Option (Int×Bool)->Option (Int×Bool)
abbrev Q48:=Nat->Nat->Nat->St->Option (Bool×Int×Int)->Option (Bool×Int×Int)
abbrev Q50:=List Dt->Int->Int->Dt->Dt->Int->Int->ByteArray->List Dt->Option Dt
abbrev Q54:=List Dt->List Dt->Int->Int->Dt->Int->Int->ByteArray->List Dt->List Dt->Option Dt
abbrev Q61:=Dt->List Dt->Int->Int->Dt->Dt->Dt->Int->Int->ByteArray->List Dt->List Dt->Option Dt
abbrev Q62:=Int->List Dt->Int->Int->Int->Option (Int×Int)
abbrev Q63:=List Dt->Int->Int->List Dt->List Dt->Option (List Dt)
abbrev Q64:=List Dt->List Dt->Int->Dt->Option (List Dt)
abbrev Q65:=List Dt->Int->List Dt->Int->Int->List Dt->Option (List Dt)
abbrev Q67:=List Dt->Dt->Int->Int->Int->Dt->Option (Int×Bool)
abbrev Q69:=List Dt->Int->Int->Int->Dt->Option (Int×Bool)
abbrev Q70:=Nat->Nat->Nat->St->Option (Dt×Bool)->Option (Dt×Bool)
def aC:Dt:=
 agg [int 0,int 0,str (ByteArray.mk (List.toArray [])),lst [],lst []]
def Bq:Dt:=
 agg [str (ByteArray.mk (List.toArray [])),agg [int 0,int 0,str (ByteArray.mk (List.toArray [])),lst [],lst []]]
def mP:Dt:=
 agg [int 2,int 0,str (ByteArray.mk (List.toArray [])),lst [],lst []]
def Y6:Dt:=
 agg [int 9,int 0,str (ByteArray.mk (List.toArray [])),lst [],lst []]
def Y7:Dt:=
 agg [int 9,int 1,str (ByteArray.mk (List.toArray [])),lst [],lst []]
def Y8:Dt:=
 agg [int 5,int 0,str (ByteArray.mk (List.toArray [])),lst [],lst []]
def dQ:Nat->Int->Int->Option Int
 |0,_,_=>none
 |m+1,a,b=>cond (a<b) (some (-1)) (cond (b<a) (some 1) (some 0))
def oo(m:Nat):Nat->ByteArray->ByteArray->Int->Option Int
 |0,_,_,_=>none
 |e+1,b,c,a=>cond (a<(b.size:Int)) (bif a<(c.size:Int)then(idxS b a).bind fun f=>(idxS c a).bind fun g=>cond (f !=g) ((idxS b a).bind fun h=>(idxS c a).bind fun i=>(dQ m (wrap .i64 h) (wrap .i64 i)).bind fun j=>some j) (oo m e b c (wrap .i64 (a+1)))else(dQ m (b.size:Int) (c.size:Int)).bind fun d=>some d) ((dQ m (b.size:Int) (c.size:Int)).bind fun d=>some d)
def jw:Nat->ByteArray->ByteArray->Option Int
 |0,_,_=>none
 |m+1,a,b=>oo m (succ m) a b 0
def lg(m:Nat)(a:Q6)(b c:Dt):Option Int:=
 (dQ m ((L b 3).length:Int) ((L c 3).length:Int)).bind fun d=>some d
def lC(m:Nat)(a:Q6):Nat->Int->Dt->Dt->Option Int
 |0,_,_,_=>none
 |f+1,b,c,d=>cond (b<((L c 3).length:Int)) (bif b<((L d 3).length:Int)then(idx (L c 3) b).bind fun g=>(idx (L d 3) b).bind fun h=>(a g h).bind fun e=>cond (e !=0) (some e) (lC m a f (wrap .i64 (b+1)) c d)else lg m a c d) (lg m a c d)
def rA(m:Nat)(a:Q6)(b:Int)(c d:Dt):Option Int:=
 lC m a (succ m) b c d
def nS(m:Nat)(b:Q6)(a:Q30)(d c:Int)(e f:Dt):Option Int:=
 cond (c !=0) (some c) (a (wrap .i64 (d+1)) e f)
def kr(m:Nat)(a:Q6)(c d:Dt):Option Int:=
 (dQ m ((L c 4).length:Int) ((L d 4).length:Int)).bind fun b=>some b
def gX(m:Nat)(a:Q6):Nat->Int->Dt->Dt->Option Int
 |0,_,_,_=>none
 |h+1,b,c,d=>cond (b<((L c 4).length:Int)) (bif b<((L d 4).length:Int)then(idx (L c 4) b).bind fun j=>(idx (L d 4) b).bind fun k=>(jw m (S j 0) (S k 0)).bind fun i=>cond (i==0) ((idx (L c 4) b).bind fun e=>(idx (L d 4) b).bind fun f=>(a (fld e 1) (fld f 1)).bind fun g=>nS m a (gX m a h) b g c d) (nS m a (gX m a h) b i c d)else kr m a c d) (kr m a c d)
def rF(m:Nat)(a:Q6)(b:Int)(c d:Dt):Option Int:=
 gX m a (succ m) b c d
def vR(m:Nat)(a:Q6):Option Int:=
 some 0
def lD(m:Nat)(a:Q6)(d:Int)(e:Bool)(b c:Dt):Option Int:=
 cond e ((jw m (S b 2) (S c 2)).bind fun f=>some f) (cond (d==6) (rA m a 0 b c) (cond (d==5) (rF m a 0 b c) (vR m a)))
def lF(m:Nat)(a:Q6)(b:Int)(e:Bool)(c d:Dt):Option Int:=
 cond e ((dQ m (I c 1) (I d 1)).bind fun f=>some f) (cond (b==4) (lD m a b (b==4) c d) (cond (b==7) (lD m a b (b==7) c d) (lD m a b (b==8) c d)))
def oL(m:Nat)(a:Q6)(b c:Dt):Option Int:=
 cond (I b 0==3) (lF m a (I b 0) (I b 0==3) b c) (cond (I b 0==9) (lF m a (I b 0) (I b 0==9) b c) (lF m a (I b 0) (I b 0==10) b c))
def bP:Nat->Dt->Dt->Option Int
 |0,_,_=>none
 |m+1,a,b=>cond (I a 0 !=I b 0) ((dQ m (I a 0) (I b 0)).bind fun c=>some c) (oL m (bP m) a b)
def gU:Nat->Int->Option Dt
 |0,_=>none
 |m+1,a=>some (agg [int 3,int a,str (ByteArray.mk (List.toArray [])),lst [],lst []])
def eD:Nat->Dt->Int->Option (Int×Int×ByteArray×List Dt×List Dt)
 |0,_,_=>none
 |m+1,a,b=>(gU m b).bind fun c=>some (5,0,ByteArray.mk (List.toArray []),[],[agg [str (ByteArray.mk (List.toArray [95,105,100])),a],agg [str (ByteArray.mk (List.toArray [99,111,117,110,116])),c]])
def FV(m:Nat):Nat->Int->Int->Int->Int->List Dt->Option (List Dt)
 |0,_,_,_,_,_=>none
 |g+1,c,d,f,a,b=>cond (a<f) ((inL b (wrap .i64 (d+a))).bind fun i=>(b[(wrap .i64 (d+a)).toNat]?).bind fun e=>(inL b (wrap .i64 (c+a))).bind fun j=>(b[(wrap .i64 (c+a)).toNat]?).bind fun h=>(inL b (wrap .i64 (c+a))).bind fun k=>(b[(wrap .i64 (c+a)).toNat]?).bind fun l=>(inL (List.set b (wrap .i64 (c+a)).toNat e) (wrap .i64 (d+a))).bind fun n=>((List.set b (wrap .i64 (c+a)).toNat e)[(wrap .i64 (d+a)).toNat]?).bind fun o=>FV m g c d f (wrap .i64 (a+1)) (List.set (List.set b (wrap .i64 (c+a)).toNat e) (wrap .i64 (d+a)).toNat h)) (some b)
def i30:Nat->Int->Int->Int->List Dt->Option (List Dt)
 |0,_,_,_,_=>none
 |m+1,a,b,c,d=>FV m (succ m) a b c 0 d
def zM(m:Nat):Nat->Int->Int->Int->List Dt->Option (List Dt)
 |0,_,_,_,_=>none
 |e+1,b,a,c,d=>cond (a !=c) (cond (c<a) ((i30 m (wrap .i64 (b-a)) b c d).bind fun f=>zM m e b (wrap .i64 (a-c)) c f) ((i30 m (wrap .i64 (b-a)) (wrap .i64 (wrap .i64 (b+c)-a)) a d).bind fun g=>zM m e b a (wrap .i64 (c-a)) g)) ((i30 m (wrap .i64 (b-a)) b a d).bind fun h=>some h)
def i29:Nat->Int->Int->Int->List Dt->Option (List Dt)
 |0,_,_,_,_=>none
 |m+1,b,a,c,d=>zM m (succ m) a (wrap .i64 (a-b)) (wrap .i64 (c-a)) d
def iL(m:Nat)(a:Q7):Nat->List Dt->Int->Int->Dt->Int->Int->ByteArray->List Dt->List Dt->Option Dt
 |0,_,_,_,_,_,_,_,_,_=>none
 |k+1,c,d,b,l,e,f,g,h,i=>cond (b<d) ((idx c b).bind fun j=>(a (fld j 1)).bind fun n=>(app i [agg [str (S j 0),n]]).bind fun o=>iL m a k c d (wrap .i64 (b+1)) l e f g h o) (some (agg [int e,int f,str g,lst h,lst i]))
def sP(m:Nat)(a:Q7)(b c:Dt)(d e:Int)(f:ByteArray)(g h:List Dt):Option Dt:=
 iL m a (succ m) (L b 4) ((L b 4).length:Int) 0 c d e f g h
def fV(m:Nat)(a:Q7):Nat->List Dt->Int->Int->Dt->Dt->Int->Int->ByteArray->List Dt->List Dt->Option Dt
 |0,_,_,_,_,_,_,_,_,_,_=>none
 |l+1,c,d,b,e,f,g,h,i,j,k=>cond (b<d) ((idx c b).bind fun n=>(a n).bind fun o=>(app j [o]).bind fun p=>fV m a l c d (wrap .i64 (b+1)) e f g h i p k) (sP m a e f g h i j k)
def bR:Nat->Dt->Option Dt
 |0,_=>none
 |m+1,a=>fV m (bR m) (succ m) (L a 3) ((L a 3).length:Int) 0 a aC (I a 0) (I a 1) (S a 2) [] []
def wX(m:Nat)(b:Q7)(a:Q50)(c:List Dt)(d e:Int)(f g:Dt)(h i:Int)(j:ByteArray)(k:List Dt):Option Dt:=
 a c d (wrap .i64 (e+1)) f g h i j k
def wY(m:Nat)(a:Q7)(b:Q50)(e:List Dt)(f c:Int)(g h:Dt)(i j:Int)(k:ByteArray)(d:List Dt):Option Dt:=
 (idx e c).bind fun l=>(a l).bind fun n=>(inL d c).bind fun o=>(d[c.toNat]?).bind fun p=>wX m a b e f c g h i j k (List.set d c.toNat n)
def wZ(m:Nat)(b:Q7)(a:Q16)(c:List Dt)(d e:Int)(f:Dt)(g h:Int)(i:ByteArray)(j k:List Dt):Option Dt:=
 a c d (wrap .i64 (e+1)) f g h i j k
def w9(m:Nat)(a:Q7)(b:Q16)(e:List Dt)(g c:Int)(h:Dt)(i j:Int)(k:ByteArray)(l d:List Dt):Option Dt:=
 (idx e c).bind fun f=>(a (fld f 1)).bind fun n=>(inL d c).bind fun o=>(d[c.toNat]?).bind fun p=>wZ m a b e g c h i j k l (List.set d c.toNat (agg [str (S f 0),n]))
def xg(m:Nat)(a:Q7)(g:Dt)(b c:Int)(d:ByteArray)(e f:List Dt):Option Dt:=
 some (agg [int b,int c,str d,lst e,lst f])
def nL(m:Nat)(a:Q7):Nat->List Dt->Int->Int->Dt->Int->Int->ByteArray->List Dt->List Dt->Option Dt
 |0,_,_,_,_,_,_,_,_,_=>none
 |j+1,k,b,c,d,e,f,g,h,i=>cond (c<b) (w9 m a (nL m a j) k b c d e f g h i) (xg m a d e f g h i)
def zN(m:Nat)(a:Q7)(f:Dt)(b c:Int)(d:ByteArray)(e:List Dt):Option Dt:=
 some (agg [int b,int c,str d,lst e,lst []])
def xk(m:Nat)(a:Q7)(b c:Dt)(d e:Int)(f:ByteArray)(g:List Dt):Option Dt:=
 cond (0<((L b 4).length:Int)) ((mkL ((L b 4).length:Int) ((L b 4).length:Int) Bq).bind fun h=>nL m a (succ m) (L b 4) ((L b 4).length:Int) 0 c d e f g h) (zN m a c d e f g)
def kU(m:Nat)(a:Q7):Nat->List Dt->Int->Int->Dt->Dt->Int->Int->ByteArray->List Dt->Option Dt
 |0,_,_,_,_,_,_,_,_,_=>none
 |j+1,k,b,c,d,e,f,g,h,i=>cond (c<b) (wY m a (kU m a j) k b c d e f g h i) (xk m a d e f g h i)
def uL(m:Nat)(b:Q7)(a:Q16)(c:List Dt)(d e:Int)(f:Dt)(g h:Int)(i:ByteArray)(j k:List Dt):Option Dt:=
 a c d (wrap .i64 (e+1)) f g h i j k
def uM(m:Nat)(a:Q7)(b:Q16)(g:List Dt)(h c:Int)(i:Dt)(j k:Int)(l:ByteArray)(n e:List Dt):Option Dt:=
 (idx g c).bind fun d=>(a (fld d 1)).bind fun f=>(inL e c).bind fun o=>(e[c.toNat]?).bind fun p=>uL m a b g h c i j k l n (List.set e c.toNat (agg [str (S d 0),f]))
def uN(m:Nat)(a:Q7)(g:Dt)(b c:Int)(d:ByteArray)(e f:List Dt):Option Dt:=
 some (agg [int b,int c,str d,lst e,lst f])
def lG(m:Nat)(a:Q7):Nat->List Dt->Int->Int->Dt->Int->Int->ByteArray->List Dt->List Dt->Option Dt
 |0,_,_,_,_,_,_,_,_,_=>none
 |b+1,k,c,d,e,f,g,h,i,j=>cond (d<c) (uM m a (lG m a b) k c d e f g h i j) (uN m a e f g h i j)
def zO(m:Nat)(a:Q7)(c b:Dt):Option Dt:=
 some b
def zP(m:Nat)(a:Q7)(b e c:Dt):Option Dt:=
 cond (0<((L b 4).length:Int)) ((mkL ((L b 4).length:Int) ((L b 4).length:Int) Bq).bind fun d=>lG m a (succ m) (L b 4) ((L b 4).length:Int) 0 e (I c 0) (I c 1) (S c 2) (L c 3) d) (zO m a e c)
def bO:Nat->Dt->Option Dt
 |0,_=>none
 |m+1,a=>cond (0<((L a 3).length:Int)) ((mkL ((L a 3).length:Int) ((L a 3).length:Int) aC).bind fun b=>kU m (bO m) (succ m) (L a 3) ((L a 3).length:Int) 0 a aC (I a 0) (I a 1) (S a 2) b) (zP m (bO m) a aC (agg [int (I a 0),int (I a 1),str (S a 2),lst [],lst []]))
def zQ(m:Nat):Nat->ByteArray->Int->Dt->Option Int
 |0,_,_,_=>none
 |d+1,c,a,b=>bif a<((L b 4).length:Int)then(idx (L b 4) a).bind fun e=>cond ((S e 0).toList==c.toList) (some a) (zQ m d c (wrap .i64 (a+1)) b)else some (-1)
def zR:Nat->Dt->ByteArray->Option Int
 |0,_,_=>none
 |m+1,a,b=>cond (I a 0 !=5) (some (-1)) (zQ m (succ m) b 0 a)
def uJ:Nat->Dt->ByteArray->Option (Dt×Bool)
 |0,_,_=>none
 |m+1,a,c=>(zR m a c).bind fun b=>cond (b<0) (some (aC,false)) ((idx (L a 4) b).bind fun d=>some (fld d 1,true))
def fI(m:Nat)(a:Q27)(b:Int)(c:List Dt)(d e:Int)(f:Bool)(g:Dt):Option Int:=
 cond f (some (-1)) (a (wrap .i64 (b+I g 1)) c d (wrap .i64 (e+1)))
def dR(m:Nat):Nat->Int->List Dt->Int->Int->Option Int
 |0,_,_,_,_=>none
 |f+1,c,d,e,a=>cond (a<e) ((idx d a).bind fun g=>(uJ m g (ByteArray.mk (List.toArray [99,111,117,110,116]))).bind fun b=>cond (!b.2) (fI m (dR m f) c d e a true b.1) (fI m (dR m f) c d e a (decide (I b.1 1<1)) b.1)) (some c)
def cO:Nat->List Dt->Option Int
 |0,_=>none
 |m+1,a=>dR m (succ m) 0 a (a.length:Int) 0
def lH(m:Nat):Nat->Int->Dt->List Dt->Option (List Dt)
 |0,_,_,_=>none
 |d+1,a,b,c=>cond (a<((L b 4).length:Int)) ((idx (L b 4) a).bind fun e=>(app c [fld e 1]).bind fun f=>lH m d (wrap .i64 (a+1)) b f) (some c)
def lI(m:Nat)(a:Dt)(b:List Dt):Option (List Dt):=
 cond (I a 0==5) (lH m (succ m) 0 a b) (some b)
def lJ(m:Nat):Nat->Int->Dt->List Dt->Option (List Dt)
 |0,_,_,_=>none
 |d+1,b,a,c=>cond (b<((L a 3).length:Int)) ((idx (L a 3) b).bind fun e=>(app c [e]).bind fun f=>lJ m d (wrap .i64 (b+1)) a f) (lI m a c)
def ku:Nat->Dt->Option (List Dt)
 |0,_=>none
 |m+1,a=>cond (I a 0==6) (lJ m (succ m) 0 a []) (lI m a [])
def j4(m:Nat)(a:Q17):Nat->Int->List Dt->Int->Int->Option Int
 |0,_,_,_,_=>none
 |g+1,e,b,c,d=>bif d<(b.length:Int)then(idx b d).bind fun h=>(a h (wrap .i64 (e-1))).bind fun f=>j4 m a g e b (cond (c<f) f c) (wrap .i64 (d+1))else some (wrap .i64 (c+1))
def gV(m:Nat)(a:Q17)(b:Int)(c:List Dt)(d:Bool):Option Int:=
 cond d (some 1) (j4 m a (succ m) b c 0 0)
def eO:Nat->Dt->Int->Option Int
 |0,_,_=>none
 |m+1,c,a=>(ku m c).bind fun b=>cond (a<2) (gV m (eO m) a b true) (gV m (eO m) a b ((b.length:Int)==0))
def mH:Nat->Dt->Option Int
 |0,_=>none
 |m+1,a=>(eO m a 17).bind fun b=>some b
def oq(m:Nat)(a:Q17):Nat->Int->Int->List Dt->Int->Option Int
 |0,_,_,_,_=>none
 |f+1,c,b,d,e=>cond (e<(d.length:Int)) (cond (b<c) ((idx d e).bind fun g=>(a g (wrap .i64 (c-b))).bind fun h=>oq m a f c (wrap .i64 (b+h)) d (wrap .i64 (e+1))) (some b)) (some b)
def iM:Nat->Dt->Int->Option Int
 |0,_,_=>none
 |m+1,a,b=>(ku m a).bind fun c=>oq m (iM m) (succ m) b 1 c 0
def mI:Nat->Dt->Option Int
 |0,_=>none
 |m+1,a=>(iM m a 1025).bind fun b=>some b
def rX(m:Nat)(a:Q40)(b:ByteArray)(c d e:Int):Option Bool:=
 a b c d (wrap .i64 (e+1))
def nM(m:Nat)(a:Q40)(b:ByteArray)(c d e:Int)(f:Bool):Option Bool:=
 cond f (some false) (rX m a b c d e)
def rY(m:Nat)(a:Q40)(b:ByteArray)(c e d:Int):Option Bool:=
 (idxS b (wrap .i64 (c+d))).bind fun f=>cond (f<128) (nM m a b c e d true) ((idxS b (wrap .i64 (c+d))).bind fun g=>nM m a b c e d (decide (191<g)))
def rZ(m:Nat):Option Bool:=
 some true
def nN(m:Nat):Nat->ByteArray->Int->Int->Int->Option Bool
 |0,_,_,_,_=>none
 |c+1,d,e,a,b=>cond (b<a) (rY m (nN m c) d e a b) (rZ m)
def r9(m:Nat)(a:ByteArray)(b c d:Int):Option Bool:=
 nN m (succ m) a b c d
def sj(m:Nat)(a:ByteArray)(b c:Int):Option Bool:=
 r9 m a b c 0
def p8:Nat->ByteArray->Int->Int->Option Bool
 |0,_,_,_=>none
 |m+1,a,b,c=>cond ((a.size:Int)<wrap .i64 (b+c)) (some false) (sj m a b c)
def Cu(m:Nat)(a:Q11)(b:ByteArray)(c d:Int):Option Bool:=
 a b (wrap .i64 (wrap .i64 (c+d)+1))
def bQ(m:Nat)(a:Q11)(b:ByteArray)(c d:Int)(e:Bool):Option Bool:=
 cond e (some false) (Cu m a b c d)
def xq(m:Nat)(a:Q11)(b:ByteArray)(c e d:Int):Option Bool:=
 cond (e==224) ((idxS b (wrap .i64 (c+1))).bind fun n=>cond (n<160) (bQ m a b c d true) (cond (e==237) ((idxS b (wrap .i64 (c+1))).bind fun o=>cond (159<o) (bQ m a b c d true) (cond (e==240) ((idxS b (wrap .i64 (c+1))).bind fun p=>cond (p<144) (bQ m a b c d true) (cond (e==244) ((idxS b (wrap .i64 (c+1))).bind fun q=>bQ m a b c d (decide (143<q))) (bQ m a b c d false))) (cond (e==244) ((idxS b (wrap .i64 (c+1))).bind fun r=>bQ m a b c d (decide (143<r))) (bQ m a b c d false)))) (cond (e==240) ((idxS b (wrap .i64 (c+1))).bind fun s=>cond (s<144) (bQ m a b c d true) (cond (e==244) ((idxS b (wrap .i64 (c+1))).bind fun t=>bQ m a b c d (decide (143<t))) (bQ m a b c d false))) (cond (e==244) ((idxS b (wrap .i64 (c+1))).bind fun u=>bQ m a b c d (decide (143<u))) (bQ m a b c d false))))) (cond (e==237) ((idxS b (wrap .i64 (c+1))).bind fun f=>cond (159<f) (bQ m a b c d true) (cond (e==240) ((idxS b (wrap .i64 (c+1))).bind fun g=>cond (g<144) (bQ m a b c d true) (cond (e==244) ((idxS b (wrap .i64 (c+1))).bind fun h=>bQ m a b c d (decide (143<h))) (bQ m a b c d false))) (cond (e==244) ((idxS b (wrap .i64 (c+1))).bind fun i=>bQ m a b c d (decide (143<i))) (bQ m a b c d false)))) (cond (e==240) ((idxS b (wrap .i64 (c+1))).bind fun j=>cond (j<144) (bQ m a b c d true) (cond (e==244) ((idxS b (wrap .i64 (c+1))).bind fun k=>bQ m a b c d (decide (143<k))) (bQ m a b c d false))) (cond (e==244) ((idxS b (wrap .i64 (c+1))).bind fun l=>bQ m a b c d (decide (143<l))) (bQ m a b c d false))))
def kW(m:Nat)(a:Q11)(b:ByteArray)(c e d:Int):Option Bool:=
 (p8 m b (wrap .i64 (c+1)) d).bind fun f=>cond (!f) (some false) (xq m a b c e d)
def su(m:Nat)(a:Q11)(b:ByteArray)(c d:Int)(e:Bool):Option Bool:=
 cond e (kW m a b c d 3) (some false)
def sw(m:Nat)(a:Q11)(c:ByteArray)(d b:Int)(e:Bool):Option Bool:=
 cond e (kW m a c d b 2) (cond (240<=b) (su m a c d b (decide (b<=244))) (su m a c d b false))
def sF(m:Nat)(a:Q11)(c:ByteArray)(d b:Int)(e:Bool):Option Bool:=
 cond e (kW m a c d b 1) (cond (224<=b) (sw m a c d b (decide (b<=239))) (sw m a c d b false))
def xu(m:Nat)(a:Q11)(c:ByteArray)(d:Int):Option Bool:=
 (idxS c d).bind fun b=>cond (b<128) (kW m a c d b 0) (cond (194<=b) (sF m a c d b (decide (b<=223))) (sF m a c d b false))
def zS(m:Nat):Option Bool:=
 some true
def jy(m:Nat):Nat->ByteArray->Int->Option Bool
 |0,_,_=>none
 |c+1,a,b=>cond (b<(a.size:Int)) (xu m (jy m c) a b) (zS m)
def p9:Nat->ByteArray->Option Bool
 |0,_=>none
 |m+1,a=>jy m (succ m) a 0
def iB(m:Nat)(a:Q11)(b:ByteArray)(c:Int)(d:Bool):Option Bool:=
 cond d (some false) (a b (wrap .i64 (c+1)))
def iC(m:Nat):Nat->ByteArray->Int->Option Bool
 |0,_,_=>none
 |c+1,a,b=>bif b<(a.size:Int)then(idxS a b).bind fun d=>cond (d<33) (iB m (iC m c) a b true) ((idxS a b).bind fun e=>cond (126<e) (iB m (iC m c) a b true) ((idxS a b).bind fun f=>iB m (iC m c) a b (f==46)))else some true
def iE(m:Nat)(a:ByteArray)(b:Bool):Option Bool:=
 cond b (some false) (iC m (succ m) a 0)
def gY:Nat->ByteArray->Option Bool
 |0,_=>none
 |m+1,a=>cond ((a.size:Int)<1) (iE m a true) (cond (32<(a.size:Int)) (iE m a true) ((idxS a 0).bind fun b=>iE m a (b==36)))
def jA(m:Nat)(a:Q11)(b:ByteArray)(c:Int)(d:Bool):Option Bool:=
 cond d (some false) (a b (wrap .i64 (c+1)))
def jB(m:Nat):Nat->ByteArray->Int->Option Bool
 |0,_,_=>none
 |c+1,a,b=>bif b<(a.size:Int)then(idxS a b).bind fun d=>cond (d<32) (jA m (jB m c) a b true) ((idxS a b).bind fun e=>jA m (jB m c) a b (decide (126<e)))else some true
def jC(m:Nat)(a:ByteArray)(b:Bool):Option Bool:=
 cond b (some false) (jB m (succ m) a 0)
def mQ:Nat->ByteArray->Option Bool
 |0,_=>none
 |m+1,a=>cond ((a.size:Int)<1) (jC m a true) (jC m a (decide (128<(a.size:Int))))
def ni(m:Nat)(a:Q5)(b:Q5):Nat->Bool->Int->Dt->Option Bool
 |0,_,_,_=>none
 |f+1,d,e,c=>bif e<((L c 3).length:Int)then(idx (L c 3) e).bind fun g=>(a g d).bind fun h=>cond (!h) (some false) (ni m a b f d (wrap .i64 (e+1)) c)else(b c d).bind fun i=>some i
def zf(m:Nat)(a:Q5)(b:Q5)(c:Bool)(d:Dt):Option Bool:=
 ni m a b (succ m) c 0 d
def pV(m:Nat)(b:Q5)(c:Q5)(d:Bool)(a:Dt):Option Bool:=
 cond (I a 0==9) (cond (I a 1==0) (some true) (some (I a 1==1))) (cond (I a 0==10) (some (decide (0<=I a 1))) (cond (I a 0==4) (cond (((S a 2).size:Int)<=4096) ((p9 m (S a 2)).bind fun e=>some e) (some false)) (cond (I a 0==7) (some (decide (((S a 2).size:Int)<=4096))) (cond (I a 0==8) (some (((S a 2).size:Int)==12)) (zf m b c d a)))))
def dL(m:Nat)(a:Q5)(b:Q5)(c d:Bool)(e:Dt):Option Bool:=
 cond d (some false) (pV m a b c e)
def iZ(m:Nat)(a:Q5)(b:Q5)(d f e:Bool)(c:Dt):Option Bool:=
 cond (!f) (cond (!(S c 2).toList==[]) (dL m a b d true c) (cond (!e) (cond (I c 1 !=0) (dL m a b d true c) (cond (I c 0<1) (dL m a b d true c) (dL m a b d (decide (11<I c 0)) c))) (cond (I c 0<1) (dL m a b d true c) (dL m a b d (decide (11<I c 0)) c)))) (cond (!e) (cond (I c 1 !=0) (dL m a b d true c) (cond (I c 0<1) (dL m a b d true c) (dL m a b d (decide (11<I c 0)) c))) (cond (I c 0<1) (dL m a b d true c) (dL m a b d (decide (11<I c 0)) c)))
def jc(m:Nat)(a:Q5)(b:Q5)(d e:Bool)(c:Dt):Option Bool:=
 cond (I c 0==3) (iZ m a b d e true c) (cond (I c 0==9) (iZ m a b d e true c) (iZ m a b d e (I c 0==10) c))
def pW(m:Nat)(a:Q5)(b:Q5)(d:Bool)(c:Dt):Option Bool:=
 cond (I c 0==4) (jc m a b d true c) (cond (I c 0==7) (jc m a b d true c) (jc m a b d (I c 0==8) c))
def jd(m:Nat)(a:Q5)(b:Q5)(c d:Bool)(e:Dt):Option Bool:=
 cond d (some false) (pW m a b c e)
def j5(m:Nat)(a:Q5)(b:Q18):Nat->Bool->Int->Int->Dt->Dt->Option Bool
 |0,_,_,_,_,_=>none
 |h+1,f,c,d,e,g=>cond (d<c) ((idx (L e 4) d).bind fun i=>cond ((S i 0).toList==(S g 0).toList) (some false) (j5 m a b h f c (wrap .i64 (d+1)) e g)) (b f (wrap .i64 (c+1)) e)
def dW(m:Nat)(a:Q5)(b:Q18)(c:Bool)(d:Int)(e:Bool)(f g:Dt):Option Bool:=
 cond e (some false) (j5 m a b (succ m) c d 0 f g)
def dH(m:Nat)(a:Q5):Nat->Bool->Int->Dt->Option Bool
 |0,_,_,_=>none
 |f+1,b,d,e=>bif d<((L e 4).length:Int)then(idx (L e 4) d).bind fun c=>cond b ((gY m (S c 0)).bind fun g=>cond (!g) (dW m a (dH m a f) b d true e c) (bif !b then(mQ m (S c 0)).bind fun h=>cond (!h) (dW m a (dH m a f) b d true e c) ((a (fld c 1) b).bind fun i=>dW m a (dH m a f) b d (!i) e c)else(a (fld c 1) b).bind fun j=>dW m a (dH m a f) b d (!j) e c)) (bif !b then(mQ m (S c 0)).bind fun k=>cond (!k) (dW m a (dH m a f) b d true e c) ((a (fld c 1) b).bind fun l=>dW m a (dH m a f) b d (!l) e c)else(a (fld c 1) b).bind fun n=>dW m a (dH m a f) b d (!n) e c)else some true
mutual
def bF:Nat->Dt->Bool->Option Bool
 |0,_,_=>none
 |m+1,a,b=>cond (I a 0 !=6) (cond (0<((L a 3).length:Int)) (jd m (bF m) (dz m) b true a) (cond (I a 0 !=5) (jd m (bF m) (dz m) b (decide (0<((L a 4).length:Int))) a) (jd m (bF m) (dz m) b false a))) (cond (I a 0 !=5) (jd m (bF m) (dz m) b (decide (0<((L a 4).length:Int))) a) (jd m (bF m) (dz m) b false a))
def dz:Nat->Dt->Bool->Option Bool
 |0,_,_=>none
 |m+1,a,b=>dH m (bF m) (succ m) b 0 a
end
def fF:Nat->Dt->Option Bool
 |0,_=>none
 |m+1,a=>(mH m a).bind fun b=>cond (b<=16) ((mI m a).bind fun c=>cond (c<=1024) ((bF m a true).bind fun d=>some d) (some false)) (some false)
def iF:Nat->Dt->Option Bool
 |0,_=>none
 |m+1,a=>cond (I a 0 !=5) (some true) ((fF m a).bind fun b=>some (!b))
def CV(m:Nat):Nat->List Dt->Int->Int->Option Int
 |0,_,_,_=>none
 |d+1,b,c,a=>cond (a<c) ((idx b a).bind fun e=>(iF m e).bind fun f=>cond f (some a) (CV m d b c (wrap .i64 (a+1)))) (some (-1))
def i10:Nat->List Dt->Option Int
 |0,_=>none
 |m+1,a=>CV m (succ m) a (a.length:Int) 0
def i9:Nat->List Dt->Option Bool
 |0,_=>none
 |m+1,a=>(i10 m a).bind fun b=>some (decide (0<=b))
def iN:Nat->List Dt->Option Bool
 |0,_=>none
 |m+1,a=>bif (a.length:Int)<=30 then(i9 m a).bind fun b=>some (!b)else some false
def cB:Nat->Option Dt
 |0=>none
 |m+1=>some mP
def qw:Nat->Int->Option Bool
 |0,_=>none
 |m+1,a=>some (a !=a)
def eX:Nat->Int->Int->Option Int
 |0,_,_=>none
 |m+1,a,b=>(qw m a).bind fun d=>(qw m b).bind fun c=>cond d (cond c (some 0) (some (-1))) (cond c (some 1) (cond (a<b) (some (-1)) (cond (b<a) (some 1) (some 0))))
def lK(m:Nat)(a:Q6):Nat->Int->Int->Dt->Dt->Option Int
 |0,_,_,_,_=>none
 |g+1,e,b,c,d=>bif b<e then(idx (L c 3) b).bind fun h=>(idx (L d 3) b).bind fun i=>(a h i).bind fun f=>cond (f !=0) (some f) (lK m a g e (wrap .i64 (b+1)) c d)else(eX m ((L c 3).length:Int) ((L d 3).length:Int)).bind fun j=>some j
def rG(m:Nat)(a:Q6)(b c:Int)(d e:Dt):Option Int:=
 lK m a (succ m) b c d e
def lM(m:Nat)(a:Q6):Nat->Int->Int->Dt->Dt->Option Int
 |0,_,_,_,_=>none
 |k+1,i,b,d,e=>bif b<i then(idx (L d 4) b).bind fun l=>(idx (L e 4) b).bind fun n=>(strings_Compare (S l 0) (S n 0)).bind fun j=>cond (j !=0) (some j) ((idx (L d 4) b).bind fun f=>(idx (L e 4) b).bind fun g=>(a (fld f 1) (fld g 1)).bind fun c=>cond (c !=0) (some c) (lM m a k i (wrap .i64 (b+1)) d e))else(eX m ((L d 4).length:Int) ((L e 4).length:Int)).bind fun h=>some h
def rH(m:Nat)(a:Q6)(b c:Int)(d e:Dt):Option Int:=
 lM m a (succ m) b c d e
def vS(m:Nat)(a:Q6):Option Int:=
 some 0
def lN(m:Nat)(a:Q6)(d:Int)(e:Bool)(b c:Dt):Option Int:=
 cond e ((strings_Compare (S b 2) (S c 2)).bind fun f=>some f) (cond (d==6) (rG m a (cond (((L c 3).length:Int)<((L b 3).length:Int)) ((L c 3).length:Int) ((L b 3).length:Int)) 0 b c) (cond (d==5) (rH m a (cond (((L c 4).length:Int)<((L b 4).length:Int)) ((L c 4).length:Int) ((L b 4).length:Int)) 0 b c) (vS m a)))
def lQ(m:Nat)(a:Q6)(b:Int)(e:Bool)(c d:Dt):Option Int:=
 cond e ((eX m (I c 1) (I d 1)).bind fun f=>some f) (cond (b==4) (lN m a b (b==4) c d) (cond (b==7) (lN m a b (b==7) c d) (lN m a b (b==8) c d)))
def oM(m:Nat)(a:Q6)(b c:Dt):Option Int:=
 cond (I b 0==3) (lQ m a (I b 0) (I b 0==3) b c) (cond (I b 0==9) (lQ m a (I b 0) (I b 0==9) b c) (lQ m a (I b 0) (I b 0==10) b c))
def aW:Nat->Dt->Dt->Option Int
 |0,_,_=>none
 |m+1,a,b=>cond (I a 0 !=I b 0) ((eX m (I a 0) (I b 0)).bind fun c=>some c) (oM m (aW m) a b)
def i19:Nat->Int->Dt->Dt->Option Int
 |0,_,_,_=>none
 |m+1,a,b,c=>(idx (toLst c) a).bind fun d=>(idx (L d 4) 0).bind fun e=>(aW m (fld e 1) b).bind fun f=>some f
def ac4(m:Nat)(a:Q67)(d:List Dt)(e:Dt)(g b c:Int)(f:Dt):Option (Int×Bool):=
 (idx d (wrap .i64 (shrI IntKind.u64 (wrap IntKind.u64 (wrap .i64 (b+c))) 1))).bind fun h=>(i19 m (toInt h) f e).bind fun i=>cond (i<0) (a d e g (wrap .i64 (wrap .i64 (shrI IntKind.u64 (wrap IntKind.u64 (wrap .i64 (b+c))) 1)+1)) c f) (a d e g b (wrap .i64 (shrI IntKind.u64 (wrap IntKind.u64 (wrap .i64 (b+c))) 1)) f)
def ac5(m:Nat)(b:List Dt)(c:Dt)(d a:Int)(e:Dt):Option (Int×Bool):=
 cond (a<d) ((idx b a).bind fun f=>(i19 m (toInt f) e c).bind fun g=>some (a,g==0)) (some (a,false))
def Kv(m:Nat):Nat->List Dt->Dt->Int->Int->Int->Dt->Option (Int×Bool)
 |0,_,_,_,_,_,_=>none
 |g+1,b,c,d,a,e,f=>cond (a<e) (ac4 m (Kv m g) b c d a e f) (ac5 m b c d a f)
def ac6(m:Nat)(a:List Dt)(b:Dt)(c d e:Int)(f:Dt):Option (Int×Bool):=
 Kv m (succ m) a b c d e f
def i18:Nat->List Dt->Dt->Dt->Option (Int×Bool)
 |0,_,_,_=>none
 |m+1,a,b,c=>ac6 m a c (a.length:Int) 0 (a.length:Int) b
def dB:Nat->Dt->Dt->Option Int
 |0,_,_=>none
 |m+1,a,b=>(idx (L b 4) 1).bind fun c=>(idx (L a 4) 1).bind fun d=>(aW m (fld c 1) (fld d 1)).bind fun e=>some e
def FW(m:Nat)(c:Q3):Nat->Int->Int->Int->Int->List Dt->Option (List Dt)
 |0,_,_,_,_,_=>none
 |h+1,d,e,f,a,b=>cond (d<a) ((inL b a).bind fun q=>(b[a.toNat]?).bind fun i=>(inL b (wrap .i64 (a-1))).bind fun r=>(b[(wrap .i64 (a-1)).toNat]?).bind fun j=>(dB m i j).bind fun k=>cond (k<0) ((inL b (wrap .i64 (a-1))).bind fun s=>(b[(wrap .i64 (a-1)).toNat]?).bind fun g=>(inL b a).bind fun t=>(b[a.toNat]?).bind fun l=>(inL b a).bind fun u=>(b[a.toNat]?).bind fun n=>(inL (List.set b a.toNat g) (wrap .i64 (a-1))).bind fun o=>((List.set b a.toNat g)[(wrap .i64 (a-1)).toNat]?).bind fun p=>FW m c h d e f (wrap .i64 (a-1)) (List.set (List.set b a.toNat g) (wrap .i64 (a-1)).toNat l)) (c d e (wrap .i64 (f+1)) b)) (c d e (wrap .i64 (f+1)) b)
def yL(m:Nat):Nat->Int->Int->Int->List Dt->Option (List Dt)
 |0,_,_,_,_=>none
 |d+1,e,b,a,c=>cond (a<b) (FW m (yL m d) (succ m) e b a a c) (some c)
def i26:Nat->Int->Int->List Dt->Option (List Dt)
 |0,_,_,_=>none
 |m+1,a,b,c=>yL m (succ m) a b (wrap .i64 (a+1)) c
def CX(m:Nat)(c:Q3):Nat->Int->Int->List Dt->Option (List Dt)
 |0,_,_,_=>none
 |f+1,e,a,b=>bif a<wrap .i64 (e-1)then(inL b (wrap .i64 (a+1))).bind fun k=>(b[(wrap .i64 (a+1)).toNat]?).bind fun d=>(inL b a).bind fun l=>(b[a.toNat]?).bind fun g=>(inL b a).bind fun n=>(b[a.toNat]?).bind fun h=>(inL (List.set b a.toNat d) (wrap .i64 (a+1))).bind fun i=>((List.set b a.toNat d)[(wrap .i64 (a+1)).toNat]?).bind fun j=>CX m c f e (wrap .i64 (a+1)) (List.set (List.set b a.toNat d) (wrap .i64 (a+1)).toNat g)else some b
def QZ(m:Nat)(a:Q3)(b c:Int)(d:List Dt):Option (List Dt):=
 CX m a (succ m) c b d
def zT(m:Nat)(a:Q3):Nat->Int->Int->Int->List Dt->Option (List Dt)
 |0,_,_,_,_=>none
 |f+1,e,b,d,c=>cond (b<d) ((inL c (wrap .i64 (shrI IntKind.u64 (wrap IntKind.u64 (wrap .i64 (b+d))) 1))).bind fun j=>(c[(wrap .i64 (shrI IntKind.u64 (wrap IntKind.u64 (wrap .i64 (b+d))) 1)).toNat]?).bind fun g=>(inL c e).bind fun k=>(c[e.toNat]?).bind fun h=>(dB m g h).bind fun i=>cond (i<0) (zT m a f e (wrap .i64 (wrap .i64 (shrI IntKind.u64 (wrap IntKind.u64 (wrap .i64 (b+d))) 1)+1)) d c) (zT m a f e b (wrap .i64 (shrI IntKind.u64 (wrap IntKind.u64 (wrap .i64 (b+d))) 1)) c)) (QZ m a e b c)
def W9(m:Nat)(a:Q3)(b c d:Int)(e:List Dt):Option (List Dt):=
 zT m a (succ m) b c d e
def yM(m:Nat)(c:Q3):Nat->Int->Int->List Dt->Option (List Dt)
 |0,_,_,_=>none
 |e+1,g,a,b=>cond (g<a) ((inL b (wrap .i64 (a-1))).bind fun h=>(b[(wrap .i64 (a-1)).toNat]?).bind fun d=>(inL b a).bind fun i=>(b[a.toNat]?).bind fun f=>(inL b a).bind fun j=>(b[a.toNat]?).bind fun k=>(inL (List.set b a.toNat d) (wrap .i64 (a-1))).bind fun l=>((List.set b a.toNat d)[(wrap .i64 (a-1)).toNat]?).bind fun n=>yM m c e g (wrap .i64 (a-1)) (List.set (List.set b a.toNat d) (wrap .i64 (a-1)).toNat f)) (some b)
def JW(m:Nat)(a:Q3)(b c:Int)(d:List Dt):Option (List Dt):=
 yM m a (succ m) c b d
def vT(m:Nat)(a:Q3):Nat->Int->Int->Int->List Dt->Option (List Dt)
 |0,_,_,_,_=>none
 |e+1,f,b,d,c=>cond (b<d) ((inL c f).bind fun j=>(c[f.toNat]?).bind fun g=>(inL c (wrap .i64 (shrI IntKind.u64 (wrap IntKind.u64 (wrap .i64 (b+d))) 1))).bind fun k=>(c[(wrap .i64 (shrI IntKind.u64 (wrap IntKind.u64 (wrap .i64 (b+d))) 1)).toNat]?).bind fun h=>(dB m g h).bind fun i=>cond (!(i<0)) (vT m a e f (wrap .i64 (wrap .i64 (shrI IntKind.u64 (wrap IntKind.u64 (wrap .i64 (b+d))) 1)+1)) d c) (vT m a e f b (wrap .i64 (shrI IntKind.u64 (wrap IntKind.u64 (wrap .i64 (b+d))) 1)) c)) (JW m a f b c)
def JX(m:Nat)(a:Q3)(d e f:Int)(g:Bool)(c:List Dt):Option (List Dt):=
 cond g ((a e f d c).bind fun b=>some b) (some c)
def Br(m:Nat)(a:Q3)(c d b:Int)(e:List Dt):Option (List Dt):=
 cond (d<b) (JX m a c d b (decide (b<c)) e) (JX m a c d b false e)
def JY(m:Nat)(a:Q3)(g d b h e:Int)(i:Bool)(f:List Dt):Option (List Dt):=
 cond i ((a g h b f).bind fun c=>Br m a d b e c) (Br m a d b e f)
def Ep(m:Nat)(a:Q3)(c e d b f:Int)(g:List Dt):Option (List Dt):=
 cond (c<b) (JY m a c e d b f (decide (b<d)) g) (JY m a c e d b f false g)
def JZ(m:Nat)(a:Q3)(e i f g b c:Int)(j:Bool)(h:List Dt):Option (List Dt):=
 cond j ((i29 m b i c h).bind fun d=>Ep m a e f g b c d) (Ep m a e f g b c h)
def Er(m:Nat)(a:Q3)(e c f g d b:Int)(h:List Dt):Option (List Dt):=
 cond (b<c) (JZ m a e c f g b (wrap .i64 (d-b)) (decide (c<wrap .i64 (d-b))) h) (JZ m a e c f g b (wrap .i64 (d-b)) false h)
def vU(m:Nat)(a:Q3):Nat->Int->Int->Int->Int->Int->Int->Int->Int->List Dt->Option (List Dt)
 |0,_,_,_,_,_,_,_,_,_=>none
 |e+1,g,h,i,j,k,b,c,f,d=>cond (b<c) ((inL d (wrap .i64 (f-wrap .i64 (shrI IntKind.u64 (wrap IntKind.u64 (wrap .i64 (b+c))) 1)))).bind fun p=>(d[(wrap .i64 (f-wrap .i64 (shrI IntKind.u64 (wrap IntKind.u64 (wrap .i64 (b+c))) 1))).toNat]?).bind fun l=>(inL d (wrap .i64 (shrI IntKind.u64 (wrap IntKind.u64 (wrap .i64 (b+c))) 1))).bind fun q=>(d[(wrap .i64 (shrI IntKind.u64 (wrap IntKind.u64 (wrap .i64 (b+c))) 1)).toNat]?).bind fun n=>(dB m l n).bind fun o=>cond (!(o<0)) (vU m a e g h i j k (wrap .i64 (wrap .i64 (shrI IntKind.u64 (wrap IntKind.u64 (wrap .i64 (b+c))) 1)+1)) c f d) (vU m a e g h i j k b (wrap .i64 (shrI IntKind.u64 (wrap IntKind.u64 (wrap .i64 (b+c))) 1)) f d)) (Er m a g h i j k b d)
def Xa(m:Nat)(a:Q3)(b d c:Int)(e:List Dt):Option (List Dt):=
 cond (wrap .i64 (c-d)==1) (vT m a (succ m) d b d e) (cond (wrap .i64 (shrI IntKind.u64 (wrap IntKind.u64 (wrap .i64 (b+c))) 1)<d) (vU m a (succ m) b d c (wrap .i64 (shrI IntKind.u64 (wrap IntKind.u64 (wrap .i64 (b+c))) 1)) (wrap .i64 (wrap .i64 (shrI IntKind.u64 (wrap IntKind.u64 (wrap .i64 (b+c))) 1)+d)) (wrap .i64 (wrap .i64 (wrap .i64 (shrI IntKind.u64 (wrap IntKind.u64 (wrap .i64 (b+c))) 1)+d)-c)) (wrap .i64 (shrI IntKind.u64 (wrap IntKind.u64 (wrap .i64 (b+c))) 1)) (wrap .i64 (wrap .i64 (wrap .i64 (shrI IntKind.u64 (wrap IntKind.u64 (wrap .i64 (b+c))) 1)+d)-1)) e) (vU m a (succ m) b d c (wrap .i64 (shrI IntKind.u64 (wrap IntKind.u64 (wrap .i64 (b+c))) 1)) (wrap .i64 (wrap .i64 (shrI IntKind.u64 (wrap IntKind.u64 (wrap .i64 (b+c))) 1)+d)) b d (wrap .i64 (wrap .i64 (wrap .i64 (shrI IntKind.u64 (wrap IntKind.u64 (wrap .i64 (b+c))) 1)+d)-1)) e))
def i28:Nat->Int->Int->Int->List Dt->Option (List Dt)
 |0,_,_,_,_=>none
 |m+1,a,b,c,d=>cond (wrap .i64 (b-a)==1) (W9 m (i28 m) a b c d) (Xa m (i28 m) a b c d)
def Es(m:Nat)(a:Q13)(b c:Int)(d:List Dt):Option (List Dt):=
 a b (wrap .i64 (c*2)) d
def FY(m:Nat)(a:Q13):Nat->Int->Int->Int->Int->List Dt->Option (List Dt)
 |0,_,_,_,_,_=>none
 |g+1,c,b,d,e,f=>cond (e<=c) ((i28 m d (wrap .i64 (d+b)) e f).bind fun h=>FY m a g c b e (wrap .i64 (e+wrap .i64 (2*b))) h) (cond (wrap .i64 (d+b)<c) ((i28 m d (wrap .i64 (d+b)) c f).bind fun i=>Es m a c b i) (Es m a c b f))
def xw(m:Nat):Nat->Int->Int->List Dt->Option (List Dt)
 |0,_,_,_=>none
 |d+1,b,a,c=>cond (a<b) (FY m (xw m d) (succ m) b a 0 (wrap .i64 (2*a)) c) (some c)
def Rf(m:Nat)(a b:Int)(c:List Dt):Option (List Dt):=
 xw m (succ m) a b c
def F3(m:Nat):Nat->Int->Int->Int->Int->List Dt->Option (List Dt)
 |0,_,_,_,_,_=>none
 |f+1,a,c,d,b,e=>cond (b<=a) ((i26 m d b e).bind fun g=>F3 m f a c b (wrap .i64 (b+c)) g) ((i26 m d a e).bind fun h=>Rf m a c h)
def i25:Nat->Int->List Dt->Option (List Dt)
 |0,_,_=>none
 |m+1,a,b=>F3 m (succ m) a 20 0 20 b
def i24:Nat->List Dt->Option (List Dt)
 |0,_=>none
 |m+1,a=>(i25 m (a.length:Int) a).bind fun b=>some b
def ac7(m:Nat)(a:Q69)(d:List Dt)(f b c:Int)(e:Dt):Option (Int×Bool):=
 (idx d (wrap .i64 (shrI IntKind.u64 (wrap IntKind.u64 (wrap .i64 (b+c))) 1))).bind fun g=>(aW m g e).bind fun h=>cond (h<0) (a d f (wrap .i64 (wrap .i64 (shrI IntKind.u64 (wrap IntKind.u64 (wrap .i64 (b+c))) 1)+1)) c e) (a d f b (wrap .i64 (shrI IntKind.u64 (wrap IntKind.u64 (wrap .i64 (b+c))) 1)) e)
def ac8(m:Nat)(b:List Dt)(c a:Int)(d:Dt):Option (Int×Bool):=
 cond (a<c) ((idx b a).bind fun e=>(aW m e d).bind fun f=>some (a,f==0)) (some (a,false))
def Kw(m:Nat):Nat->List Dt->Int->Int->Int->Dt->Option (Int×Bool)
 |0,_,_,_,_,_=>none
 |f+1,b,c,a,d,e=>cond (a<d) (ac7 m (Kw m f) b c a d e) (ac8 m b c a e)
def i32:Nat->List Dt->Dt->Option (Int×Bool)
 |0,_,_=>none
 |m+1,a,b=>Kw m (succ m) a (a.length:Int) 0 (a.length:Int) b
def lS(m:Nat):Nat->List Dt->Int->Option Bool
 |0,_,_=>none
 |c+1,a,b=>bif b<(a.length:Int)then(idx a b).bind fun d=>(gY m (toStr d)).bind fun e=>cond (!e) (some false) (lS m c a (wrap .i64 (b+1)))else some true
def lT(m:Nat)(a:List Dt)(b:Bool):Option Bool:=
 cond b (some false) (lS m (succ m) a 0)
def iO:Nat->List Dt->Option Bool
 |0,_=>none
 |m+1,a=>cond ((a.length:Int)<1) (lT m a true) (lT m a (decide (16<(a.length:Int))))
def lU(m:Nat)(b:Q14)(a:Q32)(c:Int)(d:Bool)(e f:Dt):Option Bool:=
 cond d (some false) (a (wrap .i64 (c+1)) e f)
def nO(m:Nat)(a:Q14):Nat->Int->Dt->Dt->Option Bool
 |0,_,_,_=>none
 |e+1,b,c,d=>bif b<((L c 4).length:Int)then(idx (L c 4) b).bind fun f=>(idx (L d 4) b).bind fun g=>cond (!(S f 0).toList==(S g 0).toList) (lU m a (nO m a e) b true c d) ((idx (L c 4) b).bind fun h=>(idx (L d 4) b).bind fun i=>(a (fld h 1) (fld i 1)).bind fun j=>lU m a (nO m a e) b (!j) c d)else some true
def sG(m:Nat)(a:Q14):Nat->Int->Dt->Dt->Option Bool
 |0,_,_,_=>none
 |e+1,b,c,d=>bif b<((L c 3).length:Int)then(idx (L c 3) b).bind fun f=>(idx (L d 3) b).bind fun g=>(a f g).bind fun h=>cond (!h) (some false) (sG m a e (wrap .i64 (b+1)) c d)else nO m a (succ m) 0 c d
def dY(m:Nat)(a:Q14)(b:Bool)(c d:Dt):Option Bool:=
 cond b (some false) (sG m a (succ m) 0 c d)
def bH:Nat->Dt->Dt->Option Bool
 |0,_,_=>none
 |m+1,a,b=>cond (I a 0 !=I b 0) (dY m (bH m) true a b) (cond (I a 1 !=I b 1) (dY m (bH m) true a b) (cond (!(S a 2).toList==(S b 2).toList) (dY m (bH m) true a b) (cond (((L a 3).length:Int) !=((L b 3).length:Int)) (dY m (bH m) true a b) (dY m (bH m) (((L a 4).length:Int) !=((L b 4).length:Int)) a b))))
def ou(m:Nat)(a:Q20):Nat->List Dt->Int->Int->Option Bool
 |0,_,_,_=>none
 |e+1,b,c,d=>cond (d<c) ((idx b d).bind fun f=>(idx b c).bind fun g=>cond ((toStr f).toList==(toStr g).toList) (some false) (ou m a e b c (wrap .i64 (d+1)))) (a b (wrap .i64 (c+1)))
def jM(m:Nat):Nat->List Dt->Int->Option Bool
 |0,_,_=>none
 |c+1,a,b=>bif b<(a.length:Int)then(idx a b).bind fun d=>(gY m (toStr d)).bind fun e=>cond (!e) (some false) (ou m (jM m c) (succ m) a b 0)else some true
def mJ:Nat->List Dt->Option Bool
 |0,_=>none
 |m+1,a=>jM m (succ m) a 0
def gD(m:Nat)(a:Bool):Option Int:=
 cond a (some (-1)) (some 2)
def xA(m:Nat)(a:Int)(b:Bool):Option Int:=
 cond b (some 3) (cond (a==4) (gD m (a==4)) (cond (a==6) (gD m (a==6)) (cond (a==16) (gD m (a==16)) (cond (a==17) (gD m (a==17)) (cond (a==21) (gD m (a==21)) (cond (a==29) (gD m (a==29)) (cond (a==37) (gD m (a==37)) (cond (a==35) (gD m (a==35)) (gD m (a==34))))))))))
def iG(m:Nat)(a:Int)(b:Bool):Option Int:=
 cond b (some 1) (cond (a==19) (xA m a (a==19)) (xA m a (a==25)))
def sH(m:Nat)(a:Int)(b:Bool):Option Int:=
 cond b (some 0) (cond (a==18) (iG m a (a==18)) (cond (a==22) (iG m a (a==22)) (cond (a==23) (iG m a (a==23)) (cond (a==24) (iG m a (a==24)) (cond (a==26) (iG m a (a==26)) (cond (a==30) (iG m a (a==30)) (cond (a==31) (iG m a (a==31)) (iG m a (a==36)))))))))
def ow:Nat->Int->Option Int
 |0,_=>none
 |m+1,a=>cond (a==1) (sH m a (a==1)) (cond (a==2) (sH m a (a==2)) (sH m a (a==3)))
def bC(m:Nat)(a:Bool):Option Int:=
 cond a (some 4) (some 0)
def xB(m:Nat)(b:Bool)(a:Dt):Option Int:=
 cond (I a 0 !=2) (cond (I a 0 !=3) (cond (0<((L a 1).length:Int)) (bC m true) (cond (!b) (cond (!(S a 2).toList==[]) (bC m true) (cond (I a 0 !=34) (cond (0<((L a 3).length:Int)) (bC m true) (cond (I a 0 !=1) ((bH m (fld a 4) aC).bind fun h=>cond (!h) (bC m true) (bC m (I a 5 !=0))) (bC m (I a 5 !=0)))) (cond (I a 0 !=1) ((bH m (fld a 4) aC).bind fun i=>cond (!i) (bC m true) (bC m (I a 5 !=0))) (bC m (I a 5 !=0))))) (cond (I a 0 !=34) (cond (0<((L a 3).length:Int)) (bC m true) (cond (I a 0 !=1) ((bH m (fld a 4) aC).bind fun j=>cond (!j) (bC m true) (bC m (I a 5 !=0))) (bC m (I a 5 !=0)))) (cond (I a 0 !=1) ((bH m (fld a 4) aC).bind fun k=>cond (!k) (bC m true) (bC m (I a 5 !=0))) (bC m (I a 5 !=0)))))) (cond (!b) (cond (!(S a 2).toList==[]) (bC m true) (cond (I a 0 !=34) (cond (0<((L a 3).length:Int)) (bC m true) (cond (I a 0 !=1) ((bH m (fld a 4) aC).bind fun l=>cond (!l) (bC m true) (bC m (I a 5 !=0))) (bC m (I a 5 !=0)))) (cond (I a 0 !=1) ((bH m (fld a 4) aC).bind fun n=>cond (!n) (bC m true) (bC m (I a 5 !=0))) (bC m (I a 5 !=0))))) (cond (I a 0 !=34) (cond (0<((L a 3).length:Int)) (bC m true) (cond (I a 0 !=1) ((bH m (fld a 4) aC).bind fun o=>cond (!o) (bC m true) (bC m (I a 5 !=0))) (bC m (I a 5 !=0)))) (cond (I a 0 !=1) ((bH m (fld a 4) aC).bind fun c=>cond (!c) (bC m true) (bC m (I a 5 !=0))) (bC m (I a 5 !=0)))))) (cond (!b) (cond (!(S a 2).toList==[]) (bC m true) (cond (I a 0 !=34) (cond (0<((L a 3).length:Int)) (bC m true) (cond (I a 0 !=1) ((bH m (fld a 4) aC).bind fun d=>cond (!d) (bC m true) (bC m (I a 5 !=0))) (bC m (I a 5 !=0)))) (cond (I a 0 !=1) ((bH m (fld a 4) aC).bind fun e=>cond (!e) (bC m true) (bC m (I a 5 !=0))) (bC m (I a 5 !=0))))) (cond (I a 0 !=34) (cond (0<((L a 3).length:Int)) (bC m true) (cond (I a 0 !=1) ((bH m (fld a 4) aC).bind fun f=>cond (!f) (bC m true) (bC m (I a 5 !=0))) (bC m (I a 5 !=0)))) (cond (I a 0 !=1) ((bH m (fld a 4) aC).bind fun g=>cond (!g) (bC m true) (bC m (I a 5 !=0))) (bC m (I a 5 !=0)))))
def sI(m:Nat)(a b:Bool)(c:Dt):Option Int:=
 cond b (some 8) (xB m a c)
def xC(m:Nat)(b:Bool)(a:Dt):Option Int:=
 cond (I a 0==1) ((fF m (fld a 4)).bind fun c=>sI m b (!c) a) (sI m b false a)
def kX(m:Nat)(a b:Bool)(c:Dt):Option Int:=
 cond b (some 9) (xC m a c)
def nP(m:Nat)(b:Bool)(a:Dt):Option Int:=
 cond b ((gY m (S a 2)).bind fun e=>cond (!e) (kX m b true a) (cond (I a 0==34) ((mJ m (L a 3)).bind fun c=>kX m b (!c) a) (kX m b false a))) (cond (I a 0==34) ((mJ m (L a 3)).bind fun d=>kX m b (!d) a) (kX m b false a))
def iH(m:Nat)(b:Bool)(a:Dt):Option Int:=
 cond b (some 10) (cond (I a 0==3) (nP m true a) (cond (I a 0==32) (nP m true a) (nP m (I a 0==33) a)))
def xD(m:Nat)(a:Dt):Option Int:=
 cond (I a 0==2) ((iO m (L a 1)).bind fun d=>cond (!d) (iH m true a) (cond (I a 0==3) (cond (0<((L a 1).length:Int)) ((iO m (L a 1)).bind fun b=>iH m (!b) a) (iH m false a)) (iH m false a))) (cond (I a 0==3) (cond (0<((L a 1).length:Int)) ((iO m (L a 1)).bind fun c=>iH m (!c) a) (iH m false a)) (iH m false a))
def fJ(m:Nat)(a:Bool)(b:Dt):Option Int:=
 cond a (some 11) (xD m b)
def qb:Nat->Dt->Option Int
 |0,_=>none
 |m+1,a=>cond (I a 0<1) (fJ m true a) (cond (37<I a 0) (fJ m true a) ((ow m (I a 0)).bind fun b=>cond (0<=b) ((ow m (I a 0)).bind fun c=>cond (((L a 6).length:Int) !=c) (fJ m true a) (cond (I a 0==34) (cond (((L a 6).length:Int) !=((L a 3).length:Int)) (fJ m true a) (fJ m (((L a 6).length:Int)==0) a)) (fJ m false a))) (cond (I a 0==34) (cond (((L a 6).length:Int) !=((L a 3).length:Int)) (fJ m true a) (fJ m (((L a 6).length:Int)==0) a)) (fJ m false a))))
def uO(m:Nat)(b:Q9)(a:Q41)(c d e:Int)(f:Dt):Option (Int×Int):=
 a e c (wrap .i64 (d+1)) f
def lV(m:Nat)(a:Q9):Nat->Int->Int->Int->Dt->Option (Int×Int)
 |0,_,_,_,_=>none
 |g+1,e,f,c,d=>bif c<((L d 6).length:Int)then(idx (L d 6) c).bind fun h=>(a h (wrap .i64 (e+1)) (wrap .i64 (f+1))).bind fun b=>cond (b.2 !=0) (some (b.1,b.2)) (uO m a (lV m a g) f c b.1 d)else some (e,0)
def qC(m:Nat)(a:Q9)(b e:Int)(f:Bool)(c:Dt):Option (Int×Int):=
 cond f (some (b,2)) ((qb m c).bind fun d=>cond (d !=0) (some (b,d)) (lV m a (succ m) b e 0 c))
def fG:Nat->Dt->Int->Int->Option (Int×Int)
 |0,_,_,_=>none
 |m+1,c,a,b=>cond (16<b) (qC m (fG m) a b true c) (qC m (fG m) a b (decide (256<a)) c)
def kC:Nat->Dt->Option Int
 |0,_=>none
 |m+1,a=>(fG m a 1 1).bind fun b=>some b.2
def oz:Nat->Dt->Option Bool
 |0,_=>none
 |m+1,a=>cond (I a 0==0) (cond (I a 1==0) (bif (S a 2).toList==[]then cond (((L a 3).length:Int)==0) (some (((L a 4).length:Int)==0)) (some false)else some false) (some false)) (some false)
def jD(m:Nat)(a:Int)(b:Bool):Option Int:=
 cond b (some 5) (cond (a==35) (some 6) (cond (a==34) (some 7) (some 2)))
def xE(m:Nat)(a:Int)(b:Bool):Option Int:=
 cond b (some 4) (cond (a==4) (jD m a (a==4)) (cond (a==6) (jD m a (a==6)) (cond (a==16) (jD m a (a==16)) (cond (a==17) (jD m a (a==17)) (cond (a==21) (jD m a (a==21)) (cond (a==29) (jD m a (a==29)) (jD m a (a==37))))))))
def xG(m:Nat)(a:Int)(b:Bool):Option Int:=
 cond b (some 3) (cond (a==19) (xE m a (a==19)) (xE m a (a==25)))
def iI(m:Nat)(a:Int)(b:Bool):Option Int:=
 cond b (some 1) (cond (a==32) (xG m a (a==32)) (xG m a (a==33)))
def sJ(m:Nat)(a:Int)(b:Bool):Option Int:=
 cond b (some 0) (cond (a==18) (iI m a (a==18)) (cond (a==22) (iI m a (a==22)) (cond (a==23) (iI m a (a==23)) (cond (a==24) (iI m a (a==24)) (cond (a==26) (iI m a (a==26)) (cond (a==30) (iI m a (a==30)) (cond (a==31) (iI m a (a==31)) (iI m a (a==36)))))))))
def oC:Nat->Int->Option Int
 |0,_=>none
 |m+1,a=>cond (a==1) (sJ m a (a==1)) (cond (a==2) (sJ m a (a==2)) (sJ m a (a==3)))
def tK(m:Nat)(a b:Int)(c:Bool):Option Bool:=
 cond c (some (a==2)) (cond (b==4) (some (a==3)) (cond (b==7) (some (decide (1<=a))) (some true)))
def oN:Nat->Int->Int->Option Bool
 |0,_,_=>none
 |m+1,a,b=>cond (a==0) (some (b==0)) (cond (a==1) (some (b==1)) (cond (a==2) (tK m b a (a==2)) (tK m b a (a==3))))
def nk(m:Nat)(a:Q21):Nat->List Dt->List Dt->Int->Int->Dt->Option Dt
 |0,_,_,_,_,_=>none
 |g+1,b,d,e,c,h=>cond (c<e) ((idx d c).bind fun f=>(idx b 0).bind fun i=>cond ((S f 0).toList==(toStr i).toList) ((cutL b 1 (b.length:Int)).bind fun j=>(a (fld f 1) j).bind fun k=>some k) (nk m a g b d e (wrap .i64 (c+1)) h)) (some aC)
def je(m:Nat)(b:Q21)(a:Q54)(c d:List Dt)(e f:Int)(g:Dt)(h i:Int)(j:ByteArray)(k l:List Dt):Option Dt:=
 a c d e (wrap .i64 (f+1)) g h i j k l
def jf(m:Nat)(a:Q21):Nat->List Dt->List Dt->Int->Int->Dt->Int->Int->ByteArray->List Dt->List Dt->Option Dt
 |0,_,_,_,_,_,_,_,_,_,_=>none
 |k+1,c,d,e,b,l,f,g,h,i,j=>cond (b<e) ((idx d b).bind fun o=>(a o c).bind fun n=>cond (I n 0 !=0) ((app i [n]).bind fun p=>je m a (jf m a k) c d e b l f g h p j) (je m a (jf m a k) c d e b l f g h i j)) (some (agg [int f,int g,str h,lst i,lst j]))
def j6(m:Nat)(a:Q21)(c:List Dt)(b d:Dt):Option Dt:=
 cond (I b 0==5) (nk m a (succ m) c (L b 4) ((L b 4).length:Int) 0 d) (cond (I b 0==6) (jf m a (succ m) c (L b 3) ((L b 3).length:Int) 0 d 6 0 (ByteArray.mk (List.toArray [])) [] []) (some aC))
def bY:Nat->Dt->List Dt->Option Dt
 |0,_,_=>none
 |m+1,a,b=>cond ((b.length:Int)==0) (some a) (j6 m (bY m) b a aC)
def bS:Nat->Int->Option Dt
 |0,_=>none
 |m+1,a=>some (agg [int 3,int a,str (ByteArray.mk (List.toArray [])),lst [],lst []])
def nu(m:Nat)(a:Q28)(b:ByteArray)(c d:Int)(e:Bool):Option Bool:=
 cond e (some true) (a b c (wrap .i64 (d+1)))
def fO(m:Nat):Nat->ByteArray->Int->Int->Option Bool
 |0,_,_,_=>none
 |d+1,b,c,a=>cond (a<c) ((idxS b a).bind fun e=>cond (e<33) (nu m (fO m d) b c a true) ((idxS b a).bind fun f=>cond (126<f) (nu m (fO m d) b c a true) ((idxS b a).bind fun g=>nu m (fO m d) b c a (g==46)))) (some false)
def ny(m:Nat)(a:ByteArray)(b:Bool):Option Bool:=
 cond b (some true) (fO m (succ m) a (a.size:Int) 0)
def mR:Nat->ByteArray->Option Bool
 |0,_=>none
 |m+1,a=>cond ((a.size:Int)<1) (ny m a true) (cond (32<(a.size:Int)) (ny m a true) ((idxS a 0).bind fun b=>ny m a (b==36)))
def F4(m:Nat):Nat->List Dt->Int->Int->Option Int
 |0,_,_,_=>none
 |d+1,b,c,a=>cond (a<c) ((idx b a).bind fun e=>(mR m (toStr e)).bind fun f=>cond f (some a) (F4 m d b c (wrap .i64 (a+1)))) (some (-1))
def i80:Nat->List Dt->Option Int
 |0,_=>none
 |m+1,a=>F4 m (succ m) a (a.length:Int) 0
def i79:Nat->List Dt->Option Bool
 |0,_=>none
 |m+1,a=>(i80 m a).bind fun b=>some (decide (0<=b))
def mU:Nat->List Dt->Option Bool
 |0,_=>none
 |m+1,a=>cond (1<=(a.length:Int)) (bif (a.length:Int)<=16 then(i79 m a).bind fun b=>some (!b)else some false) (some false)
def kD:Nat->ByteArray->Option Bool
 |0,_=>none
 |m+1,a=>(mU m [str a]).bind fun b=>some b
def jZ(m:Nat)(a:Q24)(b:ByteArray)(c:List Dt)(d e:Int)(f:Bool)(g:List Dt):Option Bool:=
 cond f (some false) (a c d (wrap .i64 (e+1)) (mput g b (bool true)))
def eH(m:Nat):Nat->List Dt->Int->Int->List Dt->Option Bool
 |0,_,_,_,_=>none
 |f+1,c,d,a,e=>cond (a<d) ((idx c a).bind fun b=>(kD m (toStr b)).bind fun g=>cond (!g) (jZ m (eH m f) (toStr b) c d a true e) (jZ m (eH m f) (toStr b) c d a (Dt.toBool (mgetD e (toStr b) (bool false))) e)) (some true)
def eY:Nat->List Dt->Option Bool
 |0,_=>none
 |m+1,a=>eH m (succ m) a (a.length:Int) 0 []
def gW:Nat->Dt->Option Dt
 |0,_=>none
 |m+1,a=>cond (I a 0==0) ((cB m).bind fun b=>some b) (some a)
def jN(m:Nat):Nat->List Dt->Int->Int->Dt->Int->Int->ByteArray->List Dt->List Dt->Option Dt
 |0,_,_,_,_,_,_,_,_,_=>none
 |i+1,b,c,a,j,d,e,f,g,h=>cond (a<c) ((idx b a).bind fun k=>(gW m k).bind fun l=>(app g [l]).bind fun n=>jN m i b c (wrap .i64 (a+1)) j d e f n h) (some (agg [int d,int e,str f,lst g,lst h]))
def mV(m:Nat)(a:Q33)(b:List Dt)(c d:Int)(e f:Dt)(g h:Int)(i:ByteArray)(j k:List Dt):Option Dt:=
 a b c (wrap .i64 (d+1)) e f g h i j k
def fU(m:Nat):Nat->List Dt->Int->Int->Dt->Dt->Int->Int->ByteArray->List Dt->List Dt->Option Dt
 |0,_,_,_,_,_,_,_,_,_,_=>none
 |j+1,b,c,a,d,k,e,f,g,h,i=>cond (a<c) ((idx b a).bind fun l=>cond (I l 0 !=0) ((idx (L d 3) a).bind fun n=>(app i [agg [str (toStr n),l]]).bind fun o=>mV m (fU m j) b c a d k e f g h o) (mV m (fU m j) b c a d k e f g h i)) (some (agg [int e,int f,str g,lst h,lst i]))
def eF:Nat->Dt->List Dt->Option Dt
 |0,_,_=>none
 |m+1,b,a=>cond (I b 0==35) (jN m (succ m) a (a.length:Int) 0 aC 6 0 (ByteArray.mk (List.toArray [])) [] []) (fU m (succ m) a (a.length:Int) 0 b aC 5 0 (ByteArray.mk (List.toArray [])) [] [])
def qD(m:Nat)(a:Bool)(b:Dt):Option Bool:=
 cond a (some (I b 1 !=0)) (some true)
def qE(m:Nat)(a:Int)(c:Bool)(b:Dt):Option Bool:=
 cond c (some false) (cond (a==9) (qD m (a==9) b) (qD m (a==3) b))
def eu:Nat->Dt->Option Bool
 |0,_=>none
 |m+1,a=>cond (I a 0==0) (qE m (I a 0) (I a 0==0) a) (qE m (I a 0) (I a 0==2) a)
def lW(m:Nat)(a:Int)(b:Bool):Option Int:=
 cond b (some (wrap .i64 (a-1))) (some a)
def iJ:Nat->Int->Int->Option Int
 |0,_,_=>none
 |m+1,b,a=>cond (a=0) none (cond (a=0) none (cond (Int.tmod b a !=0) (lW m (wrap .i64 (Int.tdiv b a)) (!decide (b<0)==decide (a<0))) (lW m (wrap .i64 (Int.tdiv b a)) false)))
def gZ(m:Nat):Nat->Int->List Dt->Int->Int->Dt->Option Dt
 |0,_,_,_,_,_=>none
 |f+1,c,d,e,a,g=>cond (a<e) ((idx d a).bind fun h=>gZ m f (wrap .i64 (c+toInt h)) d e (wrap .i64 (a+1)) g) ((bS m c).bind fun b=>some b)
def jh(m:Nat):Nat->Int->List Dt->Int->Int->Dt->Option Dt
 |0,_,_,_,_,_=>none
 |a+1,e,f,g,b,h=>cond (b<g) ((idx f b).bind fun c=>jh m a (wrap .i64 (e*toInt c)) f g (wrap .i64 (b+1)) h) ((bS m e).bind fun d=>some d)
def dU(m:Nat)(h:Int)(n:Dt)(a:List Dt):Option Dt:=
 (inL a 0).bind fun i=>(a[0]?).bind fun d=>(inL a 1).bind fun j=>(a[1]?).bind fun e=>(iJ m (toInt d) (toInt e)).bind fun c=>cond (h==8) ((inL a 0).bind fun k=>(a[0]?).bind fun f=>(inL a 1).bind fun l=>(a[1]?).bind fun g=>(bS m (wrap .i64 (toInt f-wrap .i64 (toInt g*c)))).bind fun b=>some b) ((bS m c).bind fun b=>some b)
def fD(m:Nat)(d:Int)(e:Dt)(a:List Dt):Option Dt:=
 (inL a 1).bind fun f=>(a[1]?).bind fun b=>cond (toInt b==0) ((cB m).bind fun c=>some c) (dU m d e a)
def ig(m:Nat)(b:Int)(c:Dt)(a:List Dt):Option Dt:=
 cond (b==5) ((inL a 1).bind fun e=>(a[1]?).bind fun d=>(inL a 1).bind fun f=>(a[1]?).bind fun g=>gZ m (succ m) 0 (List.set a 1 (int (wrap .i64 (0-toInt d)))) ((List.set a 1 (int (wrap .i64 (0-toInt d)))).length:Int) 0 c) (cond (b==4) (gZ m (succ m) 0 a (a.length:Int) 0 c) (cond (b==6) (jh m (succ m) 1 a (a.length:Int) 0 c) (fD m b c a)))
def jO(m:Nat):Nat->Int->List Dt->Int->Int->Dt->List Dt->Option Dt
 |0,_,_,_,_,_,_=>none
 |h+1,c,d,e,a,f,b=>cond (a<e) ((idx d a).bind fun g=>cond (I g 0 !=3) ((cB m).bind fun i=>some i) ((inL b a).bind fun j=>(b[a.toNat]?).bind fun k=>jO m h c d e (wrap .i64 (a+1)) f (List.set b a.toNat (int (I g 1))))) (ig m c f b)
def dX:Nat->Int->List Dt->Option Dt
 |0,_,_=>none
 |m+1,b,a=>(mkL (a.length:Int) (a.length:Int) (int 0)).bind fun c=>jO m (succ m) b a (a.length:Int) 0 aC c
def bW:Nat->Bool->Option Dt
 |0,_=>none
 |m+1,a=>cond a (some Y7) (some Y6)
def jg:Nat->Int->Int->Option Dt
 |0,_,_=>none
 |m+1,b,a=>cond (b==10) ((bW m (a==0)).bind fun c=>some c) (cond (b==11) ((bW m (a !=0)).bind fun d=>some d) (cond (b==12) ((bW m (decide (0<a))).bind fun e=>some e) (cond (b==13) ((bW m (decide (0<=a))).bind fun f=>some f) (cond (b==14) ((bW m (decide (a<0))).bind fun g=>some g) (cond (b==15) ((bW m (decide (a<=0))).bind fun h=>some h) ((bS m a).bind fun i=>some i))))))
def sK(m:Nat)(a:Q43)(c:Int)(d i:Bool)(e:List Dt)(f g:Int)(h j:Dt):Option Dt:=
 cond i (a c d true e f (wrap .i64 (g+1)) h) ((eu m j).bind fun b=>a c d b e f (wrap .i64 (g+1)) h)
def kY(m:Nat):Nat->Int->Bool->Bool->List Dt->Int->Int->Dt->Option Dt
 |0,_,_,_,_,_,_,_=>none
 |j+1,c,k,d,e,f,b,l=>cond (b<f) ((idx e b).bind fun a=>cond k ((eu m a).bind fun g=>sK m (kY m j) c g d e f b l a) (sK m (kY m j) c false d e f b l a)) (cond (c==16) ((bW m k).bind fun h=>some h) ((bW m d).bind fun i=>some i))
def gH:Nat->Int->List Dt->Option Dt
 |0,_,_=>none
 |m+1,b,a=>cond (b==18) ((idx a 0).bind fun d=>(eu m d).bind fun e=>(bW m (!e)).bind fun f=>some f) (cond (b==19) ((idx a 0).bind fun g=>(eu m g).bind fun h=>cond h ((idx a 1).bind fun i=>some i) ((idx a 2).bind fun j=>some j)) (cond (b==20) ((idx a 0).bind fun k=>(gW m k).bind fun l=>cond (I l 0==2) ((idx a 1).bind fun n=>some n) ((idx a 0).bind fun c=>some c)) (kY m (succ m) b true false a (a.length:Int) 0 aC)))
def jE:Nat->Dt->Dt->Option Bool
 |0,_,_=>none
 |m+1,a,b=>(aW m a b).bind fun c=>some (c==0)
def pX(m:Nat)(a:List Dt)(b:Int)(c:Bool)(e:Dt):Option Dt:=
 cond c (some aC) ((idx a b).bind fun d=>some d)
def nA(m:Nat)(b:List Dt)(a:Int)(c:Dt):Option Dt:=
 cond (a<0) (pX m b a true c) (pX m b a (decide ((b.length:Int)<=a)) c)
def kE:Nat->List Dt->Dt->Option Dt
 |0,_,_=>none
 |m+1,b,a=>cond (I a 0 !=3) ((cB m).bind fun c=>some c) (cond (I a 1<0) (nA m b (wrap .i64 (I a 1+(b.length:Int))) aC) (nA m b (I a 1) aC))
def oO(m:Nat)(b:Dt)(a:List Dt):Option Dt:=
 some (agg [int 6,int 0,str (ByteArray.mk (List.toArray [])),lst a,lst []])
def ko(m:Nat):Nat->Int->Int->Dt->List Dt->Option Dt
 |0,_,_,_,_=>none
 |f+1,b,c,e,a=>cond (b<c) ((inL a c).bind fun k=>(a[c.toNat]?).bind fun d=>(inL a b).bind fun l=>(a[b.toNat]?).bind fun g=>(inL a b).bind fun n=>(a[b.toNat]?).bind fun h=>(inL (List.set a b.toNat d) c).bind fun i=>((List.set a b.toNat d)[c.toNat]?).bind fun j=>ko m f (wrap .i64 (b+1)) (wrap .i64 (c-1)) e (List.set (List.set a b.toNat d) c.toNat g)) (oO m e a)
def jG(m:Nat):Nat->Int->List Dt->Int->Int->Dt->Option Dt
 |0,_,_,_,_,_=>none
 |a+1,d,e,f,c,h=>bif c<f then(idx e c).bind fun b=>cond (I b 0==3) (jG m a (wrap .i64 (d+I b 1)) e f (wrap .i64 (c+1)) h) (jG m a d e f (wrap .i64 (c+1)) h)else(bS m d).bind fun g=>some g
def lY(m:Nat):Nat->List Dt->List Dt->Int->Int->Dt->Option Dt
 |0,_,_,_,_,_=>none
 |a+1,h,i,j,b,k=>bif b<j then(idx i b).bind fun c=>(idx h 0).bind fun d=>(jE m c d).bind fun e=>cond e ((bW m true).bind fun f=>some f) (lY m a h i j (wrap .i64 (b+1)) k)else(bW m false).bind fun g=>some g
def tL(m:Nat)(b:Int)(f:List Dt)(c:Dt)(a:List Dt):Option Dt:=
 cond (b==26) ((bS m (a.length:Int)).bind fun g=>some g) (cond (b==30) (ko m (succ m) 0 (wrap .i64 ((a.length:Int)-1)) c a) (cond (b==31) (jG m (succ m) 0 a (a.length:Int) 0 c) (cond (b==28) (lY m (succ m) f a (a.length:Int) 0 c) (cond (b==27) ((idx f 1).bind fun d=>(kE m a d).bind fun e=>some e) (oO m c a)))))
def nC(m:Nat):Nat->Int->List Dt->List Dt->Int->Int->Dt->List Dt->Option Dt
 |0,_,_,_,_,_,_,_=>none
 |i+1,b,c,d,e,a,f,g=>cond (a<e) ((idx d a).bind fun h=>cond (I h 0 !=6) ((cB m).bind fun j=>some j) ((app g (L h 3)).bind fun k=>nC m i b c d e (wrap .i64 (a+1)) f k)) (tL m b c f g)
def fC(m:Nat)(b:Int)(c a:List Dt)(d:Dt):Option Dt:=
 nC m (succ m) b c a (a.length:Int) 0 d []
def dM:Nat->Int->List Dt->Option Dt
 |0,_,_=>none
 |m+1,b,a=>cond (b==27) ((cutL a 0 1).bind fun d=>fC m b a d aC) (cond (b==28) ((cutL a 1 (a.length:Int)).bind fun c=>fC m b a c aC) (fC m b a a aC))
def F5(m:Nat)(a:Q12):Nat->List Dt->Int->Int->Int->Int->Option (Int×Int)
 |0,_,_,_,_,_=>none
 |h+1,d,e,c,f,g=>cond (c<e) ((idx d c).bind fun i=>(a i f g).bind fun b=>cond (!b.1) (some (b.2.1,b.2.2)) (F5 m a h d e (wrap .i64 (c+1)) b.2.1 b.2.2)) (some (f,g))
def F6(m:Nat)(a:Q12):Nat->List Dt->Int->Int->Int->Int->Option (Int×Int)
 |0,_,_,_,_,_=>none
 |h+1,d,e,c,f,g=>cond (c<e) ((idx d c).bind fun i=>(a (fld i 1) f g).bind fun b=>cond (!b.1) (some (b.2.1,b.2.2)) (F6 m a h d e (wrap .i64 (c+1)) b.2.1 b.2.2)) (some (f,g))
mutual
def kF:Nat->Dt->Int->Option Int
 |0,_,_=>none
 |m+1,b,a=>cond (1==a) (some 1) ((i95 m b 1 a).bind fun c=>some c.1)
def i95:Nat->Dt->Int->Int->Option (Int×Int)
 |0,_,_,_=>none
 |m+1,a,b,c=>cond (I a 0==6) (F5 m (i96 m) (succ m) (L a 3) ((L a 3).length:Int) 0 b c) (cond (I a 0==5) (F6 m (i96 m) (succ m) (L a 4) ((L a 4).length:Int) 0 b c) (some (b,c)))
def i96:Nat->Dt->Int->Int->Option (Bool×Int×Int)
 |0,_,_,_=>none
 |m+1,d,a,b=>(kF m d (wrap .i64 (b-a))).bind fun c=>some (decide (wrap .i64 (a+c)<b),wrap .i64 (a+c),b)
end
def mK:Nat->Dt->Option Int
 |0,_=>none
 |m+1,a=>(kF m a 1025).bind fun b=>some b
def F7(m:Nat)(a:Q12):Nat->List Dt->Int->Int->Int->Int->Option (Int×Int)
 |0,_,_,_,_,_=>none
 |h+1,d,e,c,f,g=>cond (c<e) ((idx d c).bind fun i=>(a i f g).bind fun b=>cond (!b.1) (some (b.2.1,b.2.2)) (F7 m a h d e (wrap .i64 (c+1)) b.2.1 b.2.2)) (some (f,g))
def F8(m:Nat)(a:Q12):Nat->List Dt->Int->Int->Int->Int->Option (Int×Int)
 |0,_,_,_,_,_=>none
 |h+1,d,e,c,f,g=>cond (c<e) ((idx d c).bind fun i=>(a (fld i 1) f g).bind fun b=>cond (!b.1) (some (b.2.1,b.2.2)) (F8 m a h d e (wrap .i64 (c+1)) b.2.1 b.2.2)) (some (f,g))
mutual
def kG:Nat->Dt->Int->Option Int
 |0,_,_=>none
 |m+1,b,a=>cond (a==1) (some 1) ((i97 m b 0 a).bind fun c=>some (wrap .i64 (1+c.1)))
def i97:Nat->Dt->Int->Int->Option (Int×Int)
 |0,_,_,_=>none
 |m+1,a,b,c=>cond (I a 0==6) (F7 m (i98 m) (succ m) (L a 3) ((L a 3).length:Int) 0 b c) (cond (I a 0==5) (F8 m (i98 m) (succ m) (L a 4) ((L a 4).length:Int) 0 b c) (some (b,c)))
def i98:Nat->Dt->Int->Int->Option (Bool×Int×Int)
 |0,_,_,_=>none
 |m+1,d,a,c=>(kG m d (wrap .i64 (c-1))).bind fun b=>some (decide (cond (a<b) b a<wrap .i64 (c-1)),cond (a<b) b a,c)
end
def mM:Nat->Dt->Option Int
 |0,_=>none
 |m+1,a=>(kG m a 17).bind fun b=>some b
def oD(m:Nat)(a:Q25):Nat->List Dt->Int->Int->Dt->Int->Int->ByteArray->List Dt->List Dt->Option (Int×Int×ByteArray×List Dt×List Dt)
 |0,_,_,_,_,_,_,_,_,_=>none
 |l+1,e,f,b,n,g,h,i,j,d=>cond (b<f) ((idx e b).bind fun k=>(a (fld k 1)).bind fun c=>(inL d b).bind fun o=>(d[b.toNat]?).bind fun p=>oD m a l e f (wrap .i64 (b+1)) n g h i j (List.set d b.toNat (agg [str (S k 0),agg [int c.1,int c.2.1,str c.2.2.1,lst c.2.2.2.1,lst c.2.2.2.2]]))) (some (g,h,i,j,d))
def jP(m:Nat)(a:Q25)(b g:Dt)(c d:Int)(e:ByteArray)(f h:List Dt):Option (Int×Int×ByteArray×List Dt×List Dt):=
 cond (0<((L b 4).length:Int)) ((mkL ((L b 4).length:Int) ((L b 4).length:Int) Bq).bind fun i=>oD m a (succ m) (L b 4) ((L b 4).length:Int) 0 g c d e f i) (some (c,d,e,f,h))
def lZ(m:Nat)(a:Q25):Nat->List Dt->Int->Int->Dt->Dt->Int->Int->ByteArray->List Dt->List Dt->Option (Int×Int×ByteArray×List Dt×List Dt)
 |0,_,_,_,_,_,_,_,_,_,_=>none
 |n+1,e,f,b,g,h,i,j,k,d,l=>cond (b<f) ((idx e b).bind fun o=>(a o).bind fun c=>(inL d b).bind fun p=>(d[b.toNat]?).bind fun q=>lZ m a n e f (wrap .i64 (b+1)) g h i j k (List.set d b.toNat (agg [int c.1,int c.2.1,str c.2.2.1,lst c.2.2.2.1,lst c.2.2.2.2])) l) (jP m a g h i j k d l)
def dx:Nat->Dt->Option (Int×Int×ByteArray×List Dt×List Dt)
 |0,_=>none
 |m+1,a=>bif 0<((L a 3).length:Int)then(mkL ((L a 3).length:Int) ((L a 3).length:Int) aC).bind fun b=>lZ m (dx m) (succ m) (L a 3) ((L a 3).length:Int) 0 a aC (I a 0) (I a 1) (S a 2) b []else jP m (dx m) a aC (I a 0) (I a 1) (S a 2) [] []
def pG(m:Nat):Nat->ByteArray->Int->Int->Dt->Option Int
 |0,_,_,_,_=>none
 |e+1,b,c,a,d=>cond (a<c) ((idx (L d 4) a).bind fun f=>cond ((S f 0).toList==b.toList) (some a) (pG m e b c (wrap .i64 (a+1)) d)) (some (-1))
def qc:Nat->Dt->ByteArray->Option Int
 |0,_,_=>none
 |m+1,a,b=>cond (I a 0 !=5) (some (-1)) (pG m (succ m) b ((L a 4).length:Int) 0 a)
def Et(m:Nat)(i:ByteArray)(j n:Dt)(e f:Int)(g:ByteArray)(h a:List Dt):Option Dt:=
 (qc m (agg [int e,int f,str g,lst h,lst a]) i).bind fun d=>bif 0<=d then(dx m j).bind fun b=>(inL a d).bind fun o=>(a[d.toNat]?).bind fun k=>some (agg [int e,int f,str g,lst h,lst (List.set a d.toNat (agg [str (S k 0),agg [int b.1,int b.2.1,str b.2.2.1,lst b.2.2.2.1,lst b.2.2.2.2]]))])else(dx m j).bind fun c=>(app a [agg [str i,agg [int c.1,int c.2.1,str c.2.2.1,lst c.2.2.2.1,lst c.2.2.2.2]]]).bind fun l=>some (agg [int e,int f,str g,lst h,lst l])
def rJ:Nat->Dt->ByteArray->Dt->Option Dt
 |0,_,_,_=>none
 |m+1,b,c,d=>(dx m b).bind fun a=>cond (a.1 !=5) (some (agg [int a.1,int a.2.1,str a.2.2.1,lst a.2.2.2.1,lst a.2.2.2.2])) (Et m c d aC a.1 a.2.1 a.2.2.1 a.2.2.2.1 a.2.2.2.2)
def pI(m:Nat)(a:Q22)(b:Bool)(c:List Dt)(d e:Int)(f g:Dt):Option Dt:=
 a b c d (wrap .i64 (e+1)) f g
def uP(m:Nat)(a:Q22)(c:Bool)(d:List Dt)(e f:Int)(g b:Dt):Option Dt:=
 cond (1024<((L b 4).length:Int)) ((cB m).bind fun h=>some h) (pI m a c d e f g b)
def pJ(m:Nat)(a:Q22):Nat->Bool->List Dt->Int->Int->List Dt->Int->Int->Dt->Dt->Option Dt
 |0,_,_,_,_,_,_,_,_,_=>none
 |l+1,c,d,e,f,g,h,b,i,j=>cond (b<h) ((idx g b).bind fun k=>(rJ m j (S k 0) (fld k 1)).bind fun n=>pJ m a l c d e f g h (wrap .i64 (b+1)) i n) (uP m a c d e f i j)
def sM(m:Nat)(a:Q22)(b:Bool)(c:List Dt)(d e i:Int)(j:Bool)(f h g:Dt):Option Dt:=
 cond j (pI m a b c d e f h) (cond (i==5) (cond b (pI m a false c d e f g) (pJ m a (succ m) b c d e (L g 4) ((L g 4).length:Int) 0 f h)) ((cB m).bind fun k=>some k))
def gF(m:Nat):Nat->Bool->List Dt->Int->Int->Dt->Dt->Option Dt
 |0,_,_,_,_,_,_=>none
 |f+1,g,c,d,b,h,e=>cond (b<d) ((idx c b).bind fun a=>cond (I a 0==0) (sM m (gF m f) g c d b (I a 0) (I a 0==0) h e a) (sM m (gF m f) g c d b (I a 0) (I a 0==2) h e a)) (some e)
def oF:Nat->List Dt->Option Dt
 |0,_=>none
 |m+1,a=>gF m (succ m) true a (a.length:Int) 0 aC Y8
def fP(m:Nat)(a:Q28)(b:ByteArray)(c d:Int)(e:Bool):Option Bool:=
 cond e (some false) (a b c (wrap .i64 (d+1)))
def fQ(m:Nat):Nat->ByteArray->Int->Int->Option Bool
 |0,_,_,_=>none
 |d+1,b,c,a=>cond (a<c) ((idxS b a).bind fun e=>cond (e<33) (fP m (fQ m d) b c a true) ((idxS b a).bind fun f=>cond (126<f) (fP m (fQ m d) b c a true) ((idxS b a).bind fun g=>fP m (fQ m d) b c a (g==46)))) (some true)
def fT(m:Nat)(a:ByteArray)(b:Bool):Option Bool:=
 cond b (some false) (fQ m (succ m) a (a.size:Int) 0)
def mW:Nat->ByteArray->Option Bool
 |0,_=>none
 |m+1,a=>cond ((a.size:Int)<1) (fT m a true) (cond (32<(a.size:Int)) (fT m a true) ((idxS a 0).bind fun b=>fT m a (b==36)))
def l8(m:Nat)(a:Q8)(b:Q15):Nat->List Dt->Int->Int->Option Bool
 |0,_,_,_=>none
 |f+1,d,e,c=>cond (c<e) ((idx d c).bind fun g=>(a g).bind fun h=>cond (!h) (some false) (l8 m a b f d e (wrap .i64 (c+1)))) (some true)
def qF(m:Nat)(a:Q8)(b:Q15)(c:List Dt)(d e:Int):Option Bool:=
 l8 m a b (succ m) c d e
def fK(m:Nat)(c:Q8)(a:Q15)(d:Int)(e:Bool)(b:Dt):Option Bool:=
 cond e (some true) (cond (d==9) (cond (I b 1==0) (some true) (some (I b 1==1))) (cond (d==10) (some (decide (0<=I b 1))) (cond (d==4) (cond (((S b 2).size:Int)<=4096) ((utf8_ValidString (S b 2)).bind fun f=>some f) (some false)) (cond (d==7) (some (decide (((S b 2).size:Int)<=4096))) (cond (d==8) (some (((S b 2).size:Int)==12)) (cond (d==6) (qF m c a (L b 3) ((L b 3).length:Int) 0) (cond (d==5) ((a (L b 4)).bind fun g=>some g) (some false))))))))
def l9(m:Nat)(a:Q8)(b:Q15)(c:Dt):Option Bool:=
 cond (I c 0==1) (fK m a b (I c 0) (I c 0==1) c) (cond (I c 0==2) (fK m a b (I c 0) (I c 0==2) c) (cond (I c 0==11) (fK m a b (I c 0) (I c 0==11) c) (fK m a b (I c 0) (I c 0==3) c)))
def gI(m:Nat)(a:Q8)(b:Q15)(c:Bool)(d:Dt):Option Bool:=
 cond c (some false) (l9 m a b d)
def mh(m:Nat)(a:Q8)(b:Q15)(c:Dt):Option Bool:=
 cond (I c 0 !=6) (cond (0<((L c 3).length:Int)) (gI m a b true c) (cond (I c 0 !=5) (gI m a b (decide (0<((L c 4).length:Int))) c) (gI m a b false c))) (cond (I c 0 !=5) (gI m a b (decide (0<((L c 4).length:Int))) c) (gI m a b false c))
def gJ(m:Nat)(a:Q8)(b:Q15)(c:Bool)(d:Dt):Option Bool:=
 cond c (some false) (mh m a b d)
def gK(m:Nat)(a:Q8)(b:Q15)(e d:Bool)(c:Dt):Option Bool:=
 cond (!e) (cond (I c 1 !=0) (gJ m a b true c) (cond (!d) (gJ m a b (!(S c 2).toList==[]) c) (gJ m a b false c))) (cond (!d) (gJ m a b (!(S c 2).toList==[]) c) (gJ m a b false c))
def gL(m:Nat)(a:Q8)(b:Q15)(d:Bool)(c:Dt):Option Bool:=
 cond (I c 0==4) (gK m a b d true c) (cond (I c 0==7) (gK m a b d true c) (gK m a b d (I c 0==8) c))
def eZ(m:Nat)(b:Q8)(a:Q24)(c:List Dt)(d e:Int)(f:Bool)(g:List Dt)(h:Dt):Option Bool:=
 cond f (some false) (a c d (wrap .i64 (e+1)) (mput g (S h 0) (bool true)))
def eB(m:Nat)(a:Q8):Nat->List Dt->Int->Int->List Dt->Option Bool
 |0,_,_,_,_=>none
 |g+1,d,e,c,f=>cond (c<e) ((idx d c).bind fun b=>(mW m (S b 0)).bind fun h=>cond (!h) (eZ m a (eB m a g) d e c true f b) (cond (Dt.toBool (mgetD f (S b 0) (bool false))) (eZ m a (eB m a g) d e c true f b) ((a (fld b 1)).bind fun i=>eZ m a (eB m a g) d e c (!i) f b))) (some true)
mutual
def bM:Nat->Dt->Option Bool
 |0,_=>none
 |m+1,a=>cond (I a 0==3) (gL m (bM m) (bK m) true a) (cond (I a 0==9) (gL m (bM m) (bK m) true a) (gL m (bM m) (bK m) (I a 0==10) a))
def bK:Nat->List Dt->Option Bool
 |0,_=>none
 |m+1,a=>eB m (bM m) (succ m) a (a.length:Int) 0 []
end
def kH:Nat->Dt->Option Bool
 |0,_=>none
 |m+1,a=>(mK m a).bind fun b=>cond (b<=1024) ((mM m a).bind fun c=>cond (c<=16) ((bM m a).bind fun d=>some d) (some false)) (some false)
def nD(m:Nat)(a:Q2)(b:Q2):Nat->Dt->Dt->Dt->Option Dt
 |0,_,_,_=>none
 |e+1,c,d,f=>cond (!List.isEmpty (toLst c)) ((idx (toLst c) 0).bind fun g=>bif (S g 0).toList==(S d 2).toList then(idx (toLst c) 0).bind fun h=>(bY m (fld h 1) (L d 1)).bind fun i=>some i else(idx (toLst c) 0).bind fun j=>nD m a b e (fld j 2) d f) (some aC)
def iq(m:Nat)(b:Q2)(c:Q2)(i:Int)(k:Bool)(j n:Dt)(a:List Dt):Option Dt:=
 cond k ((dM m (I j 0) a).bind fun d=>some d) (cond (i==36) ((inL a 0).bind fun l=>(a[0]?).bind fun e=>(bS m (I e 0)).bind fun f=>some f) (cond (i==37) ((oF m a).bind fun g=>some g) ((eF m j a).bind fun h=>some h)))
def jH(m:Nat)(a:Q2)(b:Q2)(c:Int)(h:Bool)(d f:Dt)(e:List Dt):Option Dt:=
 cond h ((dZ (I d 0) e).bind fun g=>some g) (cond (c==26) (iq m a b c (c==26) d f e) (cond (c==30) (iq m a b c (c==30) d f e) (cond (c==31) (iq m a b c (c==31) d f e) (cond (c==29) (iq m a b c (c==29) d f e) (cond (c==27) (iq m a b c (c==27) d f e) (iq m a b c (c==28) d f e))))))
def jI(m:Nat)(a:Q2)(b:Q2)(c:Int)(h:Bool)(d f:Dt)(e:List Dt):Option Dt:=
 cond h ((gH m (I d 0) e).bind fun g=>some g) (cond (c==21) (jH m a b c (c==21) d f e) (cond (c==22) (jH m a b c (c==22) d f e) (cond (c==23) (jH m a b c (c==23) d f e) (cond (c==24) (jH m a b c (c==24) d f e) (jH m a b c (c==25) d f e)))))
def fZ(m:Nat)(a:Q2)(b:Q2)(c:Int)(k:Bool)(e f:Dt)(d:List Dt):Option Dt:=
 cond k ((inL d 0).bind fun l=>(d[0]?).bind fun g=>(inL d 1).bind fun n=>(d[1]?).bind fun h=>(aW m g h).bind fun i=>(jg m (I e 0) i).bind fun j=>some j) (cond (c==16) (jI m a b c (c==16) e f d) (cond (c==17) (jI m a b c (c==17) e f d) (cond (c==18) (jI m a b c (c==18) e f d) (cond (c==19) (jI m a b c (c==19) e f d) (jI m a b c (c==20) e f d)))))
def jJ(m:Nat)(a:Q2)(b:Q2)(c:Int)(h:Bool)(d f:Dt)(e:List Dt):Option Dt:=
 cond h ((dX m (I d 0) e).bind fun g=>some g) (cond (c==9) (fZ m a b c (c==9) d f e) (cond (c==10) (fZ m a b c (c==10) d f e) (cond (c==11) (fZ m a b c (c==11) d f e) (cond (c==12) (fZ m a b c (c==12) d f e) (cond (c==13) (fZ m a b c (c==13) d f e) (cond (c==14) (fZ m a b c (c==14) d f e) (fZ m a b c (c==15) d f e)))))))
def aJ(m:Nat)(a:Q2)(b:Q2)(c d:Dt)(e:List Dt):Option Dt:=
 cond (I c 0==4) (jJ m a b (I c 0) (I c 0==4) c d e) (cond (I c 0==5) (jJ m a b (I c 0) (I c 0==5) c d e) (cond (I c 0==6) (jJ m a b (I c 0) (I c 0==6) c d e) (cond (I c 0==7) (jJ m a b (I c 0) (I c 0==7) c d e) (jJ m a b (I c 0) (I c 0==8) c d e))))
def nE(m:Nat)(a:Q2)(b:Q2):Nat->Dt->List Dt->Int->Int->Dt->Dt->Dt->List Dt->Option Dt
 |0,_,_,_,_,_,_,_,_=>none
 |k+1,e,f,g,c,h,i,j,d=>cond (c<g) ((idx f c).bind fun l=>(a l i e).bind fun n=>(inL d c).bind fun p=>(d[c.toNat]?).bind fun o=>nE m a b k e f g (wrap .i64 (c+1)) h i j (List.set d c.toNat n)) (aJ m a b h j d)
def tN(m:Nat)(b:Q2)(a:Q2)(d:Dt)(f:Bool)(c e g:Dt):Option Dt:=
 cond f ((a c e d).bind fun h=>some h) ((mkL ((L c 6).length:Int) ((L c 6).length:Int) aC).bind fun i=>nE m b a (succ m) d (L c 6) ((L c 6).length:Int) 0 c e g i)
def qG(m:Nat)(b:Q2)(a:Q61)(e:Dt)(f:List Dt)(g h:Int)(i j k:Dt)(l n:Int)(o:ByteArray)(c d:List Dt):Option Dt:=
 a e f g (wrap .i64 (h+1)) i j k l n o c d
def kI(m:Nat)(a:Q2):Nat->Dt->List Dt->Int->Int->Dt->Dt->Dt->Int->Int->ByteArray->List Dt->List Dt->Option Dt
 |0,_,_,_,_,_,_,_,_,_,_,_,_=>none
 |n+1,f,g,h,e,d,i,o,j,k,l,b,c=>cond (e<h) ((idx g e).bind fun p=>(idx (L d 6) 1).bind fun r=>(a r i (lst [agg [str (S d 2),p,f]])).bind fun q=>cond (I d 0==32) ((gW m q).bind fun s=>(app b [s]).bind fun t=>qG m a (kI m a n) f g h e d i o j k l t c) ((eu m q).bind fun u=>cond u ((app b [p]).bind fun v=>qG m a (kI m a n) f g h e d i o j k l v c) (qG m a (kI m a n) f g h e d i o j k l b c))) (some (agg [int j,int k,str l,lst b,lst c]))
mutual
def bU:Nat->Dt->Dt->Dt->Option Dt
 |0,_,_,_=>none
 |m+1,b,c,d=>(dA m b c d).bind fun a=>cond (I a 0==0) (some aC) ((kH m a).bind fun e=>cond (!e) ((cB m).bind fun f=>some f) (some a))
def dA:Nat->Dt->Dt->Dt->Option Dt
 |0,_,_,_=>none
 |m+1,a,b,c=>cond (I a 0==1) (some (fld a 4)) (cond (I a 0==2) ((bY m b (L a 1)).bind fun d=>some d) (cond (I a 0==3) (nD m (bU m) (dF m) (succ m) c a aC) (cond (I a 0==32) (tN m (bU m) (dF m) c (I a 0==32) a b aC) (tN m (bU m) (dF m) c (I a 0==33) a b aC))))
def dF:Nat->Dt->Dt->Dt->Option Dt
 |0,_,_,_=>none
 |m+1,b,c,d=>(idx (L b 6) 0).bind fun e=>(bU m e c d).bind fun a=>cond (I a 0 !=6) ((cB m).bind fun f=>some f) (kI m (bU m) (succ m) d (L a 3) ((L a 3).length:Int) 0 b c aC 6 0 (ByteArray.mk (List.toArray [])) [] [])
end
def jQ(m:Nat)(a:Bool):Option Int:=
 cond a (some 4) (some 0)
def qd(m:Nat)(a:Dt):Option Int:=
 cond (I a 0 !=1) ((oz m (fld a 4)).bind fun b=>cond (!b) (jQ m true) (jQ m (I a 5 !=0))) (jQ m (I a 5 !=0))
def dh(m:Nat)(a:Bool)(b:Dt):Option Int:=
 cond a (some 4) (qd m b)
def qg(m:Nat)(c b:Bool)(a:Dt):Option Int:=
 cond (!c) (cond (0<((L a 1).length:Int)) (dh m true a) (cond (!b) (cond (!(S a 2).toList==[]) (dh m true a) (cond (I a 0 !=34) (dh m (decide (0<((L a 3).length:Int))) a) (dh m false a))) (cond (I a 0 !=34) (dh m (decide (0<((L a 3).length:Int))) a) (dh m false a)))) (cond (!b) (cond (!(S a 2).toList==[]) (dh m true a) (cond (I a 0 !=34) (dh m (decide (0<((L a 3).length:Int))) a) (dh m false a))) (cond (I a 0 !=34) (dh m (decide (0<((L a 3).length:Int))) a) (dh m false a)))
def mX(m:Nat)(a b c:Bool)(d:Dt):Option Int:=
 cond c (some 8) (qg m a b d)
def qH(m:Nat)(b c:Bool)(a:Dt):Option Int:=
 cond (I a 0==1) ((kH m (fld a 4)).bind fun d=>mX m b c (!d) a) (mX m b c false a)
def gM(m:Nat)(a b c:Bool)(d:Dt):Option Int:=
 cond c (some 9) (qH m a b d)
def qI(m:Nat)(c b:Bool)(a:Dt):Option Int:=
 cond b ((kD m (S a 2)).bind fun d=>cond (!d) (gM m c b true a) (cond (I a 0==34) ((eY m (L a 3)).bind fun e=>gM m c b (!e) a) (gM m c b false a))) (cond (I a 0==34) ((eY m (L a 3)).bind fun f=>gM m c b (!f) a) (gM m c b false a))
def iU(m:Nat)(a b c:Bool)(d:Dt):Option Int:=
 cond c (some 10) (qI m a b d)
def kJ(m:Nat)(b c:Bool)(a:Dt):Option Int:=
 cond b ((mU m (L a 1)).bind fun d=>cond (!d) (cond (I a 0==2) (iU m b c true a) (iU m b c (decide (0<((L a 1).length:Int))) a)) (iU m b c false a)) (iU m b c false a)
def nT(m:Nat)(b:Bool)(a:Dt):Option Int:=
 cond (I a 0==3) (kJ m b true a) ((oC m (I a 0)).bind fun c=>kJ m b (c==3) a)
def nU(m:Nat)(b:Bool)(a:Dt):Option Int:=
 cond b (some 11) (cond (I a 0==2) (nT m true a) (nT m (I a 0==3) a))
def kK(m:Nat)(b:Bool)(a:Dt):Option Int:=
 cond b (some 11) (cond (I a 0==34) (nU m (((L a 6).length:Int) !=((L a 3).length:Int)) a) (nU m false a))
def jR:Nat->Dt->Option Int
 |0,_=>none
 |m+1,a=>cond (I a 0<1) (kK m true a) (cond (37<I a 0) (kK m true a) ((oC m (I a 0)).bind fun b=>(oN m b ((L a 6).length:Int)).bind fun c=>kK m (!c) a))
def Xb(m:Nat)(b:Q9)(a:Q62)(c:Int)(d:List Dt)(e f g:Int):Option (Int×Int):=
 a c d e (wrap .i64 (f+1)) g
def F9(m:Nat)(a:Q9):Nat->Int->List Dt->Int->Int->Int->Option (Int×Int)
 |0,_,_,_,_,_=>none
 |h+1,d,e,f,c,g=>cond (c<f) ((idx e c).bind fun i=>(a i (wrap .i64 (d+1)) g).bind fun b=>cond (b.1 !=0) (some (b.1,b.2)) (Xb m a (F9 m a h) d e f c b.2)) (some (0,g))
def Rh(m:Nat)(a:Q9)(e:Int)(f:Bool)(b:Int)(c:Dt):Option (Int×Int):=
 cond f (some (2,b)) ((jR m c).bind fun d=>cond (d !=0) (some (d,wrap .i64 (b+1))) (F9 m a (succ m) e (L c 6) ((L c 6).length:Int) 0 (wrap .i64 (b+1))))
def i50:Nat->Dt->Int->Int->Option (Int×Int)
 |0,_,_,_=>none
 |m+1,c,a,b=>cond (16<a) (Rh m (i50 m) a true b c) (Rh m (i50 m) a (b==256) b c)
def qh:Nat->Dt->Option Int
 |0,_=>none
 |m+1,a=>(i50 m a 1 0).bind fun b=>some b.1
def gT:Nat->Dt->Dt->Option Dt
 |0,_,_=>none
 |m+1,a,b=>(qh m a).bind fun c=>cond (c !=0) (some aC) ((bU m a b (lst [])).bind fun d=>(bO m d).bind fun e=>some e)
def rM(m:Nat)(a:Q39)(b:List Dt)(c d:Int)(e:Dt)(f g h i:List Dt):Option (List Dt):=
 a b c (wrap .i64 (d+1)) e f g h i
def jK(m:Nat)(b:Q39)(f:Int)(g:List Dt)(h i:Int)(j:Dt)(k l c d:List Dt):Option (List Dt):=
 (inL d f).bind fun q=>(d[f.toNat]?).bind fun a=>(inL c (toInt a)).bind fun n=>(c[(toInt a).toNat]?).bind fun e=>(inL c (toInt a)).bind fun o=>(c[(toInt a).toNat]?).bind fun p=>rM m b g h i j k l (List.set c (toInt a).toNat (int (wrap .i64 (toInt e+1)))) d
def iw(m:Nat)(a:Q39)(h:List Dt)(i j:Int)(k:Dt)(b e l f:List Dt)(n:Dt):Option (List Dt):=
 (i18 m f n (lst (frzD (Option.some 4) b e))).bind fun d=>cond (!d.2) ((kS d.1 f [int (b.length:Int)]).bind fun o=>(eD m n 0).bind fun c=>(app b [aC]).bind fun g=>(inL g (b.length:Int)).bind fun q=>(g[(b.length:Int).toNat]?).bind fun r=>(app l [int 0]).bind fun p=>jK m a d.1 h i j k (List.set g (b.length:Int).toNat (agg [int c.1,int c.2.1,str c.2.2.1,lst c.2.2.2.1,bool true])) (List.set (e++[lst []]) (b.length:Int).toNat (lst c.2.2.2.2)) p o) (jK m a d.1 h i j k b e l f)
def rO(m:Nat)(a:Q39)(b:List Dt)(e c:Int)(d:Dt)(f g h i:List Dt):Option (List Dt):=
 (idx b c).bind fun k=>(gT m d k).bind fun j=>cond (I j 0==0) (iw m a b e c d f g h i mP) (iw m a b e c d f g h i j)
def qJ(m:Nat)(a:Q63)(b:List Dt)(c d:Int)(e f:List Dt):Option (List Dt):=
 a b c (wrap .i64 (d+1)) e f
def rP(m:Nat)(c:Q63)(i:List Dt)(k a:Int)(d j:List Dt):Option (List Dt):=
 (idx i a).bind fun e=>(inL d a).bind fun l=>(d[a.toNat]?).bind fun f=>cond (lkd (Option.some 4) f) ((j[a.toNat]?).bind fun b=>(gU m (toInt e)).bind fun g=>(inL (toLst b) 1).bind fun n=>((toLst b)[1]?).bind fun h=>qJ m c i k a d (List.set (List.set j a.toNat (lst [])) a.toNat (lst (List.set (toLst b) 1 (agg [str (S h 0),g]))))) none
def kL(m:Nat)(b:List Dt):Option (List Dt):=
 (i24 m b).bind fun a=>some a
def jL(m:Nat):Nat->List Dt->Int->Int->List Dt->List Dt->Option (List Dt)
 |0,_,_,_,_,_=>none
 |e+1,f,a,b,c,d=>cond (b<a) (rP m (jL m e) f a b c d) (kL m (frzD (Option.some 4) c d))
def mo(m:Nat)(b c a:List Dt):Option (List Dt):=
 jL m (succ m) a (a.length:Int) 0 b c
def iA(m:Nat):Nat->List Dt->Int->Int->Dt->List Dt->List Dt->List Dt->List Dt->Option (List Dt)
 |0,_,_,_,_,_,_,_,_=>none
 |f+1,g,a,b,h,c,d,e,i=>cond (b<a) (rO m (iA m f) g a b h c d e i) (mo m c d e)
def jF:Nat->Dt->List Dt->Option (List Dt)
 |0,_,_=>none
 |m+1,b,a=>iA m (succ m) a (a.length:Int) 0 b [] [] [] []
def vV(m:Nat)(a:Q64)(b c:List Dt)(d:Int)(e:Dt):Option (List Dt):=
 a b c (wrap .i64 (d+1)) e
def vW(m:Nat)(a:Q64)(b d:List Dt)(c:Int)(e:Dt):Option (List Dt):=
 (idx b (wrap .i64 (c-1))).bind fun f=>(idx b c).bind fun g=>(aW m f g).bind fun h=>cond (0<=h) (some []) (vV m a b d c e)
def mY(m:Nat)(a:Q38)(b:List Dt)(c:Int)(d:List Dt)(e f:Int)(g:Dt)(h:List Dt):Option (List Dt):=
 a b c d e (wrap .i64 (f+1)) g h
def qj(m:Nat)(a:Q38)(d:List Dt)(e b:Int)(f:List Dt)(g h:Int)(i:Dt)(c:List Dt):Option (List Dt):=
 (inL c b).bind fun l=>(c[b.toNat]?).bind fun j=>(inL c b).bind fun n=>(c[b.toNat]?).bind fun k=>mY m a d e f g h i (List.set c b.toNat (int (wrap .i64 (toInt j+1))))
def jS(m:Nat)(a:Q38)(b:List Dt)(c i:Int)(d:List Dt)(e f:Int)(j:Bool)(g:Dt)(h:List Dt):Option (List Dt):=
 cond j (mY m a b (wrap .i64 (c+1)) d e f g h) (qj m a b c i d e f g h)
def gP(m:Nat)(a:Q38)(c:List Dt)(d b:Int)(e:List Dt)(f g:Int)(h:Dt)(i:List Dt):Option (List Dt):=
 cond (b<0) (jS m a c d b e f g true h i) (jS m a c d b e f g (decide (wrap .i64 ((c.length:Int)-1)<=b)) h i)
def vX(m:Nat)(a:Q38)(b:List Dt)(g:Int)(c:List Dt)(h d:Int)(e:Dt)(i:List Dt):Option (List Dt):=
 (idx c d).bind fun j=>(gT m e j).bind fun k=>(i32 m b k).bind fun f=>cond (!f.2) (gP m a b g (wrap .i64 (f.1-1)) c h d e i) (gP m a b g f.1 c h d e i)
def ql(m:Nat)(a:Q65)(b:List Dt)(c:Int)(d:List Dt)(e f:Int)(g:List Dt):Option (List Dt):=
 a b c d e (wrap .i64 (f+1)) g
def uQ(m:Nat)(a:Q65)(e:List Dt)(j:Int)(f:List Dt)(k d:Int)(l:List Dt):Option (List Dt):=
 (idx f d).bind fun c=>cond (0<toInt c) ((idx e d).bind fun g=>(bR m g).bind fun h=>(eD m h (toInt c)).bind fun b=>(app l [agg [int b.1,int b.2.1,str b.2.2.1,lst b.2.2.2.1,lst b.2.2.2.2]]).bind fun i=>ql m a e j f k d i) (ql m a e j f k d l)
def qm(m:Nat)(a:List Dt):Option (List Dt):=
 some a
def uR(m:Nat)(c:Int)(d:List Dt):Option (List Dt):=
 cond (0<c) ((eD m mP c).bind fun a=>(app d [agg [int a.1,int a.2.1,str a.2.2.1,lst a.2.2.2.1,lst a.2.2.2.2]]).bind fun b=>qm m b) (qm m d)
def jU(m:Nat):Nat->List Dt->Int->List Dt->Int->Int->List Dt->Option (List Dt)
 |0,_,_,_,_,_,_=>none
 |a+1,f,b,g,c,d,e=>cond (d<c) (uQ m (jU m a) f b g c d e) (uR m b e)
def qo(m:Nat)(b:List Dt)(c:Int)(a:List Dt):Option (List Dt):=
 jU m (succ m) b c a (a.length:Int) 0 []
def dI(m:Nat):Nat->List Dt->Int->List Dt->Int->Int->Dt->List Dt->Option (List Dt)
 |0,_,_,_,_,_,_,_=>none
 |f+1,a,b,g,c,d,h,e=>cond (d<c) (vX m (dI m f) a b g c d h e) (qo m a b e)
def nV(m:Nat)(a b:List Dt)(c:Dt):Option (List Dt):=
 (mkL (a.length:Int) (a.length:Int) (int 0)).bind fun d=>dI m (succ m) a 0 b (b.length:Int) 0 c d
def kM(m:Nat):Nat->List Dt->List Dt->Int->Dt->Option (List Dt)
 |0,_,_,_,_=>none
 |e+1,a,b,c,d=>cond (c<(a.length:Int)) (vW m (kM m e) a b c d) (nV m a b d)
def iP:Nat->Dt->List Dt->List Dt->Option (List Dt)
 |0,_,_,_=>none
 |m+1,b,a,c=>cond ((a.length:Int)<2) (some []) (kM m (succ m) a c 1 b)
def eP(m:Nat)(a:Q45)(b c:List Dt)(d:Bool)(e:List Dt)(f g:Int)(h:Bool)(i:Dt):Option Bool:=
 cond h (some false) (a b c d e f (wrap .i64 (g+1)) i)
def iV(m:Nat)(g a:List Dt)(h:Bool)(i:List Dt)(j:Dt):Option Bool:=
 (cO m i).bind fun b=>cond (b==(a.length:Int)) (cond (!h) ((xI).bind fun c=>some c) ((iP m j g a).bind fun d=>(cO m d).bind fun e=>cond (e==(a.length:Int)) ((xI).bind fun f=>some f) (some false))) (some false)
def dN(m:Nat):Nat->List Dt->List Dt->Bool->List Dt->Int->Int->Dt->Option Bool
 |0,_,_,_,_,_,_,_=>none
 |h+1,c,d,e,b,f,a,g=>cond (a<f) ((idx b a).bind fun i=>cond (((L i 4).length:Int) !=2) (eP m (dN m h) c d e b f a true g) (cond (0<a) ((idx b (wrap .i64 (a-1))).bind fun j=>(idx (L j 4) 1).bind fun k=>(idx b a).bind fun l=>(idx (L l 4) 1).bind fun n=>eP m (dN m h) c d e b f a (decide (I (fld k 1) 1<I (fld n 1) 1)) g) (eP m (dN m h) c d e b f a false g))) (iV m c d e b g)
def qK(m:Nat)(a b:List Dt)(c:Bool)(d:List Dt)(e f:Int)(g:Dt):Option Bool:=
 dN m (succ m) a b c d e f g
def jv(m:Nat)(d a:List Dt)(e:Bool)(b:Dt):Option Bool:=
 (jF m b a).bind fun c=>qK m d a e c (c.length:Int) 0 b
def dO(m:Nat):Nat->List Dt->List Dt->Bool->Int->Int->Dt->Option Bool
 |0,_,_,_,_,_,_=>none
 |f+1,b,c,g,d,a,e=>cond (a<d) (cond g (cond (a==0) ((idx b a).bind fun h=>(fF m h).bind fun i=>dO m f b c i d (wrap .i64 (a+1)) e) ((idx b (wrap .i64 (a-1))).bind fun j=>(idx b a).bind fun k=>(bP m j k).bind fun l=>cond (l<0) ((idx b a).bind fun n=>(fF m n).bind fun o=>dO m f b c o d (wrap .i64 (a+1)) e) (dO m f b c false d (wrap .i64 (a+1)) e))) (dO m f b c false d (wrap .i64 (a+1)) e)) (jv m b c g e)
def dD(m:Nat)(a b:List Dt)(c:Bool)(d:Dt):Option Bool:=
 cond c ((xI).bind fun e=>some e) (dO m (succ m) a b (decide (2<=(a.length:Int))) (a.length:Int) 0 d)
def jo:Nat->Dt->List Dt->List Dt->Option Bool
 |0,_,_,_=>none
 |m+1,a,b,c=>(iN m c).bind fun e=>cond (!e) (dD m b c true a) (cond (30<(b.length:Int)) (dD m b c true a) ((kC m a).bind fun d=>dD m b c (d !=0) a))
