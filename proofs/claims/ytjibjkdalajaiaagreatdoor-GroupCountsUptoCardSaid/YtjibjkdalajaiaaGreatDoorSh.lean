/- Generated: what the Go functions compute, over plain data. -/
import Derived.Test.YtjibjkdalajaiaaGreatDoorA4
import Derived.Test.YtjibjkdalajaiaaGreatDoorP1A
import Derived.Test.YtjibjkdalajaiaaGreatDoorOK
import Derived.Test.YtjibjkdalajaiaaGreatDoorOL
set_option linter.all false
noncomputable section
namespace Go.Proofs.YtjibjkdalajaiaaGreatDoor
open Nat (succ)
open IntKind (wrap)
open Go.Am Dt
abbrev Q0:=Nat->Nat->Nat->St->Option Dt->Option Dt
abbrev Q1:=Nat->Nat->Nat->St->Option Bool->Option Bool
abbrev Q2:=Nat->Nat->Nat->St->Option Int->Option Int
abbrev Q3:=Dt->Dt->Dt->Option Dt
abbrev Q4:=Dt->Option Dt
abbrev Q5:=Dt->Bool->Option Bool
abbrev Q6:=Dt->Dt->List Dt->Option Dt
abbrev Q7:=Dt->Dt->Option Int
abbrev Q8:=Dt->Option Bool
abbrev Q9:=Dt->Int->Int->Option (Int×Int)
abbrev Q10:=Dt->List Dt->Option Dt
abbrev Q11:=ByteArray->Int->Option Bool
abbrev Q12:=Dt->Int->Int->Option (Bool×Int×Int)
abbrev Q13:=List Dt->Int->Int->Dt->Int->Int->ByteArray->List Dt->List Dt->Option Dt
abbrev Q14:=Dt->Dt->Option Bool
abbrev Q15:=List Dt->Int->Int->Option Bool
abbrev Q16:=List Dt->Option Bool
abbrev Q17:=Dt->Int->Option Int
abbrev Q18:=Bool->Int->Dt->Option Bool
abbrev Q21:=List Dt->Int->Option Bool
abbrev Q22:=Bool->List Dt->Int->Int->Dt->Dt->Option Dt
abbrev Q23:=List Dt->Int->Int->List Dt->Option Bool
abbrev Q24:=Dt->Option (Int×Int×ByteArray×List Dt×List Dt)
abbrev Q25:=List Dt->Int->Dt->Dt->Option Dt
abbrev Q26:=List Dt->Int->Option Int
abbrev Q27:=Int->Int->List Dt->List Dt->List Dt->List Dt->Dt->List Dt->Option (List Dt×List Dt×List Dt×List Dt×List Dt)
abbrev Q28:=ByteArray->Int->Int->Option Bool
abbrev Q29:=List Dt->Int->Int->Dt->List Dt->List Dt->List Dt->List Dt->Option (List Dt×List Dt×List Dt×List Dt)
abbrev Q30:=Nat->Nat->Nat->St->Option (Int×Int)->Option (Int×Int)
abbrev Q31:=Int->Dt->Dt->Option Int
abbrev Q33:=Int->Dt->Dt->Option Bool
abbrev Q34:=ByteArray->Bool->ByteArray->Int->Option ByteArray
abbrev Q35:=List Dt->Int->Int->Dt->Dt->Int->Int->ByteArray->List Dt->List Dt->Option Dt
abbrev Q38:=List Dt->List Dt->Int->Int->Dt->Option Bool
abbrev Q40:=List Dt->Int->Dt->Dt->Int->Int->ByteArray->List Dt->List Dt->Option Dt
abbrev Q42:=Nat->Nat->Nat->St->Option (List Dt)->Option (List Dt)
abbrev Q43:=List Dt->Option (List Dt)
abbrev Q44:=ByteArray->Int->Int->Int->Option Bool
abbrev Q45:=Int->Int->Int->Dt->Option (Int×Int)
abbrev Q47:=Int->Bool->Bool->List Dt->Int->Int->Dt->Option Dt
abbrev Q50:=Nat->Nat->Nat->St->Option (Bool×Dt)->Option (Bool×Dt)
abbrev Q51:=Nat->Nat->Nat->St->Option (Int×List Dt×List Dt×List Dt×List Dt)->Option (Int×List Dt×List Dt×List Dt×List Dt)
abbrev Q52:=Nat->Nat->Nat->St->Option (Bool×Int×Int)->Option (Bool×Int×Int)
abbrev Q56:=List Dt->Int->Int->Dt->Dt->Int->Int->ByteArray->List Dt->Option Dt
abbrev Q58:=Int->List Dt->Int->Int->List Dt->List Dt->List Dt->List Dt->List Dt->Option (Int×List Dt×List Dt×List Dt×List Dt)
abbrev Q59:=Int->Int->Int->List Dt->Int->Int->List Dt->List Dt->List Dt->List Dt->Dt->List Dt->List Dt->Option (List Dt×List Dt×List Dt×List Dt×List Dt)
abbrev Q63:=List Dt->List Dt->Int->Int->Dt->Int->Int->ByteArray->List Dt->List Dt->Option Dt
abbrev Q65:=Int->Int->Int->Dt->Dt->Int->Int->ByteArray->List Dt->List Dt->Option Dt
abbrev Q73:=List Dt->Int->Dt->Dt->Dt->Dt->Int->Int->ByteArray->List Dt->List Dt->Option Dt
abbrev Q79:=Dt->List Dt->Int->Int->Dt->Dt->Dt->Int->Int->ByteArray->List Dt->List Dt->Option Dt
abbrev Q80:=Int->List Dt->Int->Int->Int->Option (Int×Int)
abbrev Q81:=Int->List Dt->Int->Int->List Dt->Int->Int->Dt->List Dt->List Dt->List Dt->List Dt->Dt->Option (List Dt×List Dt×List Dt×List Dt)
abbrev Q83:=Nat->Nat->Nat->St->Option (Int×Dt)->Option (Int×Dt)
abbrev Q84:=Nat->Nat->Nat->St->Option (Int×Bool×List Dt×List Dt×List Dt×List Dt)->Option (Int×Bool×List Dt×List Dt×List Dt×List Dt)
abbrev Q85:=Nat->Nat->Nat->St->Option (List Dt×List Dt×List Dt×List Dt×List Dt)->Option (List Dt×List Dt×List Dt×List Dt×List Dt)
abbrev Q86:=Nat->Nat->Nat->St->Option ByteArray->Option ByteArray
abbrev Q87:=Nat->Nat->Nat->St->Option (Dt×Bool)->Option (Dt×Bool)
abbrev Q88:=Nat->Nat->Nat->St->Option (Int×Int×ByteArray×List Dt×List Dt)->Option (Int×Int×ByteArray×List Dt×List Dt)
abbrev Q89:=Nat->Nat->Nat->St->Option (List Dt×List Dt×List Dt×List Dt)->Option (List Dt×List Dt×List Dt×List Dt)
def aj:Dt:=
 agg [int 0,int 0,str (ByteArray.mk (List.toArray [])),lst [],lst []]
def DN:Dt:=
 agg [str (ByteArray.mk (List.toArray [])),agg [int 0,int 0,str (ByteArray.mk (List.toArray [])),lst [],lst []]]
def nC:Dt:=
 agg [int 2,int 0,str (ByteArray.mk (List.toArray [])),lst [],lst []]
def ad6:Dt:=
 agg [int 0,int 0,int 0,agg [int 0,int 0,str (ByteArray.mk (List.toArray [])),lst [],lst []],lst [],lst []]
def M5:Dt:=
 agg [int 9,int 0,str (ByteArray.mk (List.toArray [])),lst [],lst []]
def M6:Dt:=
 agg [int 9,int 1,str (ByteArray.mk (List.toArray [])),lst [],lst []]
def M8:Dt:=
 agg [int 5,int 0,str (ByteArray.mk (List.toArray [])),lst [],lst []]
def i12:Nat->Dt->Dt->Option (Bool×Dt)
 |0,_,_=>none
 |m+1,b,a=>some ((S a 0).toList==(S b 0).toList,a)
def abE(m:Nat):Nat->List Dt->Int->Int->Dt->Option (Int×Dt)
 |0,_,_,_,_=>none
 |f+1,c,d,a,e=>cond (a<d) ((idx c a).bind fun g=>(i12 m g e).bind fun b=>cond b.1 (some (a,b.2)) (abE m f c d (wrap .i64 (a+1)) b.2)) (some ((-1),e))
def i11:Nat->List Dt->Dt->Option (Int×Dt)
 |0,_,_=>none
 |m+1,a,b=>abE m (succ m) a (a.length:Int) 0 b
def i10:Nat->List Dt->Dt->Option (Bool×Dt)
 |0,_,_=>none
 |m+1,b,c=>(i11 m b c).bind fun a=>some (decide (0<=a.1),a.2)
def qX:Nat->Dt->Option Dt
 |0,_=>none
 |m+1,a=>some (agg [int (I a 1),int 0,int 0,aj,lst [],lst []])
def jP(m:Nat)(a:Q4):Nat->List Dt->Int->Int->Dt->Int->Int->ByteArray->List Dt->List Dt->Option Dt
 |0,_,_,_,_,_,_,_,_,_=>none
 |k+1,c,d,b,l,e,f,g,h,i=>cond (b<d) ((idx c b).bind fun j=>(a (fld j 1)).bind fun n=>(app i [agg [str (S j 0),n]]).bind fun o=>jP m a k c d (wrap .i64 (b+1)) l e f g h o) (some (agg [int e,int f,str g,lst h,lst i]))
def wu(m:Nat)(a:Q4)(b c:Dt)(d e:Int)(f:ByteArray)(g h:List Dt):Option Dt:=
 jP m a (succ m) (L b 4) ((L b 4).length:Int) 0 c d e f g h
def gY(m:Nat)(a:Q4):Nat->List Dt->Int->Int->Dt->Dt->Int->Int->ByteArray->List Dt->List Dt->Option Dt
 |0,_,_,_,_,_,_,_,_,_,_=>none
 |l+1,c,d,b,e,f,g,h,i,j,k=>cond (b<d) ((idx c b).bind fun n=>(a n).bind fun o=>(app j [o]).bind fun p=>gY m a l c d (wrap .i64 (b+1)) e f g h i p k) (wu m a e f g h i j k)
def bS:Nat->Dt->Option Dt
 |0,_=>none
 |m+1,a=>gY m (bS m) (succ m) (L a 3) ((L a 3).length:Int) 0 a aj (I a 0) (I a 1) (S a 2) [] []
def dJ:Nat->Int->Int->Option Int
 |0,_,_=>none
 |m+1,a,b=>cond (a<b) (some (-1)) (cond (b<a) (some 1) (some 0))
def oM(m:Nat):Nat->ByteArray->ByteArray->Int->Option Int
 |0,_,_,_=>none
 |e+1,b,c,a=>cond (a<(b.size:Int)) (bif a<(c.size:Int)then(idxS b a).bind fun f=>(idxS c a).bind fun g=>cond (f !=g) ((idxS b a).bind fun h=>(idxS c a).bind fun i=>(dJ m (wrap .i64 h) (wrap .i64 i)).bind fun j=>some j) (oM m e b c (wrap .i64 (a+1)))else(dJ m (b.size:Int) (c.size:Int)).bind fun d=>some d) ((dJ m (b.size:Int) (c.size:Int)).bind fun d=>some d)
def jv:Nat->ByteArray->ByteArray->Option Int
 |0,_,_=>none
 |m+1,a,b=>oM m (succ m) a b 0
def lQ(m:Nat)(a:Q7)(b c:Dt):Option Int:=
 (dJ m ((L b 3).length:Int) ((L c 3).length:Int)).bind fun d=>some d
def lS(m:Nat)(a:Q7):Nat->Int->Dt->Dt->Option Int
 |0,_,_,_=>none
 |f+1,b,c,d=>cond (b<((L c 3).length:Int)) (bif b<((L d 3).length:Int)then(idx (L c 3) b).bind fun g=>(idx (L d 3) b).bind fun h=>(a g h).bind fun e=>cond (e !=0) (some e) (lS m a f (wrap .i64 (b+1)) c d)else lQ m a c d) (lQ m a c d)
def tu(m:Nat)(a:Q7)(b:Int)(c d:Dt):Option Int:=
 lS m a (succ m) b c d
def oC(m:Nat)(b:Q7)(a:Q31)(d c:Int)(e f:Dt):Option Int:=
 cond (c !=0) (some c) (a (wrap .i64 (d+1)) e f)
def kI(m:Nat)(a:Q7)(c d:Dt):Option Int:=
 (dJ m ((L c 4).length:Int) ((L d 4).length:Int)).bind fun b=>some b
def gZ(m:Nat)(a:Q7):Nat->Int->Dt->Dt->Option Int
 |0,_,_,_=>none
 |h+1,b,c,d=>cond (b<((L c 4).length:Int)) (bif b<((L d 4).length:Int)then(idx (L c 4) b).bind fun j=>(idx (L d 4) b).bind fun k=>(jv m (S j 0) (S k 0)).bind fun i=>cond (i==0) ((idx (L c 4) b).bind fun e=>(idx (L d 4) b).bind fun f=>(a (fld e 1) (fld f 1)).bind fun g=>oC m a (gZ m a h) b g c d) (oC m a (gZ m a h) b i c d)else kI m a c d) (kI m a c d)
def tC(m:Nat)(a:Q7)(b:Int)(c d:Dt):Option Int:=
 gZ m a (succ m) b c d
def xV(m:Nat)(a:Q7):Option Int:=
 some 0
def lT(m:Nat)(a:Q7)(d:Int)(e:Bool)(b c:Dt):Option Int:=
 cond e ((jv m (S b 2) (S c 2)).bind fun f=>some f) (cond (d==6) (tu m a 0 b c) (cond (d==5) (tC m a 0 b c) (xV m a)))
def lU(m:Nat)(a:Q7)(b:Int)(e:Bool)(c d:Dt):Option Int:=
 cond e ((dJ m (I c 1) (I d 1)).bind fun f=>some f) (cond (b==4) (lT m a b (b==4) c d) (cond (b==7) (lT m a b (b==7) c d) (lT m a b (b==8) c d)))
def pR(m:Nat)(a:Q7)(b c:Dt):Option Int:=
 cond (I b 0==3) (lU m a (I b 0) (I b 0==3) b c) (cond (I b 0==9) (lU m a (I b 0) (I b 0==9) b c) (lU m a (I b 0) (I b 0==10) b c))
def bB:Nat->Dt->Dt->Option Int
 |0,_,_=>none
 |m+1,a,b=>cond (I a 0 !=I b 0) ((dJ m (I a 0) (I b 0)).bind fun c=>some c) (pR m (bB m) a b)
def yP(m:Nat):Nat->List Dt->List Dt->Int->Option Bool
 |0,_,_,_=>none
 |d+1,b,c,a=>bif a<(b.length:Int)then(idx b a).bind fun e=>(idx c a).bind fun f=>cond (!(toStr e).toList==(toStr f).toList) (some false) (yP m d b c (wrap .i64 (a+1)))else some true
def wz:Nat->List Dt->List Dt->Option Bool
 |0,_,_=>none
 |m+1,a,b=>cond ((a.length:Int) !=(b.length:Int)) (some false) (yP m (succ m) a b 0)
def yQ(m:Nat)(b:Q4)(a:Q56)(c:List Dt)(d e:Int)(f g:Dt)(h i:Int)(j:ByteArray)(k:List Dt):Option Dt:=
 a c d (wrap .i64 (e+1)) f g h i j k
def yR(m:Nat)(a:Q4)(b:Q56)(e:List Dt)(f c:Int)(g h:Dt)(i j:Int)(k:ByteArray)(d:List Dt):Option Dt:=
 (idx e c).bind fun l=>(a l).bind fun n=>(inL d c).bind fun o=>(d[c.toNat]?).bind fun p=>yQ m a b e f c g h i j k (List.set d c.toNat n)
def yS(m:Nat)(b:Q4)(a:Q13)(c:List Dt)(d e:Int)(f:Dt)(g h:Int)(i:ByteArray)(j k:List Dt):Option Dt:=
 a c d (wrap .i64 (e+1)) f g h i j k
def yT(m:Nat)(a:Q4)(b:Q13)(e:List Dt)(g c:Int)(h:Dt)(i j:Int)(k:ByteArray)(l d:List Dt):Option Dt:=
 (idx e c).bind fun f=>(a (fld f 1)).bind fun n=>(inL d c).bind fun o=>(d[c.toNat]?).bind fun p=>yS m a b e g c h i j k l (List.set d c.toNat (agg [str (S f 0),n]))
def yU(m:Nat)(a:Q4)(g:Dt)(b c:Int)(d:ByteArray)(e f:List Dt):Option Dt:=
 some (agg [int b,int c,str d,lst e,lst f])
def nZ(m:Nat)(a:Q4):Nat->List Dt->Int->Int->Dt->Int->Int->ByteArray->List Dt->List Dt->Option Dt
 |0,_,_,_,_,_,_,_,_,_=>none
 |j+1,k,b,c,d,e,f,g,h,i=>cond (c<b) (yT m a (nZ m a j) k b c d e f g h i) (yU m a d e f g h i)
def Cy(m:Nat)(a:Q4)(f:Dt)(b c:Int)(d:ByteArray)(e:List Dt):Option Dt:=
 some (agg [int b,int c,str d,lst e,lst []])
def yV(m:Nat)(a:Q4)(b c:Dt)(d e:Int)(f:ByteArray)(g:List Dt):Option Dt:=
 cond (0<((L b 4).length:Int)) ((mkL ((L b 4).length:Int) ((L b 4).length:Int) DN).bind fun h=>nZ m a (succ m) (L b 4) ((L b 4).length:Int) 0 c d e f g h) (Cy m a c d e f g)
def lC(m:Nat)(a:Q4):Nat->List Dt->Int->Int->Dt->Dt->Int->Int->ByteArray->List Dt->Option Dt
 |0,_,_,_,_,_,_,_,_,_=>none
 |j+1,k,b,c,d,e,f,g,h,i=>cond (c<b) (yR m a (lC m a j) k b c d e f g h i) (yV m a d e f g h i)
def wB(m:Nat)(b:Q4)(a:Q13)(c:List Dt)(d e:Int)(f:Dt)(g h:Int)(i:ByteArray)(j k:List Dt):Option Dt:=
 a c d (wrap .i64 (e+1)) f g h i j k
def wC(m:Nat)(a:Q4)(b:Q13)(g:List Dt)(h c:Int)(i:Dt)(j k:Int)(l:ByteArray)(n e:List Dt):Option Dt:=
 (idx g c).bind fun d=>(a (fld d 1)).bind fun f=>(inL e c).bind fun o=>(e[c.toNat]?).bind fun p=>wB m a b g h c i j k l n (List.set e c.toNat (agg [str (S d 0),f]))
def wD(m:Nat)(a:Q4)(g:Dt)(b c:Int)(d:ByteArray)(e f:List Dt):Option Dt:=
 some (agg [int b,int c,str d,lst e,lst f])
def lV(m:Nat)(a:Q4):Nat->List Dt->Int->Int->Dt->Int->Int->ByteArray->List Dt->List Dt->Option Dt
 |0,_,_,_,_,_,_,_,_,_=>none
 |b+1,k,c,d,e,f,g,h,i,j=>cond (d<c) (wC m a (lV m a b) k c d e f g h i j) (wD m a e f g h i j)
def Cz(m:Nat)(a:Q4)(c b:Dt):Option Dt:=
 some b
def CB(m:Nat)(a:Q4)(b e c:Dt):Option Dt:=
 cond (0<((L b 4).length:Int)) ((mkL ((L b 4).length:Int) ((L b 4).length:Int) DN).bind fun d=>lV m a (succ m) (L b 4) ((L b 4).length:Int) 0 e (I c 0) (I c 1) (S c 2) (L c 3) d) (Cz m a e c)
def bK:Nat->Dt->Option Dt
 |0,_=>none
 |m+1,a=>cond (0<((L a 3).length:Int)) ((mkL ((L a 3).length:Int) ((L a 3).length:Int) aj).bind fun b=>lC m (bK m) (succ m) (L a 3) ((L a 3).length:Int) 0 a aj (I a 0) (I a 1) (S a 2) b) (CB m (bK m) a aj (agg [int (I a 0),int (I a 1),str (S a 2),lst [],lst []]))
def jh:Nat->Dt->Dt->Dt->Dt->Option Dt
 |0,_,_,_,_=>none
 |m+1,b,c,a,d=>some (agg [int (I a 0),int (I a 1),int (wrap .i64 (I a 2+1)),fld a 3,lst (L a 4),lst (L a 5)])
def qM(m:Nat)(a:Q4)(b:Q43):Nat->List Dt->Int->Int->Dt->Int->Int->ByteArray->List Dt->List Dt->Option Dt
 |0,_,_,_,_,_,_,_,_,_=>none
 |l+1,d,e,c,n,f,g,h,i,j=>cond (c<e) ((idx d c).bind fun k=>(a (fld k 1)).bind fun o=>(app j [agg [str (S k 0),o]]).bind fun p=>qM m a b l d e (wrap .i64 (c+1)) n f g h i p) (some (agg [int f,int g,str h,lst i,lst j]))
def rR(m:Nat)(a:Q4):Nat->List Dt->Int->Int->List Dt->Option (List Dt)
 |0,_,_,_,_=>none
 |f+1,d,e,b,c=>cond (b<e) ((idx d b).bind fun g=>(a g).bind fun h=>(inL c b).bind fun i=>(c[b.toNat]?).bind fun j=>rR m a f d e (wrap .i64 (b+1)) (List.set c b.toNat h)) (some c)
mutual
def dF:Nat->Dt->Option Dt
 |0,_=>none
 |m+1,a=>(eF m (L a 3)).bind fun b=>qM m (dF m) (eF m) (succ m) (L a 4) ((L a 4).length:Int) 0 aj (I a 0) (I a 1) (S a 2) b []
def eF:Nat->List Dt->Option (List Dt)
 |0,_=>none
 |m+1,a=>bif (a.length:Int)==0 then some []else(mkL (a.length:Int) (a.length:Int) aj).bind fun b=>rR m (dF m) (succ m) a (a.length:Int) 0 b
end
def oN:Nat->Dt->Option Dt
 |0,_=>none
 |m+1,a=>(dF m (fld a 3)).bind fun b=>(eF m (L a 4)).bind fun c=>(eF m (L a 5)).bind fun d=>some (agg [int (I a 0),int (I a 1),int (I a 2),b,lst c,lst d])
def vP:Nat->Dt->Dt->Dt->Option Dt
 |0,_,_,_=>none
 |m+1,a,b,c=>(oN m b).bind fun d=>cond (I a 1==2) ((jh m (agg []) a d c).bind fun e=>some e) none
def iE(m:Nat)(a:Q11)(b:ByteArray)(c:Int)(d:Bool):Option Bool:=
 cond d (some false) (a b (wrap .i64 (c+1)))
def iF(m:Nat):Nat->ByteArray->Int->Option Bool
 |0,_,_=>none
 |c+1,a,b=>bif b<(a.size:Int)then(idxS a b).bind fun d=>cond (d<33) (iE m (iF m c) a b true) ((idxS a b).bind fun e=>cond (126<e) (iE m (iF m c) a b true) ((idxS a b).bind fun f=>iE m (iF m c) a b (f==46)))else some true
def iG(m:Nat)(a:ByteArray)(b:Bool):Option Bool:=
 cond b (some false) (iF m (succ m) a 0)
def ig:Nat->ByteArray->Option Bool
 |0,_=>none
 |m+1,a=>cond ((a.size:Int)<1) (iG m a true) (cond (32<(a.size:Int)) (iG m a true) ((idxS a 0).bind fun b=>iG m a (b==36)))
def lW(m:Nat):Nat->List Dt->Int->Option Bool
 |0,_,_=>none
 |c+1,a,b=>bif b<(a.length:Int)then(idx a b).bind fun d=>(ig m (toStr d)).bind fun e=>cond (!e) (some false) (lW m c a (wrap .i64 (b+1)))else some true
def lX(m:Nat)(a:List Dt)(b:Bool):Option Bool:=
 cond b (some false) (lW m (succ m) a 0)
def fZ:Nat->List Dt->Option Bool
 |0,_=>none
 |m+1,a=>cond ((a.length:Int)<1) (lX m a true) (lX m a (decide (16<(a.length:Int))))
def wE(m:Nat)(a:Q26):Nat->List Dt->Int->Int->Option Int
 |0,_,_,_=>none
 |e+1,b,c,d=>cond (d<c) ((idx b c).bind fun f=>(idx b d).bind fun g=>(wz m (L f 0) (L g 0)).bind fun h=>cond h (some 12) (wE m a e b c (wrap .i64 (d+1)))) (a b (wrap .i64 (c+1)))
def rT(m:Nat):Nat->List Dt->Int->Option Int
 |0,_,_=>none
 |c+1,a,b=>bif b<(a.length:Int)then(idx a b).bind fun d=>(fZ m (L d 0)).bind fun e=>cond (!e) (some 10) (wE m (rT m c) (succ m) a b 0)else some 0
def uR:Nat->List Dt->Option Int
 |0,_=>none
 |m+1,a=>cond (8<(a.length:Int)) (some 2) (rT m (succ m) a 0)
def cB:Nat->Option Dt
 |0=>none
 |m+1=>some nC
def qY:Nat->Int->Option Bool
 |0,_=>none
 |m+1,a=>some (a !=a)
def eG:Nat->Int->Int->Option Int
 |0,_,_=>none
 |m+1,a,b=>(qY m a).bind fun d=>(qY m b).bind fun c=>cond d (cond c (some 0) (some (-1))) (cond c (some 1) (cond (a<b) (some (-1)) (cond (b<a) (some 1) (some 0))))
def lY(m:Nat)(a:Q7):Nat->Int->Int->Dt->Dt->Option Int
 |0,_,_,_,_=>none
 |g+1,e,b,c,d=>bif b<e then(idx (L c 3) b).bind fun h=>(idx (L d 3) b).bind fun i=>(a h i).bind fun f=>cond (f !=0) (some f) (lY m a g e (wrap .i64 (b+1)) c d)else(eG m ((L c 3).length:Int) ((L d 3).length:Int)).bind fun j=>some j
def tF(m:Nat)(a:Q7)(b c:Int)(d e:Dt):Option Int:=
 lY m a (succ m) b c d e
def lZ(m:Nat)(a:Q7):Nat->Int->Int->Dt->Dt->Option Int
 |0,_,_,_,_=>none
 |k+1,i,b,d,e=>bif b<i then(idx (L d 4) b).bind fun l=>(idx (L e 4) b).bind fun n=>(strings_Compare (S l 0) (S n 0)).bind fun j=>cond (j !=0) (some j) ((idx (L d 4) b).bind fun f=>(idx (L e 4) b).bind fun g=>(a (fld f 1) (fld g 1)).bind fun c=>cond (c !=0) (some c) (lZ m a k i (wrap .i64 (b+1)) d e))else(eG m ((L d 4).length:Int) ((L e 4).length:Int)).bind fun h=>some h
def tH(m:Nat)(a:Q7)(b c:Int)(d e:Dt):Option Int:=
 lZ m a (succ m) b c d e
def xW(m:Nat)(a:Q7):Option Int:=
 some 0
def l5(m:Nat)(a:Q7)(d:Int)(e:Bool)(b c:Dt):Option Int:=
 cond e ((strings_Compare (S b 2) (S c 2)).bind fun f=>some f) (cond (d==6) (tF m a (cond (((L c 3).length:Int)<((L b 3).length:Int)) ((L c 3).length:Int) ((L b 3).length:Int)) 0 b c) (cond (d==5) (tH m a (cond (((L c 4).length:Int)<((L b 4).length:Int)) ((L c 4).length:Int) ((L b 4).length:Int)) 0 b c) (xW m a)))
def l7(m:Nat)(a:Q7)(b:Int)(e:Bool)(c d:Dt):Option Int:=
 cond e ((eG m (I c 1) (I d 1)).bind fun f=>some f) (cond (b==4) (l5 m a b (b==4) c d) (cond (b==7) (l5 m a b (b==7) c d) (l5 m a b (b==8) c d)))
def pU(m:Nat)(a:Q7)(b c:Dt):Option Int:=
 cond (I b 0==3) (l7 m a (I b 0) (I b 0==3) b c) (cond (I b 0==9) (l7 m a (I b 0) (I b 0==9) b c) (l7 m a (I b 0) (I b 0==10) b c))
def bg:Nat->Dt->Dt->Option Int
 |0,_,_=>none
 |m+1,a,b=>cond (I a 0 !=I b 0) ((eG m (I a 0) (I b 0)).bind fun c=>some c) (pU m (bg m) a b)
def i19:Nat->Int->Dt->List Dt->List Dt->List Dt->List Dt->Option (Int×List Dt×List Dt×List Dt×List Dt)
 |0,_,_,_,_,_,_=>none
 |m+1,b,c,a,d,e,f=>(inL a b).bind fun i=>(a[b.toNat]?).bind fun g=>(bg m g c).bind fun h=>some (h,a,d,e,f)
def Jt(m:Nat):Nat->Int->Int->Int->List Dt->List Dt->List Dt->List Dt->Dt->Option (Int×Bool×List Dt×List Dt×List Dt×List Dt)
 |0,_,_,_,_,_,_,_,_=>none
 |k+1,g,a,d,c,h,i,j,f=>cond (a<d) ((inL c (wrap .i64 (shrI IntKind.u64 (wrap IntKind.u64 (wrap .i64 (a+d))) 1))).bind fun o=>(c[(wrap .i64 (shrI IntKind.u64 (wrap IntKind.u64 (wrap .i64 (a+d))) 1)).toNat]?).bind fun l=>(i19 m (toInt l) f h i j c).bind fun b=>cond (b.1<0) (Jt m k g (wrap .i64 (wrap .i64 (shrI IntKind.u64 (wrap IntKind.u64 (wrap .i64 (a+d))) 1)+1)) d b.2.2.2.2 b.2.1 b.2.2.1 b.2.2.2.1 f) (Jt m k g a (wrap .i64 (shrI IntKind.u64 (wrap IntKind.u64 (wrap .i64 (a+d))) 1)) b.2.2.2.2 b.2.1 b.2.2.1 b.2.2.2.1 f)) (cond (a<g) ((inL c a).bind fun p=>(c[a.toNat]?).bind fun n=>(i19 m (toInt n) f h i j c).bind fun e=>some (a,e.1==0,e.2.2.2.2,e.2.1,e.2.2.1,e.2.2.2.1)) (some (a,false,c,h,i,j)))
def i18:Nat->Dt->List Dt->List Dt->List Dt->List Dt->Option (Int×Bool×List Dt×List Dt×List Dt×List Dt)
 |0,_,_,_,_,_=>none
 |m+1,b,a,c,d,e=>Jt m (succ m) (a.length:Int) 0 (a.length:Int) a c d e b
def aiL(m:Nat)(a:Q58)(b:Int)(c:List Dt)(d e:Int)(f g h i j:List Dt):Option (Int×List Dt×List Dt×List Dt×List Dt):=
 a b c d (wrap .i64 (e+1)) f g h i j
def abF(m:Nat)(a:Q58)(e:Int)(d:List Dt)(f b:Int)(g h i j c:List Dt):Option (Int×List Dt×List Dt×List Dt×List Dt):=
 (idx d b).bind fun k=>(qX m k).bind fun l=>(inL c b).bind fun n=>(c[b.toNat]?).bind fun o=>aiL m a e d f b g h i j (List.set c b.toNat l)
def abG(m:Nat)(b:Int)(a c d e f:List Dt):Option (Int×List Dt×List Dt×List Dt×List Dt):=
 cond (Bool.and true (Bool.and true (Bool.and true (Bool.and true (Bool.and true (Bool.and true (Bool.and true (Nat.ble (a.length+1) 137438953472)))))))) (some (b,d,a++[bool true],List.set (c++[lst []]) a.length (lst f),e)) none
def CG(m:Nat):Nat->Int->List Dt->Int->Int->List Dt->List Dt->List Dt->List Dt->List Dt->Option (Int×List Dt×List Dt×List Dt×List Dt)
 |0,_,_,_,_,_,_,_,_,_=>none
 |i+1,a,j,b,c,d,e,f,g,h=>cond (c<b) (abF m (CG m i) a j b c d e f g h) (abG m a d e f g h)
def VW(m:Nat)(b:Int)(c d e f:List Dt)(a:Dt):Option (Int×List Dt×List Dt×List Dt×List Dt):=
 (mkL ((L a 1).length:Int) ((L a 1).length:Int) ad6).bind fun g=>CG m (succ m) b (L a 1) ((L a 1).length:Int) 0 c d e f g
def abH(m:Nat)(h:Int)(a c d i:List Dt)(e f:Dt):Option (Int×List Dt×List Dt×List Dt×List Dt):=
 (lu h i [int (a.length:Int)]).bind fun g=>same ((app a [f]).bind fun j=>VW m (a.length:Int) c d j g e) ((app a [aj]).bind fun b=>(inL b (a.length:Int)).bind fun k=>(b[(a.length:Int).toNat]?).bind fun l=>VW m (a.length:Int) c d (List.set b (a.length:Int).toNat f) g e)
def i17:Nat->Dt->Dt->List Dt->List Dt->List Dt->List Dt->Option (Int×List Dt×List Dt×List Dt×List Dt)
 |0,_,_,_,_,_,_=>none
 |m+1,c,b,d,e,f,g=>(i18 m b g d e f).bind fun a=>cond a.2.1 ((inL a.2.2.1 a.1).bind fun i=>(a.2.2.1[(a.1).toNat]?).bind fun h=>some (toInt h,a.2.2.2.1,a.2.2.2.2.1,a.2.2.2.2.2,a.2.2.1)) (abH m a.1 a.2.2.2.1 a.2.2.2.2.1 a.2.2.2.2.2 a.2.2.1 c b)
def qw:Nat->Int->Option Dt
 |0,_=>none
 |m+1,a=>some (agg [int 3,int a,str (ByteArray.mk (List.toArray [])),lst [],lst []])
def gH:Nat->Dt->Dt->Option Dt
 |0,_,_=>none
 |m+1,c,a=>(qw m (I a 2)).bind fun b=>some b
def pV:Nat->Dt->Dt->Option Dt
 |0,_,_=>none
 |m+1,a,b=>cond (I a 1==2) ((gH m (agg []) b).bind fun c=>(dF m c).bind fun d=>some d) none
def aiM(m:Nat)(e:Q27)(a:Q59)(f g h:Int)(i:List Dt)(j k:Int)(l n o p:List Dt)(b:Dt)(c d:List Dt):Option (List Dt×List Dt×List Dt×List Dt×List Dt):=
 a f g h i j (wrap .i64 (k+1)) l n o p b c d
def abI(m:Nat)(b:Q27)(c:Q59)(a q r:Int)(n:List Dt)(s d:Int)(t e o u:List Dt)(f:Dt)(g h:List Dt):Option (List Dt×List Dt×List Dt×List Dt×List Dt):=
 (idx n d).bind fun p=>(e[a.toNat]?).bind fun v=>cond (lkd Option.none v) ((o[a.toNat]?).bind fun i=>(inL e a).bind fun x=>cond (Nat.beq a.toNat a.toNat) ((e[a.toNat]?).bind fun w=>cond (lkd Option.none w) ((inL (toLst i) d).bind fun y=>((toLst i)[d.toNat]?).bind fun j=>(pV m p j).bind fun k=>(app h [agg [str (S p 0),k]]).bind fun l=>aiM m b c a q r n s d t e (List.set (List.set o a.toNat (lst [])) a.toNat (lst (toLst i))) u f g l) none) none) none
def abJ(m:Nat)(a:Q27)(b c:Int)(d e f g:List Dt)(h:Dt)(i:List Dt):Option (List Dt×List Dt×List Dt×List Dt×List Dt):=
 a b (wrap .i64 (c+1)) d e f g h i
def abK(m:Nat)(a:Q27)(b d e:Int)(f g h i:List Dt)(j:Dt)(c k:List Dt):Option (List Dt×List Dt×List Dt×List Dt×List Dt):=
 (inL c b).bind fun l=>(c[b.toNat]?).bind fun n=>abJ m a d e f g h i j (List.set c b.toNat (agg [int 5,int 0,str (ByteArray.mk (List.toArray [])),lst [],lst k]))
def CJ(m:Nat)(a:Q27):Nat->Int->Int->Int->List Dt->Int->Int->List Dt->List Dt->List Dt->List Dt->Dt->List Dt->List Dt->Option (List Dt×List Dt×List Dt×List Dt×List Dt)
 |0,_,_,_,_,_,_,_,_,_,_,_,_,_=>none
 |o+1,e,f,g,p,h,i,j,k,l,n,b,c,d=>cond (i<h) (abI m a (CJ m a o) e f g p h i j k l n b c d) (abK m a e f g j k l n b c d)
def aiN(m:Nat)(a:Q27)(e f g:Int)(h:List Dt)(i j:Int)(k l n o:List Dt)(b:Dt)(c d:List Dt):Option (List Dt×List Dt×List Dt×List Dt×List Dt):=
 CJ m a (succ m) e f g h i j k l n o b c d
def abL(m:Nat)(a:Q27)(e b:Int)(c f g h:List Dt)(d:Dt)(i:List Dt):Option (List Dt×List Dt×List Dt×List Dt×List Dt):=
 (inL c b).bind fun l=>(c[b.toNat]?).bind fun j=>(bS m j).bind fun k=>aiN m a b e b (L d 1) ((L d 1).length:Int) 0 c f g h d i [agg [str (ByteArray.mk (List.toArray [95,105,100])),k]]
def abM(m:Nat)(a b c d e:List Dt):Option (List Dt×List Dt×List Dt×List Dt×List Dt):=
 some (a,b,c,d,e)
def Ju(m:Nat):Nat->Int->Int->List Dt->List Dt->List Dt->List Dt->Dt->List Dt->Option (List Dt×List Dt×List Dt×List Dt×List Dt)
 |0,_,_,_,_,_,_,_,_=>none
 |h+1,a,b,c,d,e,f,i,g=>cond (b<a) (abL m (Ju m h) a b c d e f i g) (abM m g c d e f)
def i24:Nat->Dt->List Dt->List Dt->List Dt->List Dt->Option (List Dt×List Dt×List Dt×List Dt×List Dt)
 |0,_,_,_,_,_=>none
 |m+1,b,a,c,d,e=>(mkL (a.length:Int) (a.length:Int) aj).bind fun f=>Ju m (succ m) (a.length:Int) 0 a c d e b f
def bZ:Nat->Option Dt
 |0=>none
 |m+1=>some nC
def l9(m:Nat)(b:Q14)(a:Q33)(c:Int)(d:Bool)(e f:Dt):Option Bool:=
 cond d (some false) (a (wrap .i64 (c+1)) e f)
def og(m:Nat)(a:Q14):Nat->Int->Dt->Dt->Option Bool
 |0,_,_,_=>none
 |e+1,b,c,d=>bif b<((L c 4).length:Int)then(idx (L c 4) b).bind fun f=>(idx (L d 4) b).bind fun g=>cond (!(S f 0).toList==(S g 0).toList) (l9 m a (og m a e) b true c d) ((idx (L c 4) b).bind fun h=>(idx (L d 4) b).bind fun i=>(a (fld h 1) (fld i 1)).bind fun j=>l9 m a (og m a e) b (!j) c d)else some true
def tZ(m:Nat)(a:Q14):Nat->Int->Dt->Dt->Option Bool
 |0,_,_,_=>none
 |e+1,b,c,d=>bif b<((L c 3).length:Int)then(idx (L c 3) b).bind fun f=>(idx (L d 3) b).bind fun g=>(a f g).bind fun h=>cond (!h) (some false) (tZ m a e (wrap .i64 (b+1)) c d)else og m a (succ m) 0 c d
def dR(m:Nat)(a:Q14)(b:Bool)(c d:Dt):Option Bool:=
 cond b (some false) (tZ m a (succ m) 0 c d)
def bD:Nat->Dt->Dt->Option Bool
 |0,_,_=>none
 |m+1,a,b=>cond (I a 0 !=I b 0) (dR m (bD m) true a b) (cond (I a 1 !=I b 1) (dR m (bD m) true a b) (cond (!(S a 2).toList==(S b 2).toList) (dR m (bD m) true a b) (cond (((L a 3).length:Int) !=((L b 3).length:Int)) (dR m (bD m) true a b) (dR m (bD m) (((L a 4).length:Int) !=((L b 4).length:Int)) a b))))
def oO(m:Nat)(a:Q21):Nat->List Dt->Int->Int->Option Bool
 |0,_,_,_=>none
 |e+1,b,c,d=>cond (d<c) ((idx b d).bind fun f=>(idx b c).bind fun g=>cond ((toStr f).toList==(toStr g).toList) (some false) (oO m a e b c (wrap .i64 (d+1)))) (a b (wrap .i64 (c+1)))
def jQ(m:Nat):Nat->List Dt->Int->Option Bool
 |0,_,_=>none
 |c+1,a,b=>bif b<(a.length:Int)then(idx a b).bind fun d=>(ig m (toStr d)).bind fun e=>cond (!e) (some false) (oO m (jQ m c) (succ m) a b 0)else some true
def mV:Nat->List Dt->Option Bool
 |0,_=>none
 |m+1,a=>jQ m (succ m) a 0
def gD(m:Nat)(a:Bool):Option Int:=
 cond a (some (-1)) (some 2)
def yX(m:Nat)(a:Int)(b:Bool):Option Int:=
 cond b (some 3) (cond (a==4) (gD m (a==4)) (cond (a==6) (gD m (a==6)) (cond (a==16) (gD m (a==16)) (cond (a==17) (gD m (a==17)) (cond (a==21) (gD m (a==21)) (cond (a==29) (gD m (a==29)) (cond (a==37) (gD m (a==37)) (cond (a==35) (gD m (a==35)) (gD m (a==34))))))))))
def iH(m:Nat)(a:Int)(b:Bool):Option Int:=
 cond b (some 1) (cond (a==19) (yX m a (a==19)) (yX m a (a==25)))
def uf(m:Nat)(a:Int)(b:Bool):Option Int:=
 cond b (some 0) (cond (a==18) (iH m a (a==18)) (cond (a==22) (iH m a (a==22)) (cond (a==23) (iH m a (a==23)) (cond (a==24) (iH m a (a==24)) (cond (a==26) (iH m a (a==26)) (cond (a==30) (iH m a (a==30)) (cond (a==31) (iH m a (a==31)) (iH m a (a==36)))))))))
def oP:Nat->Int->Option Int
 |0,_=>none
 |m+1,a=>cond (a==1) (uf m a (a==1)) (cond (a==2) (uf m a (a==2)) (uf m a (a==3)))
def mh(m:Nat):Nat->Int->Dt->List Dt->Option (List Dt)
 |0,_,_,_=>none
 |d+1,a,b,c=>cond (a<((L b 4).length:Int)) ((idx (L b 4) a).bind fun e=>(app c [fld e 1]).bind fun f=>mh m d (wrap .i64 (a+1)) b f) (some c)
def mo(m:Nat)(a:Dt)(b:List Dt):Option (List Dt):=
 cond (I a 0==5) (mh m (succ m) 0 a b) (some b)
def mq(m:Nat):Nat->Int->Dt->List Dt->Option (List Dt)
 |0,_,_,_=>none
 |d+1,b,a,c=>cond (b<((L a 3).length:Int)) ((idx (L a 3) b).bind fun e=>(app c [e]).bind fun f=>mq m d (wrap .i64 (b+1)) a f) (mo m a c)
def kJ:Nat->Dt->Option (List Dt)
 |0,_=>none
 |m+1,a=>cond (I a 0==6) (mq m (succ m) 0 a []) (mo m a [])
def ko(m:Nat)(a:Q17):Nat->Int->List Dt->Int->Int->Option Int
 |0,_,_,_,_=>none
 |g+1,e,b,c,d=>bif d<(b.length:Int)then(idx b d).bind fun h=>(a h (wrap .i64 (e-1))).bind fun f=>ko m a g e b (cond (c<f) f c) (wrap .i64 (d+1))else some (wrap .i64 (c+1))
def gT(m:Nat)(a:Q17)(b:Int)(c:List Dt)(d:Bool):Option Int:=
 cond d (some 1) (ko m a (succ m) b c 0 0)
def eD:Nat->Dt->Int->Option Int
 |0,_,_=>none
 |m+1,c,a=>(kJ m c).bind fun b=>cond (a<2) (gT m (eD m) a b true) (gT m (eD m) a b ((b.length:Int)==0))
def mW:Nat->Dt->Option Int
 |0,_=>none
 |m+1,a=>(eD m a 17).bind fun b=>some b
def oQ(m:Nat)(a:Q17):Nat->Int->Int->List Dt->Int->Option Int
 |0,_,_,_,_=>none
 |f+1,c,b,d,e=>cond (e<(d.length:Int)) (cond (b<c) ((idx d e).bind fun g=>(a g (wrap .i64 (c-b))).bind fun h=>oQ m a f c (wrap .i64 (b+h)) d (wrap .i64 (e+1))) (some b)) (some b)
def iN:Nat->Dt->Int->Option Int
 |0,_,_=>none
 |m+1,a,b=>(kJ m a).bind fun c=>oQ m (iN m) (succ m) b 1 c 0
def mX:Nat->Dt->Option Int
 |0,_=>none
 |m+1,a=>(iN m a 1025).bind fun b=>some b
def ug(m:Nat)(a:Q44)(b:ByteArray)(c d e:Int):Option Bool:=
 a b c d (wrap .i64 (e+1))
def oh(m:Nat)(a:Q44)(b:ByteArray)(c d e:Int)(f:Bool):Option Bool:=
 cond f (some false) (ug m a b c d e)
def uh(m:Nat)(a:Q44)(b:ByteArray)(c e d:Int):Option Bool:=
 (idxS b (wrap .i64 (c+d))).bind fun f=>cond (f<128) (oh m a b c e d true) ((idxS b (wrap .i64 (c+d))).bind fun g=>oh m a b c e d (decide (191<g)))
def uj(m:Nat):Option Bool:=
 some true
def om(m:Nat):Nat->ByteArray->Int->Int->Int->Option Bool
 |0,_,_,_,_=>none
 |c+1,d,e,a,b=>cond (b<a) (uh m (om m c) d e a b) (uj m)
def um(m:Nat)(a:ByteArray)(b c d:Int):Option Bool:=
 om m (succ m) a b c d
def uo(m:Nat)(a:ByteArray)(b c:Int):Option Bool:=
 um m a b c 0
def qN:Nat->ByteArray->Int->Int->Option Bool
 |0,_,_,_=>none
 |m+1,a,b,c=>cond ((a.size:Int)<wrap .i64 (b+c)) (some false) (uo m a b c)
def EG(m:Nat)(a:Q11)(b:ByteArray)(c d:Int):Option Bool:=
 a b (wrap .i64 (wrap .i64 (c+d)+1))
def bL(m:Nat)(a:Q11)(b:ByteArray)(c d:Int)(e:Bool):Option Bool:=
 cond e (some false) (EG m a b c d)
def yY(m:Nat)(a:Q11)(b:ByteArray)(c e d:Int):Option Bool:=
 cond (e==224) ((idxS b (wrap .i64 (c+1))).bind fun n=>cond (n<160) (bL m a b c d true) (cond (e==237) ((idxS b (wrap .i64 (c+1))).bind fun o=>cond (159<o) (bL m a b c d true) (cond (e==240) ((idxS b (wrap .i64 (c+1))).bind fun p=>cond (p<144) (bL m a b c d true) (cond (e==244) ((idxS b (wrap .i64 (c+1))).bind fun q=>bL m a b c d (decide (143<q))) (bL m a b c d false))) (cond (e==244) ((idxS b (wrap .i64 (c+1))).bind fun r=>bL m a b c d (decide (143<r))) (bL m a b c d false)))) (cond (e==240) ((idxS b (wrap .i64 (c+1))).bind fun s=>cond (s<144) (bL m a b c d true) (cond (e==244) ((idxS b (wrap .i64 (c+1))).bind fun t=>bL m a b c d (decide (143<t))) (bL m a b c d false))) (cond (e==244) ((idxS b (wrap .i64 (c+1))).bind fun u=>bL m a b c d (decide (143<u))) (bL m a b c d false))))) (cond (e==237) ((idxS b (wrap .i64 (c+1))).bind fun f=>cond (159<f) (bL m a b c d true) (cond (e==240) ((idxS b (wrap .i64 (c+1))).bind fun g=>cond (g<144) (bL m a b c d true) (cond (e==244) ((idxS b (wrap .i64 (c+1))).bind fun h=>bL m a b c d (decide (143<h))) (bL m a b c d false))) (cond (e==244) ((idxS b (wrap .i64 (c+1))).bind fun i=>bL m a b c d (decide (143<i))) (bL m a b c d false)))) (cond (e==240) ((idxS b (wrap .i64 (c+1))).bind fun j=>cond (j<144) (bL m a b c d true) (cond (e==244) ((idxS b (wrap .i64 (c+1))).bind fun k=>bL m a b c d (decide (143<k))) (bL m a b c d false))) (cond (e==244) ((idxS b (wrap .i64 (c+1))).bind fun l=>bL m a b c d (decide (143<l))) (bL m a b c d false))))
def lD(m:Nat)(a:Q11)(b:ByteArray)(c e d:Int):Option Bool:=
 (qN m b (wrap .i64 (c+1)) d).bind fun f=>cond (!f) (some false) (yY m a b c e d)
def uq(m:Nat)(a:Q11)(b:ByteArray)(c d:Int)(e:Bool):Option Bool:=
 cond e (lD m a b c d 3) (some false)
def uw(m:Nat)(a:Q11)(c:ByteArray)(d b:Int)(e:Bool):Option Bool:=
 cond e (lD m a c d b 2) (cond (240<=b) (uq m a c d b (decide (b<=244))) (uq m a c d b false))
def uy(m:Nat)(a:Q11)(c:ByteArray)(d b:Int)(e:Bool):Option Bool:=
 cond e (lD m a c d b 1) (cond (224<=b) (uw m a c d b (decide (b<=239))) (uw m a c d b false))
def yZ(m:Nat)(a:Q11)(c:ByteArray)(d:Int):Option Bool:=
 (idxS c d).bind fun b=>cond (b<128) (lD m a c d b 0) (cond (194<=b) (uy m a c d b (decide (b<=223))) (uy m a c d b false))
def CK(m:Nat):Option Bool:=
 some true
def jw(m:Nat):Nat->ByteArray->Int->Option Bool
 |0,_,_=>none
 |c+1,a,b=>cond (b<(a.size:Int)) (yZ m (jw m c) a b) (CK m)
def qO:Nat->ByteArray->Option Bool
 |0,_=>none
 |m+1,a=>jw m (succ m) a 0
def jy(m:Nat)(a:Q11)(b:ByteArray)(c:Int)(d:Bool):Option Bool:=
 cond d (some false) (a b (wrap .i64 (c+1)))
def jA(m:Nat):Nat->ByteArray->Int->Option Bool
 |0,_,_=>none
 |c+1,a,b=>bif b<(a.size:Int)then(idxS a b).bind fun d=>cond (d<32) (jy m (jA m c) a b true) ((idxS a b).bind fun e=>jy m (jA m c) a b (decide (126<e)))else some true
def jB(m:Nat)(a:ByteArray)(b:Bool):Option Bool:=
 cond b (some false) (jA m (succ m) a 0)
def nD:Nat->ByteArray->Option Bool
 |0,_=>none
 |m+1,a=>cond ((a.size:Int)<1) (jB m a true) (jB m a (decide (128<(a.size:Int))))
def nM(m:Nat)(a:Q5)(b:Q5):Nat->Bool->Int->Dt->Option Bool
 |0,_,_,_=>none
 |f+1,d,e,c=>bif e<((L c 3).length:Int)then(idx (L c 3) e).bind fun g=>(a g d).bind fun h=>cond (!h) (some false) (nM m a b f d (wrap .i64 (e+1)) c)else(b c d).bind fun i=>some i
def Bp(m:Nat)(a:Q5)(b:Q5)(c:Bool)(d:Dt):Option Bool:=
 nM m a b (succ m) c 0 d
def qH(m:Nat)(b:Q5)(c:Q5)(d:Bool)(a:Dt):Option Bool:=
 cond (I a 0==9) (cond (I a 1==0) (some true) (some (I a 1==1))) (cond (I a 0==10) (some (decide (0<=I a 1))) (cond (I a 0==4) (cond (((S a 2).size:Int)<=4096) ((qO m (S a 2)).bind fun e=>some e) (some false)) (cond (I a 0==7) (some (decide (((S a 2).size:Int)<=4096))) (cond (I a 0==8) (some (((S a 2).size:Int)==12)) (Bp m b c d a)))))
def dG(m:Nat)(a:Q5)(b:Q5)(c d:Bool)(e:Dt):Option Bool:=
 cond d (some false) (qH m a b c e)
def iW(m:Nat)(a:Q5)(b:Q5)(d f e:Bool)(c:Dt):Option Bool:=
 cond (!f) (cond (!(S c 2).toList==[]) (dG m a b d true c) (cond (!e) (cond (I c 1 !=0) (dG m a b d true c) (cond (I c 0<1) (dG m a b d true c) (dG m a b d (decide (11<I c 0)) c))) (cond (I c 0<1) (dG m a b d true c) (dG m a b d (decide (11<I c 0)) c)))) (cond (!e) (cond (I c 1 !=0) (dG m a b d true c) (cond (I c 0<1) (dG m a b d true c) (dG m a b d (decide (11<I c 0)) c))) (cond (I c 0<1) (dG m a b d true c) (dG m a b d (decide (11<I c 0)) c)))
def iX(m:Nat)(a:Q5)(b:Q5)(d e:Bool)(c:Dt):Option Bool:=
 cond (I c 0==3) (iW m a b d e true c) (cond (I c 0==9) (iW m a b d e true c) (iW m a b d e (I c 0==10) c))
def qI(m:Nat)(a:Q5)(b:Q5)(d:Bool)(c:Dt):Option Bool:=
 cond (I c 0==4) (iX m a b d true c) (cond (I c 0==7) (iX m a b d true c) (iX m a b d (I c 0==8) c))
def iY(m:Nat)(a:Q5)(b:Q5)(c d:Bool)(e:Dt):Option Bool:=
 cond d (some false) (qI m a b c e)
def kr(m:Nat)(a:Q5)(b:Q18):Nat->Bool->Int->Int->Dt->Dt->Option Bool
 |0,_,_,_,_,_=>none
 |h+1,f,c,d,e,g=>cond (d<c) ((idx (L e 4) d).bind fun i=>cond ((S i 0).toList==(S g 0).toList) (some false) (kr m a b h f c (wrap .i64 (d+1)) e g)) (b f (wrap .i64 (c+1)) e)
def dN(m:Nat)(a:Q5)(b:Q18)(c:Bool)(d:Int)(e:Bool)(f g:Dt):Option Bool:=
 cond e (some false) (kr m a b (succ m) c d 0 f g)
def dB(m:Nat)(a:Q5):Nat->Bool->Int->Dt->Option Bool
 |0,_,_,_=>none
 |f+1,b,d,e=>bif d<((L e 4).length:Int)then(idx (L e 4) d).bind fun c=>cond b ((ig m (S c 0)).bind fun g=>cond (!g) (dN m a (dB m a f) b d true e c) (bif !b then(nD m (S c 0)).bind fun h=>cond (!h) (dN m a (dB m a f) b d true e c) ((a (fld c 1) b).bind fun i=>dN m a (dB m a f) b d (!i) e c)else(a (fld c 1) b).bind fun j=>dN m a (dB m a f) b d (!j) e c)) (bif !b then(nD m (S c 0)).bind fun k=>cond (!k) (dN m a (dB m a f) b d true e c) ((a (fld c 1) b).bind fun l=>dN m a (dB m a f) b d (!l) e c)else(a (fld c 1) b).bind fun n=>dN m a (dB m a f) b d (!n) e c)else some true
mutual
def bC:Nat->Dt->Bool->Option Bool
 |0,_,_=>none
 |m+1,a,b=>cond (I a 0 !=6) (cond (0<((L a 3).length:Int)) (iY m (bC m) (dz m) b true a) (cond (I a 0 !=5) (iY m (bC m) (dz m) b (decide (0<((L a 4).length:Int))) a) (iY m (bC m) (dz m) b false a))) (cond (I a 0 !=5) (iY m (bC m) (dz m) b (decide (0<((L a 4).length:Int))) a) (iY m (bC m) (dz m) b false a))
def dz:Nat->Dt->Bool->Option Bool
 |0,_,_=>none
 |m+1,a,b=>dB m (bC m) (succ m) b 0 a
end
def iO:Nat->Dt->Option Bool
 |0,_=>none
 |m+1,a=>(mW m a).bind fun b=>cond (b<=16) ((mX m a).bind fun c=>cond (c<=1024) ((bC m a true).bind fun d=>some d) (some false)) (some false)
def aZ(m:Nat)(a:Bool):Option Int:=
 cond a (some 4) (some 0)
def y7(m:Nat)(b:Bool)(a:Dt):Option Int:=
 cond (I a 0 !=2) (cond (I a 0 !=3) (cond (0<((L a 1).length:Int)) (aZ m true) (cond (!b) (cond (!(S a 2).toList==[]) (aZ m true) (cond (I a 0 !=34) (cond (0<((L a 3).length:Int)) (aZ m true) (cond (I a 0 !=1) ((bD m (fld a 4) aj).bind fun h=>cond (!h) (aZ m true) (aZ m (I a 5 !=0))) (aZ m (I a 5 !=0)))) (cond (I a 0 !=1) ((bD m (fld a 4) aj).bind fun i=>cond (!i) (aZ m true) (aZ m (I a 5 !=0))) (aZ m (I a 5 !=0))))) (cond (I a 0 !=34) (cond (0<((L a 3).length:Int)) (aZ m true) (cond (I a 0 !=1) ((bD m (fld a 4) aj).bind fun j=>cond (!j) (aZ m true) (aZ m (I a 5 !=0))) (aZ m (I a 5 !=0)))) (cond (I a 0 !=1) ((bD m (fld a 4) aj).bind fun k=>cond (!k) (aZ m true) (aZ m (I a 5 !=0))) (aZ m (I a 5 !=0)))))) (cond (!b) (cond (!(S a 2).toList==[]) (aZ m true) (cond (I a 0 !=34) (cond (0<((L a 3).length:Int)) (aZ m true) (cond (I a 0 !=1) ((bD m (fld a 4) aj).bind fun l=>cond (!l) (aZ m true) (aZ m (I a 5 !=0))) (aZ m (I a 5 !=0)))) (cond (I a 0 !=1) ((bD m (fld a 4) aj).bind fun n=>cond (!n) (aZ m true) (aZ m (I a 5 !=0))) (aZ m (I a 5 !=0))))) (cond (I a 0 !=34) (cond (0<((L a 3).length:Int)) (aZ m true) (cond (I a 0 !=1) ((bD m (fld a 4) aj).bind fun o=>cond (!o) (aZ m true) (aZ m (I a 5 !=0))) (aZ m (I a 5 !=0)))) (cond (I a 0 !=1) ((bD m (fld a 4) aj).bind fun c=>cond (!c) (aZ m true) (aZ m (I a 5 !=0))) (aZ m (I a 5 !=0)))))) (cond (!b) (cond (!(S a 2).toList==[]) (aZ m true) (cond (I a 0 !=34) (cond (0<((L a 3).length:Int)) (aZ m true) (cond (I a 0 !=1) ((bD m (fld a 4) aj).bind fun d=>cond (!d) (aZ m true) (aZ m (I a 5 !=0))) (aZ m (I a 5 !=0)))) (cond (I a 0 !=1) ((bD m (fld a 4) aj).bind fun e=>cond (!e) (aZ m true) (aZ m (I a 5 !=0))) (aZ m (I a 5 !=0))))) (cond (I a 0 !=34) (cond (0<((L a 3).length:Int)) (aZ m true) (cond (I a 0 !=1) ((bD m (fld a 4) aj).bind fun f=>cond (!f) (aZ m true) (aZ m (I a 5 !=0))) (aZ m (I a 5 !=0)))) (cond (I a 0 !=1) ((bD m (fld a 4) aj).bind fun g=>cond (!g) (aZ m true) (aZ m (I a 5 !=0))) (aZ m (I a 5 !=0)))))
def uz(m:Nat)(a b:Bool)(c:Dt):Option Int:=
 cond b (some 8) (y7 m a c)
def y8(m:Nat)(b:Bool)(a:Dt):Option Int:=
 cond (I a 0==1) ((iO m (fld a 4)).bind fun c=>uz m b (!c) a) (uz m b false a)
def lF(m:Nat)(a b:Bool)(c:Dt):Option Int:=
 cond b (some 9) (y8 m a c)
def oo(m:Nat)(b:Bool)(a:Dt):Option Int:=
 cond b ((ig m (S a 2)).bind fun e=>cond (!e) (lF m b true a) (cond (I a 0==34) ((mV m (L a 3)).bind fun c=>lF m b (!c) a) (lF m b false a))) (cond (I a 0==34) ((mV m (L a 3)).bind fun d=>lF m b (!d) a) (lF m b false a))
def iI(m:Nat)(b:Bool)(a:Dt):Option Int:=
 cond b (some 10) (cond (I a 0==3) (oo m true a) (cond (I a 0==32) (oo m true a) (oo m (I a 0==33) a)))
def y9(m:Nat)(a:Dt):Option Int:=
 cond (I a 0==2) ((fZ m (L a 1)).bind fun d=>cond (!d) (iI m true a) (cond (I a 0==3) (cond (0<((L a 1).length:Int)) ((fZ m (L a 1)).bind fun b=>iI m (!b) a) (iI m false a)) (iI m false a))) (cond (I a 0==3) (cond (0<((L a 1).length:Int)) ((fZ m (L a 1)).bind fun c=>iI m (!c) a) (iI m false a)) (iI m false a))
def fF(m:Nat)(a:Bool)(b:Dt):Option Int:=
 cond a (some 11) (y9 m b)
def qP:Nat->Dt->Option Int
 |0,_=>none
 |m+1,a=>cond (I a 0<1) (fF m true a) (cond (37<I a 0) (fF m true a) ((oP m (I a 0)).bind fun b=>cond (0<=b) ((oP m (I a 0)).bind fun c=>cond (((L a 6).length:Int) !=c) (fF m true a) (cond (I a 0==34) (cond (((L a 6).length:Int) !=((L a 3).length:Int)) (fF m true a) (fF m (((L a 6).length:Int)==0) a)) (fF m false a))) (cond (I a 0==34) (cond (((L a 6).length:Int) !=((L a 3).length:Int)) (fF m true a) (fF m (((L a 6).length:Int)==0) a)) (fF m false a))))
def wF(m:Nat)(b:Q9)(a:Q45)(c d e:Int)(f:Dt):Option (Int×Int):=
 a e c (wrap .i64 (d+1)) f
def mD(m:Nat)(a:Q9):Nat->Int->Int->Int->Dt->Option (Int×Int)
 |0,_,_,_,_=>none
 |g+1,e,f,c,d=>bif c<((L d 6).length:Int)then(idx (L d 6) c).bind fun h=>(a h (wrap .i64 (e+1)) (wrap .i64 (f+1))).bind fun b=>cond (b.2 !=0) (some (b.1,b.2)) (wF m a (mD m a g) f c b.1 d)else some (e,0)
def rU(m:Nat)(a:Q9)(b e:Int)(f:Bool)(c:Dt):Option (Int×Int):=
 cond f (some (b,2)) ((qP m c).bind fun d=>cond (d !=0) (some (b,d)) (mD m a (succ m) b e 0 c))
def fE:Nat->Dt->Int->Int->Option (Int×Int)
 |0,_,_,_=>none
 |m+1,c,a,b=>cond (16<b) (rU m (fE m) a b true c) (rU m (fE m) a b (decide (256<a)) c)
def gU:Nat->Dt->Option Int
 |0,_=>none
 |m+1,a=>(fE m a 1 1).bind fun b=>some b.2
def EH(m:Nat)(a:Q38)(b c:List Dt)(d e:Int)(f:Dt):Option Bool:=
 a b c d (wrap .i64 (e+1)) f
def bG(m:Nat)(a:Q38)(b c:List Dt)(d e:Int)(f:Bool)(g:Dt):Option Bool:=
 cond f (some false) (EH m a b c d e g)
def EI(m:Nat)(a:Q38)(c d:List Dt)(e f:Int)(g b:Dt):Option Bool:=
 cond (I b 1 !=2) ((gU m (fld b 2)).bind fun h=>cond (h !=0) (bG m a c d e f true g) (cond (I b 1==10) (cond (I b 4<1) (bG m a c d e f true g) (cond (64<I b 4) (bG m a c d e f true g) (cond (I b 1 !=10) (cond (I b 4 !=0) (bG m a c d e f true g) (cond (0<((L b 3).length:Int)) (bG m a c d e f true g) (cond (I b 1==2) (bG m a c d e f (I (fld b 2) 0 !=0) g) (bG m a c d e f false g)))) (cond (I b 1==2) (bG m a c d e f (I (fld b 2) 0 !=0) g) (bG m a c d e f false g))))) (cond (I b 1 !=10) (cond (I b 4 !=0) (bG m a c d e f true g) (cond (0<((L b 3).length:Int)) (bG m a c d e f true g) (cond (I b 1==2) (bG m a c d e f (I (fld b 2) 0 !=0) g) (bG m a c d e f false g)))) (cond (I b 1==2) (bG m a c d e f (I (fld b 2) 0 !=0) g) (bG m a c d e f false g))))) (cond (I b 1==10) (cond (I b 4<1) (bG m a c d e f true g) (cond (64<I b 4) (bG m a c d e f true g) (cond (I b 1 !=10) (cond (I b 4 !=0) (bG m a c d e f true g) (cond (0<((L b 3).length:Int)) (bG m a c d e f true g) (cond (I b 1==2) (bG m a c d e f (I (fld b 2) 0 !=0) g) (bG m a c d e f false g)))) (cond (I b 1==2) (bG m a c d e f (I (fld b 2) 0 !=0) g) (bG m a c d e f false g))))) (cond (I b 1 !=10) (cond (I b 4 !=0) (bG m a c d e f true g) (cond (0<((L b 3).length:Int)) (bG m a c d e f true g) (cond (I b 1==2) (bG m a c d e f (I (fld b 2) 0 !=0) g) (bG m a c d e f false g)))) (cond (I b 1==2) (bG m a c d e f (I (fld b 2) 0 !=0) g) (bG m a c d e f false g))))
def lG(m:Nat)(a:Q38)(b c:List Dt)(d e:Int)(f:Bool)(g h:Dt):Option Bool:=
 cond f (some false) (EI m a b c d e g h)
def EJ(m:Nat)(a:Q38)(f d:List Dt)(g b:Int)(e:Dt):Option Bool:=
 (idx d b).bind fun h=>cond ((S h 0).toList==[]) (lG m a f d g b true e h) (bif (S h 0).toList==[95,105,100]then lG m a f d g b true e h else(cutL (L e 1) 0 b).bind fun i=>(i10 m i h).bind fun c=>cond c.1 (lG m a f d g b true e c.2) (cond (I c.2 1<1) (lG m a f d g b true e c.2) (cond (10<I c.2 1) (lG m a f d g b true e c.2) ((uR m (L c.2 3)).bind fun j=>lG m a f d g b (j !=0) e c.2))))
def rV(m:Nat)(a:Q15)(b:List Dt)(c d:Int):Option Bool:=
 a b c (wrap .i64 (d+1))
def wG(m:Nat)(a:Q15)(b:List Dt)(c d:Int)(e:Bool):Option Bool:=
 cond e (some false) (rV m a b c d)
def wH(m:Nat)(a:Q15)(b:List Dt)(d c:Int):Option Bool:=
 (idx b c).bind fun e=>cond (I e 0 !=5) (wG m a b d c true) ((idx b c).bind fun f=>(iO m f).bind fun g=>wG m a b d c (!g))
def CO(m:Nat):Option Bool:=
 some true
def mE(m:Nat):Nat->List Dt->Int->Int->Option Bool
 |0,_,_,_=>none
 |a+1,d,b,c=>cond (c<b) (wH m (mE m a) d b c) (CO m)
def qx(m:Nat)(a:List Dt):Option Bool:=
 mE m (succ m) a (a.length:Int) 0
def uD(m:Nat):Nat->List Dt->List Dt->Int->Int->Dt->Option Bool
 |0,_,_,_,_,_=>none
 |d+1,a,e,b,c,f=>cond (c<b) (EJ m (uD m d) a e b c f) (qx m a)
def uE(m:Nat)(b:List Dt)(a:Dt):Option Bool:=
 uD m (succ m) b (L a 1) ((L a 1).length:Int) 0 a
def qy(m:Nat)(a:List Dt)(b:Bool)(c:Dt):Option Bool:=
 cond b (some false) (uE m a c)
def tJ:Nat->Dt->List Dt->Option Bool
 |0,_,_=>none
 |m+1,a,b=>cond (8<((L a 1).length:Int)) (qy m b true a) (cond (30<(b.length:Int)) (qy m b true a) ((gU m (fld a 0)).bind fun c=>qy m b (c !=0) a))
def oU:Nat->Dt->Option Bool
 |0,_=>none
 |m+1,a=>cond (I a 0==0) (cond (I a 1==0) (bif (S a 2).toList==[]then cond (((L a 3).length:Int)==0) (some (((L a 4).length:Int)==0)) (some false)else some false) (some false)) (some false)
def jC(m:Nat)(a:Int)(b:Bool):Option Int:=
 cond b (some 5) (cond (a==35) (some 6) (cond (a==34) (some 7) (some 2)))
def ze(m:Nat)(a:Int)(b:Bool):Option Int:=
 cond b (some 4) (cond (a==4) (jC m a (a==4)) (cond (a==6) (jC m a (a==6)) (cond (a==16) (jC m a (a==16)) (cond (a==17) (jC m a (a==17)) (cond (a==21) (jC m a (a==21)) (cond (a==29) (jC m a (a==29)) (jC m a (a==37))))))))
def zf(m:Nat)(a:Int)(b:Bool):Option Int:=
 cond b (some 3) (cond (a==19) (ze m a (a==19)) (ze m a (a==25)))
def iJ(m:Nat)(a:Int)(b:Bool):Option Int:=
 cond b (some 1) (cond (a==32) (zf m a (a==32)) (zf m a (a==33)))
def uF(m:Nat)(a:Int)(b:Bool):Option Int:=
 cond b (some 0) (cond (a==18) (iJ m a (a==18)) (cond (a==22) (iJ m a (a==22)) (cond (a==23) (iJ m a (a==23)) (cond (a==24) (iJ m a (a==24)) (cond (a==26) (iJ m a (a==26)) (cond (a==30) (iJ m a (a==30)) (cond (a==31) (iJ m a (a==31)) (iJ m a (a==36)))))))))
def oV:Nat->Int->Option Int
 |0,_=>none
 |m+1,a=>cond (a==1) (uF m a (a==1)) (cond (a==2) (uF m a (a==2)) (uF m a (a==3)))
def uZ(m:Nat)(a b:Int)(c:Bool):Option Bool:=
 cond c (some (a==2)) (cond (b==4) (some (a==3)) (cond (b==7) (some (decide (1<=a))) (some true)))
def pW:Nat->Int->Int->Option Bool
 |0,_,_=>none
 |m+1,a,b=>cond (a==0) (some (b==0)) (cond (a==1) (some (b==1)) (cond (a==2) (uZ m b a (a==2)) (uZ m b a (a==3))))
def nN(m:Nat)(a:Q10):Nat->List Dt->List Dt->Int->Int->Dt->Option Dt
 |0,_,_,_,_,_=>none
 |g+1,b,d,e,c,h=>cond (c<e) ((idx d c).bind fun f=>(idx b 0).bind fun i=>cond ((S f 0).toList==(toStr i).toList) ((cutL b 1 (b.length:Int)).bind fun j=>(a (fld f 1) j).bind fun k=>some k) (nN m a g b d e (wrap .i64 (c+1)) h)) (some aj)
def iZ(m:Nat)(b:Q10)(a:Q63)(c d:List Dt)(e f:Int)(g:Dt)(h i:Int)(j:ByteArray)(k l:List Dt):Option Dt:=
 a c d e (wrap .i64 (f+1)) g h i j k l
def jc(m:Nat)(a:Q10):Nat->List Dt->List Dt->Int->Int->Dt->Int->Int->ByteArray->List Dt->List Dt->Option Dt
 |0,_,_,_,_,_,_,_,_,_,_=>none
 |k+1,c,d,e,b,l,f,g,h,i,j=>cond (b<e) ((idx d b).bind fun o=>(a o c).bind fun n=>cond (I n 0 !=0) ((app i [n]).bind fun p=>iZ m a (jc m a k) c d e b l f g h p j) (iZ m a (jc m a k) c d e b l f g h i j)) (some (agg [int f,int g,str h,lst i,lst j]))
def ku(m:Nat)(a:Q10)(c:List Dt)(b d:Dt):Option Dt:=
 cond (I b 0==5) (nN m a (succ m) c (L b 4) ((L b 4).length:Int) 0 d) (cond (I b 0==6) (jc m a (succ m) c (L b 3) ((L b 3).length:Int) 0 d 6 0 (ByteArray.mk (List.toArray [])) [] []) (some aj))
def bU:Nat->Dt->List Dt->Option Dt
 |0,_,_=>none
 |m+1,a,b=>cond ((b.length:Int)==0) (some a) (ku m (bU m) b a aj)
def bM:Nat->Int->Option Dt
 |0,_=>none
 |m+1,a=>some (agg [int 3,int a,str (ByteArray.mk (List.toArray [])),lst [],lst []])
def nE:Nat->Dt->Option Dt
 |0,_=>none
 |m+1,a=>cond (I a 0==0) ((bZ m).bind fun b=>some b) (some a)
def fQ:Nat->Dt->Option Bool
 |0,_=>none
 |m+1,a=>cond (2<I a 0) (cond (I a 0==9) (cond (!I a 1==0) (some true) (some (I a 0==1))) (cond (I a 0==3) (cond (!I a 1==0) (some true) (some (I a 0==1))) (some true))) (some (I a 0==1))
def bO:Nat->Bool->Option Dt
 |0,_=>none
 |m+1,a=>cond a (some M6) (some M5)
def oW(m:Nat):Nat->Int->List Dt->Int->Dt->Option Dt
 |0,_,_,_,_=>none
 |d+1,a,b,c,e=>bif c<(b.length:Int)then(idx b c).bind fun f=>(fQ m f).bind fun g=>cond (g==(a==17)) ((bO m (a==17)).bind fun h=>some h) (oW m d a b (wrap .i64 (c+1)) e)else(bO m (a==16)).bind fun i=>some i
def mY:Nat->Int->List Dt->Option Dt
 |0,_,_=>none
 |m+1,a,b=>oW m (succ m) a b 0 aj
def dP:Nat->Int->Option Dt
 |0,_=>none
 |m+1,a=>some (agg [int 3,int a,str (ByteArray.mk (List.toArray [])),lst [],lst []])
def mF(m:Nat)(a:Q34)(d:ByteArray)(e:Bool)(b:ByteArray)(f c:Int):Option ByteArray:=
 cond (Nat.ble (b.size+(strOfNums [c]).size) 1152921504606846976) (a d e (b++strOfNums [c]) (wrap .i64 (f+1))) none
def gq(m:Nat)(a:Q34)(b:ByteArray)(c:Bool)(d:ByteArray)(e f:Int)(g:Bool):Option ByteArray:=
 cond g (mF m a b c d e (wrap IntKind.u8 (f+32))) (mF m a b c d e f)
def iq(m:Nat)(a:Q34)(d:ByteArray)(c:Bool)(e:ByteArray)(f b:Int):Option ByteArray:=
 cond (!c) (cond (65<=b) (gq m a d c e f b (decide (b<=90))) (gq m a d c e f b false)) (gq m a d c e f b false)
def gu(m:Nat)(a:Q34)(b:ByteArray)(c:Bool)(d:ByteArray)(e f:Int)(g:Bool):Option ByteArray:=
 cond g (iq m a b c d e (wrap IntKind.u8 (f-32))) (iq m a b c d e f)
def tK(m:Nat)(a:Q34)(c:ByteArray)(d:Bool)(f:ByteArray)(e:Int):Option ByteArray:=
 (idxS c e).bind fun b=>cond d (cond (97<=b) (gu m a c d f e b (decide (b<=122))) (gu m a c d f e b false)) (gu m a c d f e b false)
def jH(m:Nat):Nat->ByteArray->Bool->ByteArray->Int->Option ByteArray
 |0,_,_,_,_=>none
 |d+1,a,e,b,c=>cond (c<(a.size:Int)) (tK m (jH m d) a e b c) (some b)
def gF:Nat->ByteArray->Bool->Option ByteArray
 |0,_,_=>none
 |m+1,a,b=>jH m (succ m) a b (ByteArray.mk (List.toArray [])) 0
def jR:Nat->ByteArray->Option Dt
 |0,_=>none
 |m+1,a=>some (agg [int 4,int 0,str a,lst [],lst []])
def oZ(m:Nat)(a b:Int)(c f:Dt):Option Dt:=
 (cutS (S c 2) a (wrap .i64 (a+b))).bind fun d=>(jR m d).bind fun e=>some e
def o7(m:Nat)(a:Int)(b c d:Dt):Option Dt:=
 cond (wrap .i64 (((S b 2).size:Int)-a)<I c 1) (oZ m a (wrap .i64 (((S b 2).size:Int)-a)) b d) (oZ m a (I c 1) b d)
def wI(m:Nat)(a b c d:Dt):Option Dt:=
 cond (((S a 2).size:Int)<I b 1) (o7 m ((S a 2).size:Int) a c d) (o7 m (I b 1) a c d)
def jS(m:Nat)(a:Bool)(b c d e:Dt):Option Dt:=
 cond a ((bZ m).bind fun f=>some f) (wI m b c d e)
def mZ:Nat->Dt->Dt->Dt->Option Dt
 |0,_,_,_=>none
 |m+1,c,a,b=>cond (I c 0 !=4) (jS m true c a b aj) (cond (I a 0 !=3) (jS m true c a b aj) (cond (I b 0 !=3) (jS m true c a b aj) (cond (I a 1<0) (jS m true c a b aj) (jS m (decide (I b 1<0)) c a b aj))))
def uG(m:Nat)(a:Q65)(b c d:Int)(e f:Dt)(g h:Int)(i:ByteArray)(j k:List Dt):Option Dt:=
 a b c (wrap .i64 (d+1)) e f g h i j k
def lH(m:Nat):Nat->Int->Int->Int->Dt->Dt->Int->Int->ByteArray->List Dt->List Dt->Option Dt
 |0,_,_,_,_,_,_,_,_,_,_=>none
 |i+1,c,d,b,a,j,e,f,g,k,h=>bif b<((L a 3).length:Int)then(idx (L a 3) (wrap .i64 (wrap .i64 (((L a 3).length:Int)-1)-b))).bind fun n=>(app k [n]).bind fun l=>(idx (L a 3) b).bind fun o=>cond (I o 0==3) ((idx (L a 3) b).bind fun p=>uG m (lH m i) c (wrap .i64 (d+I p 1)) b a j e f g l h) (uG m (lH m i) c d b a j e f g l h)else cond (c==31) ((dP m d).bind fun q=>some q) (some (agg [int e,int f,str g,lst k,lst h]))
def lI:Nat->Int->Dt->Option Dt
 |0,_,_=>none
 |m+1,b,a=>cond (I a 0 !=6) ((bZ m).bind fun c=>some c) (cond (b==26) ((dP m ((L a 3).length:Int)).bind fun d=>some d) (lH m (succ m) b 0 0 a aj 6 0 (ByteArray.mk (List.toArray [])) [] []))
def pX(m:Nat)(a:Int)(b:Bool)(c e:Dt):Option Dt:=
 cond b (some aj) ((idx (L c 3) a).bind fun d=>some d)
def mG(m:Nat)(a:Int)(b c:Dt):Option Dt:=
 cond (a<0) (pX m a true b c) (pX m a (decide (((L b 3).length:Int)<=a)) b c)
def tL(m:Nat)(a b c:Dt):Option Dt:=
 cond (I b 1<0) (mG m (wrap .i64 (I b 1+((L a 3).length:Int))) a c) (mG m (I b 1) a c)
def pY(m:Nat)(a:Bool)(b c d:Dt):Option Dt:=
 cond a ((bZ m).bind fun e=>some e) (tL m b c d)
def jD:Nat->Dt->Dt->Option Dt
 |0,_,_=>none
 |m+1,a,b=>cond (I a 0 !=6) (pY m true a b aj) (pY m (I b 0 !=3) a b aj)
def dS:Nat->Int->Dt->Dt->Option Dt
 |0,_,_,_=>none
 |m+1,b,c,d=>(bB m c d).bind fun a=>cond (b==10) ((bO m (a==0)).bind fun e=>some e) (cond (b==11) ((bO m (a !=0)).bind fun f=>some f) (cond (b==12) ((bO m (decide (0<a))).bind fun g=>some g) (cond (b==13) ((bO m (decide (0<=a))).bind fun h=>some h) (cond (b==14) ((bO m (decide (a<0))).bind fun i=>some i) (cond (b==15) ((bO m (decide (a<=0))).bind fun j=>some j) ((dP m a).bind fun k=>some k))))))
def nO(m:Nat)(a:Q28)(b:ByteArray)(c d:Int)(e:Bool):Option Bool:=
 cond e (some true) (a b c (wrap .i64 (d+1)))
def fI(m:Nat):Nat->ByteArray->Int->Int->Option Bool
 |0,_,_,_=>none
 |d+1,b,c,a=>cond (a<c) ((idxS b a).bind fun e=>cond (e<33) (nO m (fI m d) b c a true) ((idxS b a).bind fun f=>cond (126<f) (nO m (fI m d) b c a true) ((idxS b a).bind fun g=>nO m (fI m d) b c a (g==46)))) (some false)
def nP(m:Nat)(a:ByteArray)(b:Bool):Option Bool:=
 cond b (some true) (fI m (succ m) a (a.size:Int) 0)
def nG:Nat->ByteArray->Option Bool
 |0,_=>none
 |m+1,a=>cond ((a.size:Int)<1) (nP m a true) (cond (32<(a.size:Int)) (nP m a true) ((idxS a 0).bind fun b=>nP m a (b==36)))
def DR(m:Nat):Nat->List Dt->Int->Int->Option Int
 |0,_,_,_=>none
 |d+1,b,c,a=>cond (a<c) ((idx b a).bind fun e=>(nG m (toStr e)).bind fun f=>cond f (some a) (DR m d b c (wrap .i64 (a+1)))) (some (-1))
def i107:Nat->List Dt->Option Int
 |0,_=>none
 |m+1,a=>DR m (succ m) a (a.length:Int) 0
def agH:Nat->List Dt->Option Bool
 |0,_=>none
 |m+1,a=>(i107 m a).bind fun b=>some (decide (0<=b))
def nH:Nat->List Dt->Option Bool
 |0,_=>none
 |m+1,a=>cond (1<=(a.length:Int)) (bif (a.length:Int)<=16 then(agH m a).bind fun b=>some (!b)else some false) (some false)
def kK:Nat->ByteArray->Option Bool
 |0,_=>none
 |m+1,a=>(nH m [str a]).bind fun b=>some b
def j5(m:Nat)(a:Q23)(b:ByteArray)(c:List Dt)(d e:Int)(f:Bool)(g:List Dt):Option Bool:=
 cond f (some false) (a c d (wrap .i64 (e+1)) (mput g b (bool true)))
def eB(m:Nat):Nat->List Dt->Int->Int->List Dt->Option Bool
 |0,_,_,_,_=>none
 |f+1,c,d,a,e=>cond (a<d) ((idx c a).bind fun b=>(kK m (toStr b)).bind fun g=>cond (!g) (j5 m (eB m f) (toStr b) c d a true e) (j5 m (eB m f) (toStr b) c d a (Dt.toBool (mgetD e (toStr b) (bool false))) e)) (some true)
def eH:Nat->List Dt->Option Bool
 |0,_=>none
 |m+1,a=>eB m (succ m) a (a.length:Int) 0 []
def gV:Nat->Dt->Option Dt
 |0,_=>none
 |m+1,a=>cond (I a 0==0) ((cB m).bind fun b=>some b) (some a)
def jU(m:Nat):Nat->List Dt->Int->Int->Dt->Int->Int->ByteArray->List Dt->List Dt->Option Dt
 |0,_,_,_,_,_,_,_,_,_=>none
 |i+1,b,c,a,j,d,e,f,g,h=>cond (a<c) ((idx b a).bind fun k=>(gV m k).bind fun l=>(app g [l]).bind fun n=>jU m i b c (wrap .i64 (a+1)) j d e f n h) (some (agg [int d,int e,str f,lst g,lst h]))
def nI(m:Nat)(a:Q35)(b:List Dt)(c d:Int)(e f:Dt)(g h:Int)(i:ByteArray)(j k:List Dt):Option Dt:=
 a b c (wrap .i64 (d+1)) e f g h i j k
def fT(m:Nat):Nat->List Dt->Int->Int->Dt->Dt->Int->Int->ByteArray->List Dt->List Dt->Option Dt
 |0,_,_,_,_,_,_,_,_,_,_=>none
 |j+1,b,c,a,d,k,e,f,g,h,i=>cond (a<c) ((idx b a).bind fun l=>cond (I l 0 !=0) ((idx (L d 3) a).bind fun n=>(app i [agg [str (toStr n),l]]).bind fun o=>nI m (fT m j) b c a d k e f g h o) (nI m (fT m j) b c a d k e f g h i)) (some (agg [int e,int f,str g,lst h,lst i]))
def dY:Nat->Dt->List Dt->Option Dt
 |0,_,_=>none
 |m+1,b,a=>cond (I b 0==35) (jU m (succ m) a (a.length:Int) 0 aj 6 0 (ByteArray.mk (List.toArray [])) [] []) (fT m (succ m) a (a.length:Int) 0 b aj 5 0 (ByteArray.mk (List.toArray [])) [] [])
def rW(m:Nat)(a:Bool)(b:Dt):Option Bool:=
 cond a (some (I b 1 !=0)) (some true)
def rX(m:Nat)(a:Int)(c:Bool)(b:Dt):Option Bool:=
 cond c (some false) (cond (a==9) (rW m (a==9) b) (rW m (a==3) b))
def dV:Nat->Dt->Option Bool
 |0,_=>none
 |m+1,a=>cond (I a 0==0) (rX m (I a 0) (I a 0==0) a) (rX m (I a 0) (I a 0==2) a)
def mH(m:Nat)(a:Int)(b:Bool):Option Int:=
 cond b (some (wrap .i64 (a-1))) (some a)
def iK:Nat->Int->Int->Option Int
 |0,_,_=>none
 |m+1,b,a=>cond (a=0) none (cond (a=0) none (cond (Int.tmod b a !=0) (mH m (wrap .i64 (Int.tdiv b a)) (!decide (b<0)==decide (a<0))) (mH m (wrap .i64 (Int.tdiv b a)) false)))
def iw(m:Nat):Nat->Int->List Dt->Int->Int->Dt->Option Dt
 |0,_,_,_,_,_=>none
 |f+1,c,d,e,a,g=>cond (a<e) ((idx d a).bind fun h=>iw m f (wrap .i64 (c+toInt h)) d e (wrap .i64 (a+1)) g) ((bM m c).bind fun b=>some b)
def jo(m:Nat):Nat->Int->List Dt->Int->Int->Dt->Option Dt
 |0,_,_,_,_,_=>none
 |a+1,e,f,g,b,h=>cond (b<g) ((idx f b).bind fun c=>jo m a (wrap .i64 (e*toInt c)) f g (wrap .i64 (b+1)) h) ((bM m e).bind fun d=>some d)
def dM(m:Nat)(h:Int)(n:Dt)(a:List Dt):Option Dt:=
 (inL a 0).bind fun i=>(a[0]?).bind fun d=>(inL a 1).bind fun j=>(a[1]?).bind fun e=>(iK m (toInt d) (toInt e)).bind fun c=>cond (h==8) ((inL a 0).bind fun k=>(a[0]?).bind fun f=>(inL a 1).bind fun l=>(a[1]?).bind fun g=>(bM m (wrap .i64 (toInt f-wrap .i64 (toInt g*c)))).bind fun b=>some b) ((bM m c).bind fun b=>some b)
def fD(m:Nat)(d:Int)(e:Dt)(a:List Dt):Option Dt:=
 (inL a 1).bind fun f=>(a[1]?).bind fun b=>cond (toInt b==0) ((cB m).bind fun c=>some c) (dM m d e a)
def iy(m:Nat)(b:Int)(c:Dt)(a:List Dt):Option Dt:=
 cond (b==5) ((inL a 1).bind fun e=>(a[1]?).bind fun d=>(inL a 1).bind fun f=>(a[1]?).bind fun g=>iw m (succ m) 0 (List.set a 1 (int (wrap .i64 (0-toInt d)))) ((List.set a 1 (int (wrap .i64 (0-toInt d)))).length:Int) 0 c) (cond (b==4) (iw m (succ m) 0 a (a.length:Int) 0 c) (cond (b==6) (jo m (succ m) 1 a (a.length:Int) 0 c) (fD m b c a)))
def jV(m:Nat):Nat->Int->List Dt->Int->Int->Dt->List Dt->Option Dt
 |0,_,_,_,_,_,_=>none
 |h+1,c,d,e,a,f,b=>cond (a<e) ((idx d a).bind fun g=>cond (I g 0 !=3) ((cB m).bind fun i=>some i) ((inL b a).bind fun j=>(b[a.toNat]?).bind fun k=>jV m h c d e (wrap .i64 (a+1)) f (List.set b a.toNat (int (I g 1))))) (iy m c f b)
def dO:Nat->Int->List Dt->Option Dt
 |0,_,_=>none
 |m+1,b,a=>(mkL (a.length:Int) (a.length:Int) (int 0)).bind fun c=>jV m (succ m) b a (a.length:Int) 0 aj c
def bP:Nat->Bool->Option Dt
 |0,_=>none
 |m+1,a=>cond a (some M6) (some M5)
def jd:Nat->Int->Int->Option Dt
 |0,_,_=>none
 |m+1,b,a=>cond (b==10) ((bP m (a==0)).bind fun c=>some c) (cond (b==11) ((bP m (a !=0)).bind fun d=>some d) (cond (b==12) ((bP m (decide (0<a))).bind fun e=>some e) (cond (b==13) ((bP m (decide (0<=a))).bind fun f=>some f) (cond (b==14) ((bP m (decide (a<0))).bind fun g=>some g) (cond (b==15) ((bP m (decide (a<=0))).bind fun h=>some h) ((bM m a).bind fun i=>some i))))))
def uI(m:Nat)(a:Q47)(c:Int)(d i:Bool)(e:List Dt)(f g:Int)(h j:Dt):Option Dt:=
 cond i (a c d true e f (wrap .i64 (g+1)) h) ((dV m j).bind fun b=>a c d b e f (wrap .i64 (g+1)) h)
def lJ(m:Nat):Nat->Int->Bool->Bool->List Dt->Int->Int->Dt->Option Dt
 |0,_,_,_,_,_,_,_=>none
 |j+1,c,k,d,e,f,b,l=>cond (b<f) ((idx e b).bind fun a=>cond k ((dV m a).bind fun g=>uI m (lJ m j) c g d e f b l a) (uI m (lJ m j) c false d e f b l a)) (cond (c==16) ((bP m k).bind fun h=>some h) ((bP m d).bind fun i=>some i))
def gI:Nat->Int->List Dt->Option Dt
 |0,_,_=>none
 |m+1,b,a=>cond (b==18) ((idx a 0).bind fun d=>(dV m d).bind fun e=>(bP m (!e)).bind fun f=>some f) (cond (b==19) ((idx a 0).bind fun g=>(dV m g).bind fun h=>cond h ((idx a 1).bind fun i=>some i) ((idx a 2).bind fun j=>some j)) (cond (b==20) ((idx a 0).bind fun k=>(gV m k).bind fun l=>cond (I l 0==2) ((idx a 1).bind fun n=>some n) ((idx a 0).bind fun c=>some c)) (lJ m (succ m) b true false a (a.length:Int) 0 aj)))
def jE:Nat->Dt->Dt->Option Bool
 |0,_,_=>none
 |m+1,a,b=>(bg m a b).bind fun c=>some (c==0)
def qJ(m:Nat)(a:List Dt)(b:Int)(c:Bool)(e:Dt):Option Dt:=
 cond c (some aj) ((idx a b).bind fun d=>some d)
def nQ(m:Nat)(b:List Dt)(a:Int)(c:Dt):Option Dt:=
 cond (a<0) (qJ m b a true c) (qJ m b a (decide ((b.length:Int)<=a)) c)
def kL:Nat->List Dt->Dt->Option Dt
 |0,_,_=>none
 |m+1,b,a=>cond (I a 0 !=3) ((cB m).bind fun c=>some c) (cond (I a 1<0) (nQ m b (wrap .i64 (I a 1+(b.length:Int))) aj) (nQ m b (I a 1) aj))
def p8(m:Nat)(b:Dt)(a:List Dt):Option Dt:=
 some (agg [int 6,int 0,str (ByteArray.mk (List.toArray [])),lst a,lst []])
def kC(m:Nat):Nat->Int->Int->Dt->List Dt->Option Dt
 |0,_,_,_,_=>none
 |f+1,b,c,e,a=>cond (b<c) ((inL a c).bind fun k=>(a[c.toNat]?).bind fun d=>(inL a b).bind fun l=>(a[b.toNat]?).bind fun g=>(inL a b).bind fun n=>(a[b.toNat]?).bind fun h=>(inL (List.set a b.toNat d) c).bind fun i=>((List.set a b.toNat d)[c.toNat]?).bind fun j=>kC m f (wrap .i64 (b+1)) (wrap .i64 (c-1)) e (List.set (List.set a b.toNat d) c.toNat g)) (p8 m e a)
def jI(m:Nat):Nat->Int->List Dt->Int->Int->Dt->Option Dt
 |0,_,_,_,_,_=>none
 |a+1,d,e,f,c,h=>bif c<f then(idx e c).bind fun b=>cond (I b 0==3) (jI m a (wrap .i64 (d+I b 1)) e f (wrap .i64 (c+1)) h) (jI m a d e f (wrap .i64 (c+1)) h)else(bM m d).bind fun g=>some g
def mI(m:Nat):Nat->List Dt->List Dt->Int->Int->Dt->Option Dt
 |0,_,_,_,_,_=>none
 |a+1,h,i,j,b,k=>bif b<j then(idx i b).bind fun c=>(idx h 0).bind fun d=>(jE m c d).bind fun e=>cond e ((bP m true).bind fun f=>some f) (mI m a h i j (wrap .i64 (b+1)) k)else(bP m false).bind fun g=>some g
def u6(m:Nat)(b:Int)(f:List Dt)(c:Dt)(a:List Dt):Option Dt:=
 cond (b==26) ((bM m (a.length:Int)).bind fun g=>some g) (cond (b==30) (kC m (succ m) 0 (wrap .i64 ((a.length:Int)-1)) c a) (cond (b==31) (jI m (succ m) 0 a (a.length:Int) 0 c) (cond (b==28) (mI m (succ m) f a (a.length:Int) 0 c) (cond (b==27) ((idx f 1).bind fun d=>(kL m a d).bind fun e=>some e) (p8 m c a)))))
def nR(m:Nat):Nat->Int->List Dt->List Dt->Int->Int->Dt->List Dt->Option Dt
 |0,_,_,_,_,_,_,_=>none
 |i+1,b,c,d,e,a,f,g=>cond (a<e) ((idx d a).bind fun h=>cond (I h 0 !=6) ((cB m).bind fun j=>some j) ((app g (L h 3)).bind fun k=>nR m i b c d e (wrap .i64 (a+1)) f k)) (u6 m b c f g)
def fu(m:Nat)(b:Int)(c a:List Dt)(d:Dt):Option Dt:=
 nR m (succ m) b c a (a.length:Int) 0 d []
def dI:Nat->Int->List Dt->Option Dt
 |0,_,_=>none
 |m+1,b,a=>cond (b==27) ((cutL a 0 1).bind fun d=>fu m b a d aj) (cond (b==28) ((cutL a 1 (a.length:Int)).bind fun c=>fu m b a c aj) (fu m b a a aj))
def DT(m:Nat)(a:Q12):Nat->List Dt->Int->Int->Int->Int->Option (Int×Int)
 |0,_,_,_,_,_=>none
 |h+1,d,e,c,f,g=>cond (c<e) ((idx d c).bind fun i=>(a i f g).bind fun b=>cond (!b.1) (some (b.2.1,b.2.2)) (DT m a h d e (wrap .i64 (c+1)) b.2.1 b.2.2)) (some (f,g))
def DU(m:Nat)(a:Q12):Nat->List Dt->Int->Int->Int->Int->Option (Int×Int)
 |0,_,_,_,_,_=>none
 |h+1,d,e,c,f,g=>cond (c<e) ((idx d c).bind fun i=>(a (fld i 1) f g).bind fun b=>cond (!b.1) (some (b.2.1,b.2.2)) (DU m a h d e (wrap .i64 (c+1)) b.2.1 b.2.2)) (some (f,g))
mutual
def kM:Nat->Dt->Int->Option Int
 |0,_,_=>none
 |m+1,b,a=>cond (1==a) (some 1) ((i127 m b 1 a).bind fun c=>some c.1)
def i127:Nat->Dt->Int->Int->Option (Int×Int)
 |0,_,_,_=>none
 |m+1,a,b,c=>cond (I a 0==6) (DT m (Fe m) (succ m) (L a 3) ((L a 3).length:Int) 0 b c) (cond (I a 0==5) (DU m (Fe m) (succ m) (L a 4) ((L a 4).length:Int) 0 b c) (some (b,c)))
def Fe:Nat->Dt->Int->Int->Option (Bool×Int×Int)
 |0,_,_,_=>none
 |m+1,d,a,b=>(kM m d (wrap .i64 (b-a))).bind fun c=>some (decide (wrap .i64 (a+c)<b),wrap .i64 (a+c),b)
end
def ng:Nat->Dt->Option Int
 |0,_=>none
 |m+1,a=>(kM m a 1025).bind fun b=>some b
def DV(m:Nat)(a:Q12):Nat->List Dt->Int->Int->Int->Int->Option (Int×Int)
 |0,_,_,_,_,_=>none
 |h+1,d,e,c,f,g=>cond (c<e) ((idx d c).bind fun i=>(a i f g).bind fun b=>cond (!b.1) (some (b.2.1,b.2.2)) (DV m a h d e (wrap .i64 (c+1)) b.2.1 b.2.2)) (some (f,g))
def DW(m:Nat)(a:Q12):Nat->List Dt->Int->Int->Int->Int->Option (Int×Int)
 |0,_,_,_,_,_=>none
 |h+1,d,e,c,f,g=>cond (c<e) ((idx d c).bind fun i=>(a (fld i 1) f g).bind fun b=>cond (!b.1) (some (b.2.1,b.2.2)) (DW m a h d e (wrap .i64 (c+1)) b.2.1 b.2.2)) (some (f,g))
mutual
def kN:Nat->Dt->Int->Option Int
 |0,_,_=>none
 |m+1,b,a=>cond (a==1) (some 1) ((agI m b 0 a).bind fun c=>some (wrap .i64 (1+c.1)))
def agI:Nat->Dt->Int->Int->Option (Int×Int)
 |0,_,_,_=>none
 |m+1,a,b,c=>cond (I a 0==6) (DV m (i130 m) (succ m) (L a 3) ((L a 3).length:Int) 0 b c) (cond (I a 0==5) (DW m (i130 m) (succ m) (L a 4) ((L a 4).length:Int) 0 b c) (some (b,c)))
def i130:Nat->Dt->Int->Int->Option (Bool×Int×Int)
 |0,_,_,_=>none
 |m+1,d,a,c=>(kN m d (wrap .i64 (c-1))).bind fun b=>some (decide (cond (a<b) b a<wrap .i64 (c-1)),cond (a<b) b a,c)
end
def ni:Nat->Dt->Option Int
 |0,_=>none
 |m+1,a=>(kN m a 17).bind fun b=>some b
def nk(m:Nat):Nat->ByteArray->Int->Dt->Option Int
 |0,_,_,_=>none
 |d+1,c,a,b=>bif a<((L b 4).length:Int)then(idx (L b 4) a).bind fun e=>cond ((S e 0).toList==c.toList) (some a) (nk m d c (wrap .i64 (a+1)) b)else some (-1)
def mJ:Nat->Dt->ByteArray->Option Int
 |0,_,_=>none
 |m+1,a,b=>cond (I a 0 !=5) (some (-1)) (nk m (succ m) b 0 a)
def qZ:Nat->Dt->ByteArray->Option (Dt×Bool)
 |0,_,_=>none
 |m+1,a,c=>(mJ m a c).bind fun b=>cond (b<0) (some (aj,false)) ((idx (L a 4) b).bind fun d=>some (fld d 1,true))
def ru(m:Nat)(a:Q10):Nat->List Dt->Int->Dt->Dt->Int->Int->ByteArray->List Dt->List Dt->Option Dt
 |0,_,_,_,_,_,_,_,_,_=>none
 |j+1,d,b,c,k,e,f,g,h,i=>bif b<((L c 3).length:Int)then(idx (L c 3) b).bind fun n=>(a n d).bind fun l=>cond (I l 0 !=0) ((app h [l]).bind fun o=>ru m a j d (wrap .i64 (b+1)) c k e f g o i) (ru m a j d (wrap .i64 (b+1)) c k e f g h i)else some (agg [int e,int f,str g,lst h,lst i])
def xX(m:Nat)(a:Q10)(b:List Dt)(c e:Dt):Option Dt:=
 cond (I c 0==5) ((idx b 0).bind fun f=>(qZ m c (toStr f)).bind fun d=>cond d.2 ((cutL b 1 (b.length:Int)).bind fun g=>(a d.1 g).bind fun h=>some h) (some aj)) (cond (I c 0==6) (ru m a (succ m) b 0 c e 6 0 (ByteArray.mk (List.toArray [])) [] []) (some aj))
def gW:Nat->Dt->List Dt->Option Dt
 |0,_,_=>none
 |m+1,a,b=>cond ((b.length:Int)==0) (some a) (xX m (gW m) b a aj)
def o8(m:Nat):Nat->List Dt->Int->Int->Option Bool
 |0,_,_,_=>none
 |d+1,a,c,b=>bif b<(a.length:Int)then(idx a b).bind fun e=>cond (I e 0 !=c) (some false) (o8 m d a c (wrap .i64 (b+1)))else some true
def iP:Nat->List Dt->Int->Option Bool
 |0,_,_=>none
 |m+1,a,b=>o8 m (succ m) a b 0
def nS(m:Nat):Nat->List Dt->ByteArray->Int->Dt->Option Dt
 |0,_,_,_,_=>none
 |f+1,b,a,c,g=>cond (c<(b.length:Int)) (bif (a.size:Int)<=4096 then(idx b c).bind fun e=>cond (Nat.ble (a.size+(S e 2).size) 1152921504606846976) (nS m f b (a++S e 2) (wrap .i64 (c+1)) g) none else(jR m a).bind fun d=>some d) ((jR m a).bind fun d=>some d)
def kP:Nat->List Dt->Option Dt
 |0,_=>none
 |m+1,a=>(iP m a 4).bind fun b=>cond (!b) ((bZ m).bind fun c=>some c) (nS m (succ m) a (ByteArray.mk (List.toArray [])) 0 aj)
def qz(m:Nat):Nat->List Dt->Int->Dt->Int->Int->ByteArray->List Dt->List Dt->Option Dt
 |0,_,_,_,_,_,_,_,_=>none
 |h+1,a,b,i,c,d,e,f,g=>cond (b<(a.length:Int)) ((idx a b).bind fun j=>(app f (L j 3)).bind fun k=>qz m h a (wrap .i64 (b+1)) i c d e k g) (some (agg [int c,int d,str e,lst f,lst g]))
def o9:Nat->List Dt->Option Dt
 |0,_=>none
 |m+1,a=>(iP m a 6).bind fun b=>cond (!b) ((bZ m).bind fun c=>some c) (qz m (succ m) a 0 aj 6 0 (ByteArray.mk (List.toArray [])) [] [])
def kQ(m:Nat)(a:Int)(b:Bool):Option Int:=
 cond b (some (wrap .i64 (a-1))) (some a)
def eO:Nat->Int->Int->Option Int
 |0,_,_=>none
 |m+1,b,a=>cond (a==(-1)) (some (wrap .i64 (0-b))) (cond (a=0) none (cond (a=0) none (cond (Int.tmod b a !=0) (cond (a=0) none (kQ m (wrap .i64 (Int.tdiv b a)) (!decide (Int.tmod b a<0)==decide (a<0)))) (kQ m (wrap .i64 (Int.tdiv b a)) false))))
def Bq(m:Nat)(c:Int)(a:List Dt)(i:Int)(p:Dt):Option Dt:=
 cond (c==5) ((idx a 0).bind fun j=>(idx a 1).bind fun k=>(dP m (wrap .i64 (I j 1-I k 1))).bind fun b=>some b) (cond (c==7) ((idx a 0).bind fun l=>(idx a 1).bind fun n=>(eO m (I l 1) (I n 1)).bind fun o=>(dP m o).bind fun b=>some b) (cond (c==8) ((idx a 0).bind fun d=>(idx a 1).bind fun e=>(idx a 0).bind fun f=>(idx a 1).bind fun g=>(eO m (I f 1) (I g 1)).bind fun h=>(dP m (wrap .i64 (I d 1-wrap .i64 (I e 1*h)))).bind fun b=>some b) ((dP m i).bind fun b=>some b)))
def je(m:Nat):Nat->Int->List Dt->Int->Int->Dt->Option Dt
 |0,_,_,_,_,_=>none
 |f+1,c,a,d,b,e=>cond (b<(a.length:Int)) (cond (c==6) ((idx a b).bind fun g=>je m f c a (wrap .i64 (d*I g 1)) (wrap .i64 (b+1)) e) ((idx a b).bind fun h=>je m f c a (wrap .i64 (d+I h 1)) (wrap .i64 (b+1)) e)) (Bq m c a d e)
def jf(m:Nat)(a:Int)(b:List Dt)(d:Bool)(c:Dt):Option Dt:=
 cond d ((bZ m).bind fun e=>some e) (cond (a==6) (je m (succ m) a b 1 0 c) (je m (succ m) a b 0 0 c))
def fJ:Nat->Int->List Dt->Option Dt
 |0,_,_=>none
 |m+1,b,a=>(iP m a 3).bind fun e=>cond (!e) (jf m b a true aj) (cond (b==7) ((idx a 1).bind fun c=>jf m b a (I c 1==0) aj) (cond (b==8) ((idx a 1).bind fun d=>jf m b a (I d 1==0) aj) (jf m b a false aj)))
def jF:Nat->Dt->Dt->Option Bool
 |0,_,_=>none
 |m+1,a,b=>(bB m a b).bind fun c=>some (c==0)
def kR(m:Nat):Nat->List Dt->Int->Dt->Option Bool
 |0,_,_,_=>none
 |d+1,a,b,c=>bif b<(a.length:Int)then(idx a b).bind fun e=>(jF m e c).bind fun f=>cond f (some true) (kR m d a (wrap .i64 (b+1)) c)else some false
def jW:Nat->List Dt->Dt->Option Bool
 |0,_,_=>none
 |m+1,a,b=>kR m (succ m) a 0 b
def rY(m:Nat)(a c:Dt)(b:List Dt):Option Dt:=
 some (agg [int (I a 0),int (I a 1),str (S a 2),lst (L a 3),lst b])
def kS(m:Nat):Nat->ByteArray->Int->Int->Dt->Dt->Dt->List Dt->Option Dt
 |0,_,_,_,_,_,_,_=>none
 |i+1,g,c,b,a,d,e,f=>bif b<((L a 4).length:Int)then(idx (L a 4) b).bind fun j=>cond (b==c) ((app f [agg [str (S j 0),d]]).bind fun h=>kS m i g c (wrap .i64 (b+1)) a d e h) ((app f [j]).bind fun h=>kS m i g c (wrap .i64 (b+1)) a d e h)else cond (c<0) ((app f [agg [str g,d]]).bind fun k=>rY m a e k) (rY m a e f)
def oq:Nat->Dt->ByteArray->Dt->Option Dt
 |0,_,_,_=>none
 |m+1,a,b,c=>cond (I a 0 !=5) (some a) ((mJ m a b).bind fun d=>kS m (succ m) b d 0 a c aj [])
def mK(m:Nat)(a:Q25)(b:List Dt)(c:Int)(d e:Dt):Option Dt:=
 a b (wrap .i64 (c+1)) d e
def pq(m:Nat)(a:Q25):Nat->List Dt->Int->Int->Dt->Dt->Option Dt
 |0,_,_,_,_,_=>none
 |g+1,b,c,d,e,f=>(idx b c).bind fun h=>cond (d<((L h 4).length:Int)) ((idx b c).bind fun i=>(idx (L i 4) d).bind fun j=>(idx b c).bind fun k=>(idx (L k 4) d).bind fun l=>(oq m f (S j 0) (fld l 1)).bind fun n=>pq m a g b c (wrap .i64 (d+1)) e n) (mK m a b c e f)
def eP(m:Nat):Nat->List Dt->Int->Dt->Dt->Option Dt
 |0,_,_,_,_=>none
 |d+1,a,b,e,c=>bif b<(a.length:Int)then(idx a b).bind fun f=>cond (I f 0==0) (mK m (eP m d) a b e c) ((idx a b).bind fun g=>cond (I g 0==2) (mK m (eP m d) a b e c) ((idx a b).bind fun h=>cond (I h 0 !=5) ((bZ m).bind fun i=>some i) (pq m (eP m d) (succ m) a b 0 e c)))else some c
def nu:Nat->List Dt->Option Dt
 |0,_=>none
 |m+1,a=>eP m (succ m) a 0 aj M8
def rZ(m:Nat)(c:List Dt)(d:Bool)(e:Dt):Option Dt:=
 cond d ((idx c 1).bind fun a=>some a) ((idx c 0).bind fun b=>some b)
def jX(m:Nat)(f:List Dt)(g h:Dt):Option Dt:=
 cond (I g 0==24) ((idx f 0).bind fun a=>(dP m ((S a 2).size:Int)).bind fun b=>some b) ((idx f 0).bind fun c=>(gF m (S c 2) (I g 0==23)).bind fun d=>(jR m d).bind fun e=>some e)
def CP(m:Nat)(e:List Dt)(f:Dt):Option Dt:=
 (idx e 1).bind fun a=>(idx e 0).bind fun b=>(jW m (L a 3) b).bind fun c=>(bO m c).bind fun d=>some d
def qK(m:Nat)(a:Q40)(b:List Dt)(c:Int)(d e:Dt)(f g:Int)(h:ByteArray)(i j:List Dt):Option Dt:=
 a b (wrap .i64 (c+1)) d e f g h i j
def jg(m:Nat):Nat->List Dt->Int->Dt->Dt->Int->Int->ByteArray->List Dt->List Dt->Option Dt
 |0,_,_,_,_,_,_,_,_,_=>none
 |b+1,c,a,d,o,e,f,g,h,i=>bif a<(c.length:Int)then(idx c a).bind fun j=>cond (I j 0 !=0) ((idx (L d 3) a).bind fun k=>(idx c a).bind fun l=>(app i [agg [str (toStr k),l]]).bind fun n=>qK m (jg m b) c a d o e f g h n) (qK m (jg m b) c a d o e f g h i)else some (agg [int e,int f,str g,lst h,lst i])
def nT(m:Nat):Nat->List Dt->Int->Dt->Int->Int->ByteArray->List Dt->List Dt->Option Dt
 |0,_,_,_,_,_,_,_,_=>none
 |a+1,b,c,l,g,h,i,j,k=>cond (c<(b.length:Int)) ((idx b c).bind fun d=>(nE m d).bind fun e=>(app j [e]).bind fun f=>nT m a b (wrap .i64 (c+1)) l g h i f k) (some (agg [int g,int h,str i,lst j,lst k]))
def r9(m:Nat)(a:List Dt)(b:Int)(t:Bool)(c d:Dt):Option Dt:=
 cond t ((idx a 0).bind fun e=>(lI m (I c 0) e).bind fun f=>some f) (cond (b==27) ((idx a 0).bind fun g=>(idx a 1).bind fun h=>(jD m g h).bind fun i=>some i) (cond (b==28) ((idx a 1).bind fun j=>cond (I j 0 !=6) ((bZ m).bind fun k=>some k) (CP m a d)) (cond (b==29) ((o9 m a).bind fun l=>some l) (cond (b==34) (jg m (succ m) a 0 c d 5 0 (ByteArray.mk (List.toArray [])) [] []) (cond (b==35) (nT m (succ m) a 0 d 6 0 (ByteArray.mk (List.toArray [])) [] []) (cond (b==36) ((idx a 0).bind fun n=>(dP m (I n 0)).bind fun o=>some o) (cond (b==37) ((nu m a).bind fun p=>some p) ((idx a 0).bind fun q=>(idx a 1).bind fun r=>(dS m (I c 0) q r).bind fun s=>some s))))))))
def sj(m:Nat)(b:List Dt)(a:Int)(k:Bool)(c d:Dt):Option Dt:=
 cond k ((idx b 0).bind fun e=>cond (I e 0 !=4) ((bZ m).bind fun f=>some f) (jX m b c d)) (cond (a==25) ((idx b 0).bind fun g=>(idx b 1).bind fun h=>(idx b 2).bind fun i=>(mZ m g h i).bind fun j=>some j) (cond (a==26) (r9 m b a (a==26) c d) (cond (a==30) (r9 m b a (a==30) c d) (r9 m b a (a==31) c d))))
def wJ(m:Nat)(a:List Dt)(b:Int)(g:Bool)(d c:Dt):Option Dt:=
 cond g ((mY m (I d 0) a).bind fun h=>some h) (cond (b==18) ((idx a 0).bind fun i=>(fQ m i).bind fun j=>(bO m (!j)).bind fun k=>some k) (cond (b==19) ((idx a 0).bind fun l=>(fQ m l).bind fun n=>cond n ((idx a 1).bind fun o=>some o) ((idx a 2).bind fun p=>some p)) (cond (b==20) ((idx a 0).bind fun q=>cond (I q 0==0) (rZ m a true c) ((idx a 0).bind fun e=>rZ m a (I e 0==2) c)) (cond (b==21) ((kP m a).bind fun f=>some f) (cond (b==22) (sj m a b (b==22) d c) (cond (b==23) (sj m a b (b==23) d c) (sj m a b (b==24) d c)))))))
def mM(m:Nat)(b:List Dt)(a:Int)(e:Bool)(c d:Dt):Option Dt:=
 cond e ((fJ m (I c 0) b).bind fun f=>some f) (cond (a==16) (wJ m b a (a==16) c d) (wJ m b a (a==17) c d))
def aV:Nat->Dt->List Dt->Option Dt
 |0,_,_=>none
 |m+1,a,b=>cond (I a 0==4) (mM m b (I a 0) (I a 0==4) a aj) (cond (I a 0==5) (mM m b (I a 0) (I a 0==5) a aj) (cond (I a 0==6) (mM m b (I a 0) (I a 0==6) a aj) (cond (I a 0==7) (mM m b (I a 0) (I a 0==7) a aj) (mM m b (I a 0) (I a 0==8) a aj))))
def zh(m:Nat)(a:Q6)(b:Q6)(c:Bool)(f d:Dt):Option Dt:=
 cond c ((bZ m).bind fun e=>some e) (some d)
def fG(m:Nat)(a:Q6)(b:Q6)(d c:Dt):Option Dt:=
 cond (I c 0 !=0) ((iO m c).bind fun e=>zh m a b (!e) d c) (zh m a b false d c)
def ou(m:Nat)(a:Q6)(b:Q6):Nat->List Dt->Int->Dt->Dt->Dt->Option Dt
 |0,_,_,_,_,_=>none
 |g+1,c,d,e,f,h=>bif d<(c.length:Int)then(idx c d).bind fun i=>cond ((S i 0).toList==(S e 2).toList) ((idx c d).bind fun j=>(gW m (fld j 1) (L e 1)).bind fun k=>ou m a b g c (wrap .i64 (d+1)) e f k) (ou m a b g c (wrap .i64 (d+1)) e f h)else fG m a b f h
def wK(m:Nat)(a:Q6)(b:Q6)(d e g:Dt)(f:List Dt):Option Dt:=
 (aV m d f).bind fun c=>fG m a b e c
def qA(m:Nat)(a:Q6)(b:Q6):Nat->List Dt->Int->Dt->Dt->Dt->Dt->List Dt->Option Dt
 |0,_,_,_,_,_,_,_=>none
 |j+1,e,d,c,f,g,h,i=>cond (d<((L c 6).length:Int)) ((idx (L c 6) d).bind fun k=>(a k f e).bind fun l=>(app i [l]).bind fun n=>qA m a b j e (wrap .i64 (d+1)) c f g h n) (wK m a b c g h i)
def zk(m:Nat)(b:Q6)(a:Q6)(c:List Dt)(g:Bool)(d e f h:Dt):Option Dt:=
 cond g ((a d e c).bind fun i=>fG m b a f i) (qA m b a (succ m) c 0 d e f h [])
def qB(m:Nat)(b:Q6)(a:Q73)(d:List Dt)(e:Int)(f g h i:Dt)(j k:Int)(l:ByteArray)(n c:List Dt):Option Dt:=
 a d (wrap .i64 (e+1)) f g h i j k l n c
def jG(m:Nat)(a:Q6):Nat->List Dt->Int->Dt->Dt->Dt->Dt->Int->Int->ByteArray->List Dt->List Dt->Option Dt
 |0,_,_,_,_,_,_,_,_,_,_,_=>none
 |l+1,f,c,d,g,n,e,h,i,j,k,b=>bif c<((L e 3).length:Int)then(app [] f).bind fun s=>(idx (L e 3) c).bind fun t=>(app s [agg [str (S d 2),t]]).bind fun u=>(idx (L d 6) 1).bind fun v=>(a v g u).bind fun r=>cond (I d 0==32) ((nE m r).bind fun w=>(app k [w]).bind fun x=>qB m a (jG m a l) f c d g n e h i j x b) ((fQ m r).bind fun o=>cond o ((idx (L e 3) c).bind fun p=>(app k [p]).bind fun q=>qB m a (jG m a l) f c d g n e h i j q b) (qB m a (jG m a l) f c d g n e h i j k b))else some (agg [int h,int i,str j,lst k,lst b])
mutual
def bI:Nat->Dt->Dt->List Dt->Option Dt
 |0,_,_,_=>none
 |m+1,a,b,c=>cond (I a 0==1) (fG m (bI m) (dD m) aj (fld a 4)) (cond (I a 0==2) ((gW m b (L a 1)).bind fun d=>fG m (bI m) (dD m) aj d) (cond (I a 0==3) (ou m (bI m) (dD m) (succ m) c 0 a aj aj) (cond (I a 0==32) (zk m (bI m) (dD m) c (I a 0==32) a b aj aj) (zk m (bI m) (dD m) c (I a 0==33) a b aj aj))))
def dD:Nat->Dt->Dt->List Dt->Option Dt
 |0,_,_,_=>none
 |m+1,a,b,c=>(idx (L a 6) 0).bind fun e=>(bI m e b c).bind fun d=>cond (I d 0 !=6) ((bZ m).bind fun f=>some f) (jG m (bI m) (succ m) c 0 a b aj d 6 0 (ByteArray.mk (List.toArray [])) [] [])
end
def pz:Nat->Dt->Dt->Option Dt
 |0,_,_=>none
 |m+1,a,c=>(gU m a).bind fun d=>cond (d !=0) (some aj) ((bI m a c []).bind fun b=>cond (I b 0==0) (some aj) (some b))
def vQ:Nat->Dt->Dt->Option Dt
 |0,_,_=>none
 |m+1,b,c=>(pz m b c).bind fun a=>cond (I a 0==0) (some nC) (some a)
def pF(m:Nat)(a:Q24):Nat->List Dt->Int->Int->Dt->Int->Int->ByteArray->List Dt->List Dt->Option (Int×Int×ByteArray×List Dt×List Dt)
 |0,_,_,_,_,_,_,_,_,_=>none
 |l+1,e,f,b,n,g,h,i,j,d=>cond (b<f) ((idx e b).bind fun k=>(a (fld k 1)).bind fun c=>(inL d b).bind fun o=>(d[b.toNat]?).bind fun p=>pF m a l e f (wrap .i64 (b+1)) n g h i j (List.set d b.toNat (agg [str (S k 0),agg [int c.1,int c.2.1,str c.2.2.1,lst c.2.2.2.1,lst c.2.2.2.2]]))) (some (g,h,i,j,d))
def jY(m:Nat)(a:Q24)(b g:Dt)(c d:Int)(e:ByteArray)(f h:List Dt):Option (Int×Int×ByteArray×List Dt×List Dt):=
 cond (0<((L b 4).length:Int)) ((mkL ((L b 4).length:Int) ((L b 4).length:Int) DN).bind fun i=>pF m a (succ m) (L b 4) ((L b 4).length:Int) 0 g c d e f i) (some (c,d,e,f,h))
def mO(m:Nat)(a:Q24):Nat->List Dt->Int->Int->Dt->Dt->Int->Int->ByteArray->List Dt->List Dt->Option (Int×Int×ByteArray×List Dt×List Dt)
 |0,_,_,_,_,_,_,_,_,_,_=>none
 |n+1,e,f,b,g,h,i,j,k,d,l=>cond (b<f) ((idx e b).bind fun o=>(a o).bind fun c=>(inL d b).bind fun p=>(d[b.toNat]?).bind fun q=>mO m a n e f (wrap .i64 (b+1)) g h i j k (List.set d b.toNat (agg [int c.1,int c.2.1,str c.2.2.1,lst c.2.2.2.1,lst c.2.2.2.2])) l) (jY m a g h i j k d l)
def dw:Nat->Dt->Option (Int×Int×ByteArray×List Dt×List Dt)
 |0,_=>none
 |m+1,a=>bif 0<((L a 3).length:Int)then(mkL ((L a 3).length:Int) ((L a 3).length:Int) aj).bind fun b=>mO m (dw m) (succ m) (L a 3) ((L a 3).length:Int) 0 a aj (I a 0) (I a 1) (S a 2) b []else jY m (dw m) a aj (I a 0) (I a 1) (S a 2) [] []
def qC(m:Nat):Nat->ByteArray->Int->Int->Dt->Option Int
 |0,_,_,_,_=>none
 |e+1,b,c,a,d=>cond (a<c) ((idx (L d 4) a).bind fun f=>cond ((S f 0).toList==b.toList) (some a) (qC m e b c (wrap .i64 (a+1)) d)) (some (-1))
def qQ:Nat->Dt->ByteArray->Option Int
 |0,_,_=>none
 |m+1,a,b=>cond (I a 0 !=5) (some (-1)) (qC m (succ m) b ((L a 4).length:Int) 0 a)
def GI(m:Nat)(i:ByteArray)(j n:Dt)(e f:Int)(g:ByteArray)(h a:List Dt):Option Dt:=
 (qQ m (agg [int e,int f,str g,lst h,lst a]) i).bind fun d=>bif 0<=d then(dw m j).bind fun b=>(inL a d).bind fun o=>(a[d.toNat]?).bind fun k=>some (agg [int e,int f,str g,lst h,lst (List.set a d.toNat (agg [str (S k 0),agg [int b.1,int b.2.1,str b.2.2.1,lst b.2.2.2.1,lst b.2.2.2.2]]))])else(dw m j).bind fun c=>(app a [agg [str i,agg [int c.1,int c.2.1,str c.2.2.1,lst c.2.2.2.1,lst c.2.2.2.2]]]).bind fun l=>some (agg [int e,int f,str g,lst h,lst l])
def tN:Nat->Dt->ByteArray->Dt->Option Dt
 |0,_,_,_=>none
 |m+1,b,c,d=>(dw m b).bind fun a=>cond (a.1 !=5) (some (agg [int a.1,int a.2.1,str a.2.2.1,lst a.2.2.2.1,lst a.2.2.2.2])) (GI m c d aj a.1 a.2.1 a.2.2.1 a.2.2.2.1 a.2.2.2.2)
def qD(m:Nat)(a:Q22)(b:Bool)(c:List Dt)(d e:Int)(f g:Dt):Option Dt:=
 a b c d (wrap .i64 (e+1)) f g
def wL(m:Nat)(a:Q22)(c:Bool)(d:List Dt)(e f:Int)(g b:Dt):Option Dt:=
 cond (1024<((L b 4).length:Int)) ((cB m).bind fun h=>some h) (qD m a c d e f g b)
def qE(m:Nat)(a:Q22):Nat->Bool->List Dt->Int->Int->List Dt->Int->Int->Dt->Dt->Option Dt
 |0,_,_,_,_,_,_,_,_,_=>none
 |l+1,c,d,e,f,g,h,b,i,j=>cond (b<h) ((idx g b).bind fun k=>(tN m j (S k 0) (fld k 1)).bind fun n=>qE m a l c d e f g h (wrap .i64 (b+1)) i n) (wL m a c d e f i j)
def uJ(m:Nat)(a:Q22)(b:Bool)(c:List Dt)(d e i:Int)(j:Bool)(f h g:Dt):Option Dt:=
 cond j (qD m a b c d e f h) (cond (i==5) (cond b (qD m a false c d e f g) (qE m a (succ m) b c d e (L g 4) ((L g 4).length:Int) 0 f h)) ((cB m).bind fun k=>some k))
def gG(m:Nat):Nat->Bool->List Dt->Int->Int->Dt->Dt->Option Dt
 |0,_,_,_,_,_,_=>none
 |f+1,g,c,d,b,h,e=>cond (b<d) ((idx c b).bind fun a=>cond (I a 0==0) (uJ m (gG m f) g c d b (I a 0) (I a 0==0) h e a) (uJ m (gG m f) g c d b (I a 0) (I a 0==2) h e a)) (some e)
def pG:Nat->List Dt->Option Dt
 |0,_=>none
 |m+1,a=>gG m (succ m) true a (a.length:Int) 0 aj M8
def fK(m:Nat)(a:Q28)(b:ByteArray)(c d:Int)(e:Bool):Option Bool:=
 cond e (some false) (a b c (wrap .i64 (d+1)))
def fM(m:Nat):Nat->ByteArray->Int->Int->Option Bool
 |0,_,_,_=>none
 |d+1,b,c,a=>cond (a<c) ((idxS b a).bind fun e=>cond (e<33) (fK m (fM m d) b c a true) ((idxS b a).bind fun f=>cond (126<f) (fK m (fM m d) b c a true) ((idxS b a).bind fun g=>fK m (fM m d) b c a (g==46)))) (some true)
def fO(m:Nat)(a:ByteArray)(b:Bool):Option Bool:=
 cond b (some false) (fM m (succ m) a (a.size:Int) 0)
def nJ:Nat->ByteArray->Option Bool
 |0,_=>none
 |m+1,a=>cond ((a.size:Int)<1) (fO m a true) (cond (32<(a.size:Int)) (fO m a true) ((idxS a 0).bind fun b=>fO m a (b==36)))
def mP(m:Nat)(a:Q8)(b:Q16):Nat->List Dt->Int->Int->Option Bool
 |0,_,_,_=>none
 |f+1,d,e,c=>cond (c<e) ((idx d c).bind fun g=>(a g).bind fun h=>cond (!h) (some false) (mP m a b f d e (wrap .i64 (c+1)))) (some true)
def su(m:Nat)(b:Q8)(a:Q16)(c:List Dt)(d e:Int):Option Bool:=
 mP m b a (succ m) c d e
def fH(m:Nat)(c:Q8)(a:Q16)(d:Int)(e:Bool)(b:Dt):Option Bool:=
 cond e (some true) (cond (d==9) (cond (I b 1==0) (some true) (some (I b 1==1))) (cond (d==10) (some (decide (0<=I b 1))) (cond (d==4) (cond (((S b 2).size:Int)<=4096) ((utf8_ValidString (S b 2)).bind fun f=>some f) (some false)) (cond (d==7) (some (decide (((S b 2).size:Int)<=4096))) (cond (d==8) (some (((S b 2).size:Int)==12)) (cond (d==6) (su m c a (L b 3) ((L b 3).length:Int) 0) (cond (d==5) ((a (L b 4)).bind fun g=>some g) (some false))))))))
def mQ(m:Nat)(b:Q8)(a:Q16)(c:Dt):Option Bool:=
 cond (I c 0==1) (fH m b a (I c 0) (I c 0==1) c) (cond (I c 0==2) (fH m b a (I c 0) (I c 0==2) c) (cond (I c 0==11) (fH m b a (I c 0) (I c 0==11) c) (fH m b a (I c 0) (I c 0==3) c)))
def gJ(m:Nat)(b:Q8)(a:Q16)(c:Bool)(d:Dt):Option Bool:=
 cond c (some false) (mQ m b a d)
def mR(m:Nat)(b:Q8)(a:Q16)(c:Dt):Option Bool:=
 cond (I c 0 !=6) (cond (0<((L c 3).length:Int)) (gJ m b a true c) (cond (I c 0 !=5) (gJ m b a (decide (0<((L c 4).length:Int))) c) (gJ m b a false c))) (cond (I c 0 !=5) (gJ m b a (decide (0<((L c 4).length:Int))) c) (gJ m b a false c))
def gK(m:Nat)(b:Q8)(a:Q16)(c:Bool)(d:Dt):Option Bool:=
 cond c (some false) (mR m b a d)
def gL(m:Nat)(b:Q8)(a:Q16)(e d:Bool)(c:Dt):Option Bool:=
 cond (!e) (cond (I c 1 !=0) (gK m b a true c) (cond (!d) (gK m b a (!(S c 2).toList==[]) c) (gK m b a false c))) (cond (!d) (gK m b a (!(S c 2).toList==[]) c) (gK m b a false c))
def gM(m:Nat)(b:Q8)(a:Q16)(d:Bool)(c:Dt):Option Bool:=
 cond (I c 0==4) (gL m b a d true c) (cond (I c 0==7) (gL m b a d true c) (gL m b a d (I c 0==8) c))
def eU(m:Nat)(b:Q8)(a:Q23)(c:List Dt)(d e:Int)(f:Bool)(g:List Dt)(h:Dt):Option Bool:=
 cond f (some false) (a c d (wrap .i64 (e+1)) (mput g (S h 0) (bool true)))
def dW(m:Nat)(a:Q8):Nat->List Dt->Int->Int->List Dt->Option Bool
 |0,_,_,_,_=>none
 |g+1,d,e,c,f=>cond (c<e) ((idx d c).bind fun b=>(nJ m (S b 0)).bind fun h=>cond (!h) (eU m a (dW m a g) d e c true f b) (cond (Dt.toBool (mgetD f (S b 0) (bool false))) (eU m a (dW m a g) d e c true f b) ((a (fld b 1)).bind fun i=>eU m a (dW m a g) d e c (!i) f b))) (some true)
mutual
def bJ:Nat->Dt->Option Bool
 |0,_=>none
 |m+1,a=>cond (I a 0==3) (gM m (bJ m) (bH m) true a) (cond (I a 0==9) (gM m (bJ m) (bH m) true a) (gM m (bJ m) (bH m) (I a 0==10) a))
def bH:Nat->List Dt->Option Bool
 |0,_=>none
 |m+1,a=>dW m (bJ m) (succ m) a (a.length:Int) 0 []
end
def kU:Nat->Dt->Option Bool
 |0,_=>none
 |m+1,a=>(ng m a).bind fun b=>cond (b<=1024) ((ni m a).bind fun c=>cond (c<=16) ((bJ m a).bind fun d=>some d) (some false)) (some false)
def nU(m:Nat)(a:Q3)(b:Q3):Nat->Dt->Dt->Dt->Option Dt
 |0,_,_,_=>none
 |e+1,c,d,f=>cond (!List.isEmpty (toLst c)) ((idx (toLst c) 0).bind fun g=>bif (S g 0).toList==(S d 2).toList then(idx (toLst c) 0).bind fun h=>(bU m (fld h 1) (L d 1)).bind fun i=>some i else(idx (toLst c) 0).bind fun j=>nU m a b e (fld j 2) d f) (some aj)
def iA(m:Nat)(b:Q3)(c:Q3)(i:Int)(k:Bool)(j n:Dt)(a:List Dt):Option Dt:=
 cond k ((dI m (I j 0) a).bind fun d=>some d) (cond (i==36) ((inL a 0).bind fun l=>(a[0]?).bind fun e=>(bM m (I e 0)).bind fun f=>some f) (cond (i==37) ((pG m a).bind fun g=>some g) ((dY m j a).bind fun h=>some h)))
def jJ(m:Nat)(a:Q3)(b:Q3)(c:Int)(h:Bool)(d f:Dt)(e:List Dt):Option Dt:=
 cond h ((dU (I d 0) e).bind fun g=>some g) (cond (c==26) (iA m a b c (c==26) d f e) (cond (c==30) (iA m a b c (c==30) d f e) (cond (c==31) (iA m a b c (c==31) d f e) (cond (c==29) (iA m a b c (c==29) d f e) (cond (c==27) (iA m a b c (c==27) d f e) (iA m a b c (c==28) d f e))))))
def jK(m:Nat)(a:Q3)(b:Q3)(c:Int)(h:Bool)(d f:Dt)(e:List Dt):Option Dt:=
 cond h ((gI m (I d 0) e).bind fun g=>some g) (cond (c==21) (jJ m a b c (c==21) d f e) (cond (c==22) (jJ m a b c (c==22) d f e) (cond (c==23) (jJ m a b c (c==23) d f e) (cond (c==24) (jJ m a b c (c==24) d f e) (jJ m a b c (c==25) d f e)))))
def gy(m:Nat)(a:Q3)(b:Q3)(c:Int)(k:Bool)(e f:Dt)(d:List Dt):Option Dt:=
 cond k ((inL d 0).bind fun l=>(d[0]?).bind fun g=>(inL d 1).bind fun n=>(d[1]?).bind fun h=>(bg m g h).bind fun i=>(jd m (I e 0) i).bind fun j=>some j) (cond (c==16) (jK m a b c (c==16) e f d) (cond (c==17) (jK m a b c (c==17) e f d) (cond (c==18) (jK m a b c (c==18) e f d) (cond (c==19) (jK m a b c (c==19) e f d) (jK m a b c (c==20) e f d)))))
def jL(m:Nat)(a:Q3)(b:Q3)(c:Int)(h:Bool)(d f:Dt)(e:List Dt):Option Dt:=
 cond h ((dO m (I d 0) e).bind fun g=>some g) (cond (c==9) (gy m a b c (c==9) d f e) (cond (c==10) (gy m a b c (c==10) d f e) (cond (c==11) (gy m a b c (c==11) d f e) (cond (c==12) (gy m a b c (c==12) d f e) (cond (c==13) (gy m a b c (c==13) d f e) (cond (c==14) (gy m a b c (c==14) d f e) (gy m a b c (c==15) d f e)))))))
def aK(m:Nat)(a:Q3)(b:Q3)(c d:Dt)(e:List Dt):Option Dt:=
 cond (I c 0==4) (jL m a b (I c 0) (I c 0==4) c d e) (cond (I c 0==5) (jL m a b (I c 0) (I c 0==5) c d e) (cond (I c 0==6) (jL m a b (I c 0) (I c 0==6) c d e) (cond (I c 0==7) (jL m a b (I c 0) (I c 0==7) c d e) (jL m a b (I c 0) (I c 0==8) c d e))))
def nV(m:Nat)(a:Q3)(b:Q3):Nat->Dt->List Dt->Int->Int->Dt->Dt->Dt->List Dt->Option Dt
 |0,_,_,_,_,_,_,_,_=>none
 |k+1,e,f,g,c,h,i,j,d=>cond (c<g) ((idx f c).bind fun l=>(a l i e).bind fun n=>(inL d c).bind fun p=>(d[c.toNat]?).bind fun o=>nV m a b k e f g (wrap .i64 (c+1)) h i j (List.set d c.toNat n)) (aK m a b h j d)
def u7(m:Nat)(b:Q3)(a:Q3)(d:Dt)(f:Bool)(c e g:Dt):Option Dt:=
 cond f ((a c e d).bind fun h=>some h) ((mkL ((L c 6).length:Int) ((L c 6).length:Int) aj).bind fun i=>nV m b a (succ m) d (L c 6) ((L c 6).length:Int) 0 c e g i)
def sw(m:Nat)(b:Q3)(a:Q79)(e:Dt)(f:List Dt)(g h:Int)(i j k:Dt)(l n:Int)(o:ByteArray)(c d:List Dt):Option Dt:=
 a e f g (wrap .i64 (h+1)) i j k l n o c d
def kW(m:Nat)(a:Q3):Nat->Dt->List Dt->Int->Int->Dt->Dt->Dt->Int->Int->ByteArray->List Dt->List Dt->Option Dt
 |0,_,_,_,_,_,_,_,_,_,_,_,_=>none
 |n+1,f,g,h,e,d,i,o,j,k,l,b,c=>cond (e<h) ((idx g e).bind fun p=>(idx (L d 6) 1).bind fun r=>(a r i (lst [agg [str (S d 2),p,f]])).bind fun q=>cond (I d 0==32) ((gV m q).bind fun s=>(app b [s]).bind fun t=>sw m a (kW m a n) f g h e d i o j k l t c) ((dV m q).bind fun u=>cond u ((app b [p]).bind fun v=>sw m a (kW m a n) f g h e d i o j k l v c) (sw m a (kW m a n) f g h e d i o j k l b c))) (some (agg [int j,int k,str l,lst b,lst c]))
mutual
def cK:Nat->Dt->Dt->Dt->Option Dt
 |0,_,_,_=>none
 |m+1,b,c,d=>(fA m b c d).bind fun a=>cond (I a 0==0) (some aj) ((kU m a).bind fun e=>cond (!e) ((cB m).bind fun f=>some f) (some a))
def fA:Nat->Dt->Dt->Dt->Option Dt
 |0,_,_,_=>none
 |m+1,a,b,c=>cond (I a 0==1) (some (fld a 4)) (cond (I a 0==2) ((bU m b (L a 1)).bind fun d=>some d) (cond (I a 0==3) (nU m (cK m) (d9 m) (succ m) c a aj) (cond (I a 0==32) (u7 m (cK m) (d9 m) c (I a 0==32) a b aj) (u7 m (cK m) (d9 m) c (I a 0==33) a b aj))))
def d9:Nat->Dt->Dt->Dt->Option Dt
 |0,_,_,_=>none
 |m+1,b,c,d=>(idx (L b 6) 0).bind fun e=>(cK m e c d).bind fun a=>cond (I a 0 !=6) ((cB m).bind fun f=>some f) (kW m (cK m) (succ m) d (L a 3) ((L a 3).length:Int) 0 b c aj 6 0 (ByteArray.mk (List.toArray [])) [] [])
end
def jZ(m:Nat)(a:Bool):Option Int:=
 cond a (some 4) (some 0)
def qR(m:Nat)(a:Dt):Option Int:=
 cond (I a 0 !=1) ((oU m (fld a 4)).bind fun b=>cond (!b) (jZ m true) (jZ m (I a 5 !=0))) (jZ m (I a 5 !=0))
def dh(m:Nat)(a:Bool)(b:Dt):Option Int:=
 cond a (some 4) (qR m b)
def qU(m:Nat)(c b:Bool)(a:Dt):Option Int:=
 cond (!c) (cond (0<((L a 1).length:Int)) (dh m true a) (cond (!b) (cond (!(S a 2).toList==[]) (dh m true a) (cond (I a 0 !=34) (dh m (decide (0<((L a 3).length:Int))) a) (dh m false a))) (cond (I a 0 !=34) (dh m (decide (0<((L a 3).length:Int))) a) (dh m false a)))) (cond (!b) (cond (!(S a 2).toList==[]) (dh m true a) (cond (I a 0 !=34) (dh m (decide (0<((L a 3).length:Int))) a) (dh m false a))) (cond (I a 0 !=34) (dh m (decide (0<((L a 3).length:Int))) a) (dh m false a)))
def nK(m:Nat)(a b c:Bool)(d:Dt):Option Int:=
 cond c (some 8) (qU m a b d)
def sF(m:Nat)(b c:Bool)(a:Dt):Option Int:=
 cond (I a 0==1) ((kU m (fld a 4)).bind fun d=>nK m b c (!d) a) (nK m b c false a)
def gP(m:Nat)(a b c:Bool)(d:Dt):Option Int:=
 cond c (some 9) (sF m a b d)
def sG(m:Nat)(c b:Bool)(a:Dt):Option Int:=
 cond b ((kK m (S a 2)).bind fun d=>cond (!d) (gP m c b true a) (cond (I a 0==34) ((eH m (L a 3)).bind fun e=>gP m c b (!e) a) (gP m c b false a))) (cond (I a 0==34) ((eH m (L a 3)).bind fun f=>gP m c b (!f) a) (gP m c b false a))
def iU(m:Nat)(a b c:Bool)(d:Dt):Option Int:=
 cond c (some 10) (sG m a b d)
def kX(m:Nat)(b c:Bool)(a:Dt):Option Int:=
 cond b ((nH m (L a 1)).bind fun d=>cond (!d) (cond (I a 0==2) (iU m b c true a) (iU m b c (decide (0<((L a 1).length:Int))) a)) (iU m b c false a)) (iU m b c false a)
def oD(m:Nat)(b:Bool)(a:Dt):Option Int:=
 cond (I a 0==3) (kX m b true a) ((oV m (I a 0)).bind fun c=>kX m b (c==3) a)
def oF(m:Nat)(b:Bool)(a:Dt):Option Int:=
 cond b (some 11) (cond (I a 0==2) (oD m true a) (oD m (I a 0==3) a))
def kY(m:Nat)(b:Bool)(a:Dt):Option Int:=
 cond b (some 11) (cond (I a 0==34) (oF m (((L a 6).length:Int) !=((L a 3).length:Int)) a) (oF m false a))
def j3:Nat->Dt->Option Int
 |0,_=>none
 |m+1,a=>cond (I a 0<1) (kY m true a) (cond (37<I a 0) (kY m true a) ((oV m (I a 0)).bind fun b=>(pW m b ((L a 6).length:Int)).bind fun c=>kY m (!c) a))
def abN(m:Nat)(b:Q9)(a:Q80)(c:Int)(d:List Dt)(e f g:Int):Option (Int×Int):=
 a c d e (wrap .i64 (f+1)) g
def Jv(m:Nat)(a:Q9):Nat->Int->List Dt->Int->Int->Int->Option (Int×Int)
 |0,_,_,_,_,_=>none
 |h+1,d,e,f,c,g=>cond (c<f) ((idx e c).bind fun i=>(a i (wrap .i64 (d+1)) g).bind fun b=>cond (b.1 !=0) (some (b.1,b.2)) (abN m a (Jv m a h) d e f c b.2)) (some (0,g))
def VX(m:Nat)(a:Q9)(e:Int)(f:Bool)(b:Int)(c:Dt):Option (Int×Int):=
 cond f (some (2,b)) ((j3 m c).bind fun d=>cond (d !=0) (some (d,wrap .i64 (b+1))) (Jv m a (succ m) e (L c 6) ((L c 6).length:Int) 0 (wrap .i64 (b+1))))
def i52:Nat->Dt->Int->Int->Option (Int×Int)
 |0,_,_,_=>none
 |m+1,c,a,b=>cond (16<a) (VX m (i52 m) a true b c) (VX m (i52 m) a (b==256) b c)
def qV:Nat->Dt->Option Int
 |0,_=>none
 |m+1,a=>(i52 m a 1 0).bind fun b=>some b.1
def ow:Nat->Dt->Dt->Option Dt
 |0,_,_=>none
 |m+1,a,b=>(qV m a).bind fun c=>cond (c !=0) (some aj) ((cK m a b (lst [])).bind fun d=>(bK m d).bind fun e=>some e)
def aiO(m:Nat)(e:Q29)(a:Q81)(f:Int)(g:List Dt)(h i:Int)(j:List Dt)(k l:Int)(n:Dt)(o p b c:List Dt)(d:Dt):Option (List Dt×List Dt×List Dt×List Dt):=
 a f g h i j k (wrap .i64 (l+1)) n o p b c d
def abO(m:Nat)(d:Q29)(e:Q81)(a:Int)(n:List Dt)(o p:Int)(l:List Dt)(q b:Int)(r:Dt)(s c f i:List Dt)(g:Dt):Option (List Dt×List Dt×List Dt×List Dt):=
 (idx l b).bind fun t=>(c[a.toNat]?).bind fun u=>cond (lkd Option.none u) ((f[a.toNat]?).bind fun h=>(inL c a).bind fun A=>cond (Nat.beq a.toNat a.toNat) ((c[a.toNat]?).bind fun v=>cond (lkd Option.none v) ((inL c a).bind fun C=>cond (Nat.beq a.toNat a.toNat) ((c[a.toNat]?).bind fun w=>cond (lkd Option.none w) ((inL (toLst h) b).bind fun x=>((toLst h)[b.toNat]?).bind fun j=>(vP m t j g).bind fun k=>(inL (toLst h) b).bind fun y=>((toLst h)[b.toNat]?).bind fun z=>aiO m d e a n o p l q b r s c (List.set (List.set f a.toNat (lst [])) a.toNat (lst (List.set (toLst h) b.toNat k))) i g) none) none) none) none) none
def abP(m:Nat)(a:Q29)(b:List Dt)(c d:Int)(e:Dt)(f g h i:List Dt):Option (List Dt×List Dt×List Dt×List Dt):=
 a b c (wrap .i64 (d+1)) e f g h i
def CQ(m:Nat)(a:Q29):Nat->Int->List Dt->Int->Int->List Dt->Int->Int->Dt->List Dt->List Dt->List Dt->List Dt->Dt->Option (List Dt×List Dt×List Dt×List Dt)
 |0,_,_,_,_,_,_,_,_,_,_,_,_,_=>none
 |n+1,o,e,f,g,p,h,i,j,k,l,b,c,d=>cond (i<h) (abO m a (CQ m a n) o e f g p h i j k l b c d) (abP m a e f g j k l b c)
def aiP(m:Nat)(a:Q29)(e:Int)(f:List Dt)(g h:Int)(i:List Dt)(j k:Int)(l:Dt)(n o b c:List Dt)(d:Dt):Option (List Dt×List Dt×List Dt×List Dt):=
 CQ m a (succ m) e f g h i j k l n o b c d
def AR(m:Nat)(a:Q29)(d:List Dt)(e f:Int)(c:Dt)(g h i j:List Dt)(k l:Dt):Option (List Dt×List Dt×List Dt×List Dt):=
 (i17 m c l g h i j).bind fun b=>aiP m a b.1 d e f (L c 1) ((L c 1).length:Int) 0 c b.2.1 b.2.2.1 b.2.2.2.1 b.2.2.2.2 k
def abQ(m:Nat)(a:Q29)(b:List Dt)(f c:Int)(d:Dt)(g h i j:List Dt):Option (List Dt×List Dt×List Dt×List Dt):=
 (idx b c).bind fun e=>(ow m (fld d 0) e).bind fun k=>cond (I k 0==0) (AR m a b f c d g h i j e nC) (AR m a b f c d g h i j e k)
def abR(m:Nat)(a b c d:List Dt):Option (List Dt×List Dt×List Dt×List Dt):=
 some (a,b,c,d)
def Fg(m:Nat):Nat->List Dt->Int->Int->Dt->List Dt->List Dt->List Dt->List Dt->Option (List Dt×List Dt×List Dt×List Dt)
 |0,_,_,_,_,_,_,_,_=>none
 |g+1,h,a,b,i,c,d,e,f=>cond (b<a) (abQ m (Fg m g) h a b i c d e f) (abR m c d e f)
def i15:Nat->Dt->List Dt->Option (List Dt×List Dt×List Dt×List Dt)
 |0,_,_=>none
 |m+1,b,a=>Fg m (succ m) a (a.length:Int) 0 b [] [] [] []
def vR:Nat->Dt->List Dt->Option (List Dt)
 |0,_,_=>none
 |m+1,b,c=>(i15 m b c).bind fun a=>(i24 m b a.1 a.2.1 a.2.2.1 a.2.2.2).bind fun d=>some d.1
