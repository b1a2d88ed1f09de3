/- Generated: what the Go functions compute, over plain data. -/
import Derived.Test.YtmecfjhdnbgfeaaGreatDoorA4
import Derived.Test.YtmecfjhdnbgfeaaGreatDoorOK
import Derived.Test.YtmecfjhdnbgfeaaGreatDoorOLibS
import Derived.Test.YtmecfjhdnbgfeaaGreatDoorOClS
set_option linter.all false
namespace Go.Proofs.YtmecfjhdnbgfeaaGreatDoor
open Nat (succ)
open IntKind (wrap)
open Go.Am Dt
abbrev Q0:=Nat->Nat->Nat->St->Option Bool->Option Bool
abbrev Q1:=Nat->Nat->Nat->St->Option Int->Option Int
abbrev Q2:=Dt->Bool->Option Bool
abbrev Q3:=Dt->Dt->Option Int
abbrev Q4:=Dt->Option Dt
abbrev Q5:=Dt->Option Bool
abbrev Q6:=Nat->Nat->Nat->St->Option Dt->Option Dt
abbrev Q7:=ByteArray->Int->Option Bool
abbrev Q8:=Dt->Int->Int->Option (Bool×Int×Int)
abbrev Q9:=Dt->Dt->Option Bool
abbrev Q10:=List Dt->Option Bool
abbrev Q11:=List Dt->Int->Int->Int->Int->Option (Int×Int)
abbrev Q12:=Dt->Int->Option Int
abbrev Q13:=Bool->Int->Dt->Option Bool
abbrev Q14:=Dt->List Dt->Option (List Dt)
abbrev Q15:=Dt->Option Int
abbrev Q16:=List Dt->Int->Int->Option Bool
abbrev Q17:=Dt->Option ByteArray
abbrev Q18:=List Dt->Int->Dt->List Dt->List Dt->Option (List Dt×Int)
abbrev Q19:=Dt->Option (Int×Int×ByteArray×List Dt×List Dt)
abbrev Q20:=List Dt->Int->Int->Dt->Int->Int->ByteArray->List Dt->List Dt->Option Dt
abbrev Q21:=Int->List Dt->Int->Int->Option Int
abbrev Q22:=List Dt->List Dt->Option Bool
abbrev Q23:=List Dt->Int->List Dt->Dt->List Dt->Option (List Dt×List Dt)
abbrev Q24:=Nat->Nat->Nat->St->Option (List Dt)->Option (List Dt)
abbrev Q25:=Nat->Nat->Nat->St->Option (Int×Int)->Option (Int×Int)
abbrev Q26:=Nat->Nat->Nat->St->Option ByteArray->Option ByteArray
abbrev Q27:=Int->Dt->Dt->Option Int
abbrev Q28:=Int->Int->Dt->Dt->Option Int
abbrev Q29:=List Dt->List Dt->Int->Int->Option Bool
abbrev Q30:=List Dt->Int->Int->Option Int
abbrev Q31:=List Dt->Int->Int->List Dt->Option (List Dt)
abbrev Q32:=ByteArray->Int->Dt->Option ByteArray
abbrev Q33:=Int->Dt->List Dt->Option (List Dt)
abbrev Q34:=Nat->Nat->Nat->St->Option (Dt×Bool)->Option (Dt×Bool)
abbrev Q35:=Nat->Nat->Nat->St->Option (Dt×List Dt×List Dt×List Dt×List Dt×List Dt)->Option (Dt×List Dt×List Dt×List Dt×List Dt×List Dt)
abbrev Q36:=Nat->Nat->Nat->St->Option (Int×Dt×List Dt×List Dt×List Dt×List Dt×List Dt)->Option (Int×Dt×List Dt×List Dt×List Dt×List Dt×List Dt)
abbrev Q37:=ByteArray->Int->Int->Int->Option (Int×Bool)
abbrev Q38:=List Dt->Int->Int->Dt->Dt->Option Dt
abbrev Q39:=ByteArray->Int->Int->Option (Int×Bool)
abbrev Q40:=List Dt->Int->Int->List Dt->Option Bool
abbrev Q41:=Int->Int->Dt->Dt->Option Bool
abbrev Q42:=ByteArray->Int->Int->Dt->Dt->Dt->List Dt->Option Dt
abbrev Q43:=Int->Int->Dt->Dt->Int->Int->ByteArray->List Dt->List Dt->Option Dt
abbrev Q44:=Int->Int->Dt->Dt->Dt->Option Dt
abbrev Q45:=Dt->List Dt->Option Dt
abbrev Q46:=ByteArray->Int->Int->Option Bool
abbrev Q47:=ByteArray->List Dt->Int->Int->Option ByteArray
abbrev Q48:=ByteArray->Int->Int->Int->Option Bool
abbrev Q49:=Nat->Nat->Nat->St->Option (Int×Bool)->Option (Int×Bool)
abbrev Q50:=Nat->Nat->Nat->St->Option (Bool×Int×Int)->Option (Bool×Int×Int)
abbrev Q51:=Nat->Nat->Nat->St->Option (ByteArray×Int)->Option (ByteArray×Int)
abbrev Q52:=Nat->Nat->Nat->St->Option (List Dt×Int)->Option (List Dt×Int)
abbrev Q53:=List Dt->Int->Int->Dt->Dt->Int->Int->ByteArray->List Dt->List Dt->Option Dt
abbrev Q54:=Int->Int->List Dt->Int->Option (Int×List Dt×Int)
abbrev Q55:=Int->Int->Int->List Dt->Option (Int×List Dt)
abbrev Q56:=List Dt->ByteArray->Int->Int->Option Int
abbrev Q57:=List Dt->Int->Int->Dt->Dt->Int->Int->ByteArray->List Dt->Option Dt
abbrev Q58:=List Dt->Int->Int->Dt->Dt->Int->Int->ByteArray->List Dt->List Dt->Option (Int×Int×ByteArray×List Dt×List Dt)
abbrev Q59:=List Dt->Int->Int->Dt->Int->Int->ByteArray->List Dt->List Dt->Option (Int×Int×ByteArray×List Dt×List Dt)
abbrev Q60:=ByteArray->Int->Int->Dt->Option Int
abbrev Q61:=ByteArray->ByteArray->Int->Option Int
abbrev Q62:=List Dt->Int->Dt->Option Bool
abbrev Q63:=List Dt->Int->Option Bool
abbrev Q64:=ByteArray->Int->Dt->Option Int
abbrev Q65:=List Dt->Int->Bool->Int->List Dt->Dt->List Dt->Option (List Dt×List Dt)
abbrev Q66:=Int->Int->Option Int
abbrev Q67:=List Dt->Int->Int->Dt->List Dt->Option ByteArray
abbrev Q68:=Int->List Dt->Int->Int->Dt->List Dt->List Dt->List Dt->List Dt->List Dt->Dt->Int->Int->ByteArray->List Dt->List Dt->Option (Int×Dt×List Dt×List Dt×List Dt×List Dt×List Dt)
abbrev Q69:=Int->List Dt->Int->Int->Dt->List Dt->List Dt->List Dt->List Dt->List Dt->Dt->Dt->Option (Int×Dt×List Dt×List Dt×List Dt×List Dt×List Dt)
abbrev Q70:=List Dt->List Dt->Int->Int->Dt->List Dt->List Dt->List Dt->List Dt->List Dt->Option (List Dt×Int)
abbrev Q71:=List Dt->Int->Int->Dt->List Dt->List Dt->List Dt->List Dt->List Dt->Option (List Dt×Int)
abbrev Q72:=Int->ByteArray->Int->Option ByteArray
abbrev Q73:=Int->Int->List Dt->Int->Option Int
abbrev Q74:=Bool->Int->Int->Dt->Dt->Option Bool
abbrev Q75:=List Dt->Int->Int->Int->Int->Int->Option Bool
abbrev Q76:=Int->List Dt->Option (List Dt)
abbrev Q77:=Dt->Int->Int->Option (Int×Int)
abbrev Q78:=Nat->Nat->Nat->St->Option (Bool×Int)->Option (Bool×Int)
abbrev Q79:=Nat->Nat->Nat->St->Option (Int×List Dt×Int)->Option (Int×List Dt×Int)
abbrev Q80:=Nat->Nat->Nat->St->Option (Int×List Dt)->Option (Int×List Dt)
abbrev Q81:=Nat->Nat->Nat->St->Option (Int×Int×ByteArray×List Dt×List Dt)->Option (Int×Int×ByteArray×List Dt×List Dt)
abbrev Q82:=Nat->Nat->Nat->St->Option (List Dt×List Dt)->Option (List Dt×List Dt)
def aX:Dt:=
 agg [int 0,int 0,str (ByteArray.mk (List.toArray [])),lst [],lst []]
def mW:Dt:=
 agg [str (ByteArray.mk (List.toArray [])),agg [int 0,int 0,str (ByteArray.mk (List.toArray [])),lst [],lst []]]
def rE:Dt:=
 agg [int 0,str (ByteArray.mk (List.toArray [])),agg [int 0,int 0,str (ByteArray.mk (List.toArray [])),lst [],lst []],agg [int 0,int 0,str (ByteArray.mk (List.toArray [])),lst [],lst []],agg [int 0,int 0,str (ByteArray.mk (List.toArray [])),lst [],lst []],agg [str (ByteArray.mk (List.toArray [])),lst [],agg [int 0,bool Bool.false,agg [int 0,int 0,str (ByteArray.mk (List.toArray [])),lst [],lst []],bool Bool.false,agg [int 0,int 0,str (ByteArray.mk (List.toArray [])),lst [],lst []],lst [],int 0,int 0,lst [],lst [],bool Bool.false,lst [],bool Bool.false],int 0,int 0],agg [str (ByteArray.mk (List.toArray [])),int 0,lst [],bool Bool.false,bool Bool.false,bool Bool.false,agg [int 0,lst [],agg [int 0,int 0,str (ByteArray.mk (List.toArray [])),lst [],lst []],lst [],int 0,int 0,agg [int 0,lst [],int 0],agg [int 0,lst [],str (ByteArray.mk (List.toArray [])),lst [],agg [int 0,int 0,str (ByteArray.mk (List.toArray [])),lst [],lst []],int 0,lst []],lst []]],str (ByteArray.mk (List.toArray [])),int 0,lst [],lst [],bool Bool.false]
def iV:Dt:=
 agg [str (ByteArray.mk (List.toArray [])),lst [],agg [int 0,bool Bool.false,agg [int 0,int 0,str (ByteArray.mk (List.toArray [])),lst [],lst []],bool Bool.false,agg [int 0,int 0,str (ByteArray.mk (List.toArray [])),lst [],lst []],lst [],int 0,int 0,lst [],lst [],bool Bool.false,lst [],bool Bool.false],int 0,int 0]
def iW:Dt:=
 agg [str (ByteArray.mk (List.toArray [])),int 0,lst [],bool Bool.false,bool Bool.false,bool Bool.false,agg [int 0,lst [],agg [int 0,int 0,str (ByteArray.mk (List.toArray [])),lst [],lst []],lst [],int 0,int 0,agg [int 0,lst [],int 0],agg [int 0,lst [],str (ByteArray.mk (List.toArray [])),lst [],agg [int 0,int 0,str (ByteArray.mk (List.toArray [])),lst [],lst []],int 0,lst []],lst []]]
def xI:Dt:=
 agg [int 2,int 0,str (ByteArray.mk (List.toArray [])),lst [],lst []]
noncomputable def ZH(m:Nat)(b:Q4)(a:Q53)(c:List Dt)(d e:Int)(f g:Dt)(h i:Int)(j:ByteArray)(k l:List Dt):Option Dt:=
 a c d (wrap .i64 (e+1)) f g h i j k l
noncomputable def ZI(m:Nat)(a:Q4)(b:Q53)(c:List Dt)(e d:Int)(f g:Dt)(h i:Int)(j:ByteArray)(k l:List Dt):Option Dt:=
 (idx c d).bind fun n=>(a n).bind fun o=>(app k [o]).bind fun p=>ZH m a b c e d f g h i j p l
noncomputable def ZJ(m:Nat)(b:Q4)(a:Q20)(c:List Dt)(d e:Int)(f:Dt)(g h:Int)(i:ByteArray)(j k:List Dt):Option Dt:=
 a c d (wrap .i64 (e+1)) f g h i j k
noncomputable def ZK(m:Nat)(a:Q4)(b:Q20)(c:List Dt)(f d:Int)(g:Dt)(h i:Int)(j:ByteArray)(k l:List Dt):Option Dt:=
 (idx c d).bind fun e=>(a (fld e 1)).bind fun n=>(app l [agg [str (S e 0),n]]).bind fun o=>ZJ m a b c f d g h i j k o
noncomputable def ZL(m:Nat)(a:Q4)(g:Dt)(b c:Int)(d:ByteArray)(e f:List Dt):Option Dt:=
 some (agg [int b,int c,str d,lst e,lst f])
noncomputable def Ed(m:Nat)(a:Q4):Nat->List Dt->Int->Int->Dt->Int->Int->ByteArray->List Dt->List Dt->Option Dt
 |0,_,_,_,_,_,_,_,_,_=>none
 |j+1,k,b,c,d,e,f,g,h,i=>cond (c<b) (ZK m a (Ed m a j) k b c d e f g h i) (ZL m a d e f g h i)
noncomputable def anZ(m:Nat)(a:Q4)(b:List Dt)(c d:Int)(e:Dt)(f g:Int)(h:ByteArray)(i j:List Dt):Option Dt:=
 Ed m a (succ m) b c d e f g h i j
noncomputable def ZM(m:Nat)(a:Q4)(b c:Dt)(d e:Int)(f:ByteArray)(g h:List Dt):Option Dt:=
 anZ m a (L b 4) ((L b 4).length:Int) 0 c d e f g h
noncomputable def yu(m:Nat)(a:Q4):Nat->List Dt->Int->Int->Dt->Dt->Int->Int->ByteArray->List Dt->List Dt->Option Dt
 |0,_,_,_,_,_,_,_,_,_,_=>none
 |k+1,l,b,c,d,e,f,g,h,i,j=>cond (c<b) (ZI m a (yu m a k) l b c d e f g h i j) (ZM m a d e f g h i j)
noncomputable def an0(m:Nat)(a:Q4)(b:List Dt)(c d:Int)(e f:Dt)(g h:Int)(i:ByteArray)(j k:List Dt):Option Dt:=
 yu m a (succ m) b c d e f g h i j k
noncomputable def qB:Nat->Dt->Option Dt
 |0,_=>none
 |m+1,a=>an0 m (qB m) (L a 3) ((L a 3).length:Int) 0 a aX (I a 0) (I a 1) (S a 2) [] []
noncomputable def i26:Nat->Int->Int->Option (Bool×Int)
 |0,_,_=>none
 |m+1,b,a=>some (b==a,a)
noncomputable def yw(m:Nat)(a:Q54)(b c:Int)(d:List Dt)(e:Int):Option (Int×List Dt×Int):=
 a b (wrap .i64 (c+1)) d e
noncomputable def Pk(m:Nat)(a:Q54)(e b:Int)(c:List Dt)(f:Int):Option (Int×List Dt×Int):=
 (inL c b).bind fun h=>(c[b.toNat]?).bind fun g=>(i26 m (toInt g) f).bind fun d=>cond d.1 (some (b,c,d.2)) (yw m a e b c d.2)
noncomputable def ZN(m:Nat)(a:List Dt)(b:Int):Option (Int×List Dt×Int):=
 some ((-1),a,b)
noncomputable def jE(m:Nat):Nat->Int->Int->List Dt->Int->Option (Int×List Dt×Int)
 |0,_,_,_,_=>none
 |e+1,a,b,c,d=>cond (b<a) (Pk m (jE m e) a b c d) (ZN m c d)
noncomputable def ZO(m:Nat)(a b:Int)(c:List Dt)(d:Int):Option (Int×List Dt×Int):=
 jE m (succ m) a b c d
noncomputable def i25:Nat->List Dt->Int->Option (Int×List Dt×Int)
 |0,_,_=>none
 |m+1,a,b=>ZO m (a.length:Int) 0 a b
noncomputable def pQ(m:Nat)(a:Q55)(b c d:Int)(e:List Dt):Option (Int×List Dt):=
 a b (wrap .i64 (c+1)) d e
noncomputable def Pm(m:Nat)(a:Q55)(c d g:Int)(b:List Dt):Option (Int×List Dt):=
 (inL b d).bind fun h=>(b[d.toNat]?).bind fun f=>(i26 m (toInt f) g).bind fun e=>cond (!e.1) ((inL b c).bind fun i=>(b[c.toNat]?).bind fun j=>pQ m a (wrap .i64 (c+1)) d e.2 (List.set b c.toNat (int (toInt f)))) (pQ m a c d e.2 b)
noncomputable def Pn(m:Nat)(a c:Int)(b:List Dt):Option (Int×List Dt):=
 (cutL b a (b.length:Int)).bind fun e=>cond (Nat.ble a.toNat b.length) ((cutL (List.take a.toNat b++List.replicate (b.length-a.toNat) (int 0)) 0 a).bind fun d=>some (c,d)) none
noncomputable def kF(m:Nat):Nat->Int->Int->Int->List Dt->Option (Int×List Dt)
 |0,_,_,_,_=>none
 |e+1,b,c,d,a=>cond (c<(a.length:Int)) (Pm m (kF m e) b c d a) (Pn m b d a)
noncomputable def ZP(m:Nat)(a b c:Int)(d:List Dt):Option (Int×List Dt):=
 kF m (succ m) a b c d
noncomputable def Po(m:Nat)(a b:Int)(c:List Dt):Option (Int×List Dt):=
 ZP m a (wrap .i64 (a+1)) b c
noncomputable def i24:Nat->List Dt->Int->Option (Int×List Dt)
 |0,_,_=>none
 |m+1,b,c=>(i25 m b c).bind fun a=>cond (a.1==(-1)) (some (a.2.2,a.2.1)) (Po m a.1 a.2.2 a.2.1)
noncomputable def ZQ(m:Nat)(a:Q56)(b:List Dt)(c:ByteArray)(d e:Int):Option Int:=
 a b c d (wrap .i64 (e+1))
noncomputable def ZR(m:Nat)(a:Q56)(c:List Dt)(d:ByteArray)(e b:Int):Option Int:=
 (idx c b).bind fun f=>cond ((S f 0).toList==d.toList) (some b) (ZQ m a c d e b)
noncomputable def ZT(m:Nat):Option Int:=
 some (-1)
noncomputable def Ee(m:Nat):Nat->List Dt->ByteArray->Int->Int->Option Int
 |0,_,_,_,_=>none
 |c+1,d,e,a,b=>cond (b<a) (ZR m (Ee m c) d e a b) (ZT m)
noncomputable def an1(m:Nat)(a:List Dt)(b:ByteArray)(c d:Int):Option Int:=
 Ee m (succ m) a b c d
noncomputable def zM:Nat->List Dt->ByteArray->Option Int
 |0,_,_=>none
 |m+1,a,b=>an1 m a b (a.length:Int) 0
noncomputable def ZU(m:Nat)(a:Q37)(b:ByteArray)(c d e:Int):Option (Int×Bool):=
 a b c d (wrap .i64 (e+1))
noncomputable def ZV(m:Nat)(a:Q37)(b:ByteArray)(c d e f:Int):Option (Int×Bool):=
 (idxS b d).bind fun g=>ZU m a b (wrap .i64 (wrap .i64 (10*c)+wrap .i64 (wrap IntKind.u8 (g-48)))) e f
noncomputable def RY(m:Nat)(a:Q37)(b:ByteArray)(c d e f:Int)(g:Bool):Option (Int×Bool):=
 cond g (some (0,false)) (ZV m a b c d e f)
noncomputable def ZW(m:Nat)(a:Q37)(c:ByteArray)(d e b:Int):Option (Int×Bool):=
 (idxS c b).bind fun f=>cond (f<48) (RY m a c d b e b true) ((idxS c b).bind fun g=>RY m a c d b e b (decide (57<g)))
noncomputable def an2(m:Nat)(a:Int):Option (Int×Bool):=
 some (a,true)
noncomputable def Ef(m:Nat):Nat->ByteArray->Int->Int->Int->Option (Int×Bool)
 |0,_,_,_,_=>none
 |d+1,e,a,b,c=>cond (c<b) (ZW m (Ef m d) e a b c) (an2 m a)
noncomputable def an3(m:Nat)(a:ByteArray)(b c d:Int):Option (Int×Bool):=
 Ef m (succ m) a b c d
noncomputable def an4(m:Nat)(a:ByteArray):Option (Int×Bool):=
 an3 m a 0 (a.size:Int) 0
noncomputable def Eh(m:Nat)(a:ByteArray)(b:Bool):Option (Int×Bool):=
 cond b (some (0,false)) (an4 m a)
noncomputable def zB:Nat->ByteArray->Option (Int×Bool)
 |0,_=>none
 |m+1,a=>cond ((a.size:Int)<1) (Eh m a true) (cond (4<(a.size:Int)) (Eh m a true) ((idxS a 0).bind fun b=>cond (b==48) (Eh m a (decide (1<(a.size:Int)))) (Eh m a false)))
noncomputable def ZX(m:Nat)(b:Q4)(a:Q57)(c:List Dt)(d e:Int)(f g:Dt)(h i:Int)(j:ByteArray)(k:List Dt):Option Dt:=
 a c d (wrap .i64 (e+1)) f g h i j k
noncomputable def ZY(m:Nat)(a:Q4)(b:Q57)(e:List Dt)(f c:Int)(g h:Dt)(i j:Int)(k:ByteArray)(d:List Dt):Option Dt:=
 (idx e c).bind fun l=>(a l).bind fun n=>(inL d c).bind fun o=>(d[c.toNat]?).bind fun p=>ZX m a b e f c g h i j k (List.set d c.toNat n)
noncomputable def Z0(m:Nat)(b:Q4)(a:Q20)(c:List Dt)(d e:Int)(f:Dt)(g h:Int)(i:ByteArray)(j k:List Dt):Option Dt:=
 a c d (wrap .i64 (e+1)) f g h i j k
noncomputable def Z4(m:Nat)(a:Q4)(b:Q20)(e:List Dt)(g c:Int)(h:Dt)(i j:Int)(k:ByteArray)(l d:List Dt):Option Dt:=
 (idx e c).bind fun f=>(a (fld f 1)).bind fun n=>(inL d c).bind fun o=>(d[c.toNat]?).bind fun p=>Z0 m a b e g c h i j k l (List.set d c.toNat (agg [str (S f 0),n]))
noncomputable def Z5(m:Nat)(a:Q4)(g:Dt)(b c:Int)(d:ByteArray)(e f:List Dt):Option Dt:=
 some (agg [int b,int c,str d,lst e,lst f])
noncomputable def Ei(m:Nat)(a:Q4):Nat->List Dt->Int->Int->Dt->Int->Int->ByteArray->List Dt->List Dt->Option Dt
 |0,_,_,_,_,_,_,_,_,_=>none
 |j+1,k,b,c,d,e,f,g,h,i=>cond (c<b) (Z4 m a (Ei m a j) k b c d e f g h i) (Z5 m a d e f g h i)
noncomputable def an5(m:Nat)(a:Q4)(b:List Dt)(c d:Int)(e:Dt)(f g:Int)(h:ByteArray)(i j:List Dt):Option Dt:=
 Ei m a (succ m) b c d e f g h i j
noncomputable def Z6(m:Nat)(a:Q4)(f:Dt)(b c:Int)(d:ByteArray)(e:List Dt):Option Dt:=
 some (agg [int b,int c,str d,lst e,lst []])
noncomputable def Z7(m:Nat)(a:Q4)(b c:Dt)(d e:Int)(f:ByteArray)(g:List Dt):Option Dt:=
 cond (0<((L b 4).length:Int)) ((mkL ((L b 4).length:Int) ((L b 4).length:Int) mW).bind fun h=>an5 m a (L b 4) ((L b 4).length:Int) 0 c d e f g h) (Z6 m a c d e f g)
noncomputable def yx(m:Nat)(a:Q4):Nat->List Dt->Int->Int->Dt->Dt->Int->Int->ByteArray->List Dt->Option Dt
 |0,_,_,_,_,_,_,_,_,_=>none
 |j+1,k,b,c,d,e,f,g,h,i=>cond (c<b) (ZY m a (yx m a j) k b c d e f g h i) (Z7 m a d e f g h i)
noncomputable def an6(m:Nat)(a:Q4)(b:List Dt)(c d:Int)(e f:Dt)(g h:Int)(i:ByteArray)(j:List Dt):Option Dt:=
 yx m a (succ m) b c d e f g h i j
noncomputable def Pp(m:Nat)(b:Q4)(a:Q20)(c:List Dt)(d e:Int)(f:Dt)(g h:Int)(i:ByteArray)(j k:List Dt):Option Dt:=
 a c d (wrap .i64 (e+1)) f g h i j k
noncomputable def Pq(m:Nat)(a:Q4)(b:Q20)(g:List Dt)(h c:Int)(i:Dt)(j k:Int)(l:ByteArray)(n e:List Dt):Option Dt:=
 (idx g c).bind fun d=>(a (fld d 1)).bind fun f=>(inL e c).bind fun o=>(e[c.toNat]?).bind fun p=>Pp m a b g h c i j k l n (List.set e c.toNat (agg [str (S d 0),f]))
noncomputable def Pv(m:Nat)(a:Q4)(g:Dt)(b c:Int)(d:ByteArray)(e f:List Dt):Option Dt:=
 some (agg [int b,int c,str d,lst e,lst f])
noncomputable def uf(m:Nat)(a:Q4):Nat->List Dt->Int->Int->Dt->Int->Int->ByteArray->List Dt->List Dt->Option Dt
 |0,_,_,_,_,_,_,_,_,_=>none
 |b+1,k,c,d,e,f,g,h,i,j=>cond (d<c) (Pq m a (uf m a b) k c d e f g h i j) (Pv m a e f g h i j)
noncomputable def Z8(m:Nat)(a:Q4)(b:List Dt)(c d:Int)(e:Dt)(f g:Int)(h:ByteArray)(i j:List Dt):Option Dt:=
 uf m a (succ m) b c d e f g h i j
noncomputable def Z9(m:Nat)(a:Q4)(c b:Dt):Option Dt:=
 some b
noncomputable def aac(m:Nat)(a:Q4)(b e c:Dt):Option Dt:=
 cond (0<((L b 4).length:Int)) ((mkL ((L b 4).length:Int) ((L b 4).length:Int) mW).bind fun d=>Z8 m a (L b 4) ((L b 4).length:Int) 0 e (I c 0) (I c 1) (S c 2) (L c 3) d) (Z9 m a e c)
noncomputable def qJ:Nat->Dt->Option Dt
 |0,_=>none
 |m+1,a=>cond (0<((L a 3).length:Int)) ((mkL ((L a 3).length:Int) ((L a 3).length:Int) aX).bind fun b=>an6 m (qJ m) (L a 3) ((L a 3).length:Int) 0 a aX (I a 0) (I a 1) (S a 2) b) (aac m (qJ m) a aX (agg [int (I a 0),int (I a 1),str (S a 2),lst [],lst []]))
noncomputable def RZ(m:Nat)(a:Q38)(b:List Dt)(c d:Int)(e f:Dt):Option Dt:=
 a b c (wrap .i64 (d+1)) e f
noncomputable def kP(m:Nat)(a:Q38)(b:Int)(c:List Dt)(d e:Int)(f g:Dt):Option Dt:=
 cond (b<0) (some aX) (RZ m a c d e f g)
noncomputable def Ej(m:Nat)(a:Q38)(h b:Int)(c:List Dt)(d e:Int)(i:Bool)(f g:Dt):Option Dt:=
 cond i ((idx (L f 3) b).bind fun j=>kP m a b c d e j g) (kP m a h c d e f g)
noncomputable def aad(m:Nat)(a:Q38)(c:List Dt)(e d:Int)(b f:Dt):Option Dt:=
 (idx c d).bind fun i=>cond (I b 0==5) ((zM m (L b 4) (toStr i)).bind fun g=>cond (0<=g) ((idx (L b 4) g).bind fun j=>kP m a g c e d (fld j 1) f) (kP m a g c e d b f)) (cond (I b 0==6) ((zB m (toStr i)).bind fun h=>cond h.2 (Ej m a (-1) h.1 c e d (decide (h.1<((L b 3).length:Int))) b f) (Ej m a (-1) h.1 c e d false b f)) (kP m a (-1) c e d b f))
noncomputable def aae(m:Nat)(a c:Dt):Option Dt:=
 (qJ m a).bind fun b=>some b
noncomputable def El(m:Nat):Nat->List Dt->Int->Int->Dt->Dt->Option Dt
 |0,_,_,_,_,_=>none
 |e+1,f,a,b,c,d=>cond (b<a) (aad m (El m e) f a b c d) (aae m c d)
noncomputable def an7(m:Nat)(a:List Dt)(b c:Int)(d e:Dt):Option Dt:=
 El m (succ m) a b c d e
noncomputable def zL:Nat->Dt->List Dt->Option Dt
 |0,_,_=>none
 |m+1,b,a=>an7 m a (a.length:Int) 0 b aX
noncomputable def aaf(m:Nat)(b:Q19)(a:Q58)(c:List Dt)(d e:Int)(f g:Dt)(h i:Int)(j:ByteArray)(k l:List Dt):Option (Int×Int×ByteArray×List Dt×List Dt):=
 a c d (wrap .i64 (e+1)) f g h i j k l
noncomputable def aag(m:Nat)(a:Q19)(b:Q58)(f:List Dt)(g c:Int)(h i:Dt)(j k:Int)(l:ByteArray)(e n:List Dt):Option (Int×Int×ByteArray×List Dt×List Dt):=
 (idx f c).bind fun o=>(a o).bind fun d=>(inL e c).bind fun p=>(e[c.toNat]?).bind fun q=>aaf m a b f g c h i j k l (List.set e c.toNat (agg [int d.1,int d.2.1,str d.2.2.1,lst d.2.2.2.1,lst d.2.2.2.2])) n
noncomputable def aah(m:Nat)(b:Q19)(a:Q59)(c:List Dt)(d e:Int)(f:Dt)(g h:Int)(i:ByteArray)(j k:List Dt):Option (Int×Int×ByteArray×List Dt×List Dt):=
 a c d (wrap .i64 (e+1)) f g h i j k
noncomputable def aai(m:Nat)(a:Q19)(b:Q59)(f:List Dt)(h c:Int)(i:Dt)(j k:Int)(l:ByteArray)(n e:List Dt):Option (Int×Int×ByteArray×List Dt×List Dt):=
 (idx f c).bind fun g=>(a (fld g 1)).bind fun d=>(inL e c).bind fun o=>(e[c.toNat]?).bind fun p=>aah m a b f h c i j k l n (List.set e c.toNat (agg [str (S g 0),agg [int d.1,int d.2.1,str d.2.2.1,lst d.2.2.2.1,lst d.2.2.2.2]]))
noncomputable def R3(m:Nat)(a:Q19)(g:Dt)(b c:Int)(d:ByteArray)(e f:List Dt):Option (Int×Int×ByteArray×List Dt×List Dt):=
 some (b,c,d,e,f)
noncomputable def Em(m:Nat)(a:Q19):Nat->List Dt->Int->Int->Dt->Int->Int->ByteArray->List Dt->List Dt->Option (Int×Int×ByteArray×List Dt×List Dt)
 |0,_,_,_,_,_,_,_,_,_=>none
 |j+1,k,b,c,d,e,f,g,h,i=>cond (c<b) (aai m a (Em m a j) k b c d e f g h i) (R3 m a d e f g h i)
noncomputable def an8(m:Nat)(a:Q19)(b:List Dt)(c d:Int)(e:Dt)(f g:Int)(h:ByteArray)(i j:List Dt):Option (Int×Int×ByteArray×List Dt×List Dt):=
 Em m a (succ m) b c d e f g h i j
noncomputable def yR(m:Nat)(a:Q19)(b c:Dt)(d e:Int)(f:ByteArray)(g h:List Dt):Option (Int×Int×ByteArray×List Dt×List Dt):=
 cond (0<((L b 4).length:Int)) ((mkL ((L b 4).length:Int) ((L b 4).length:Int) mW).bind fun i=>an8 m a (L b 4) ((L b 4).length:Int) 0 c d e f g i) (R3 m a c d e f g h)
noncomputable def yS(m:Nat)(a:Q19):Nat->List Dt->Int->Int->Dt->Dt->Int->Int->ByteArray->List Dt->List Dt->Option (Int×Int×ByteArray×List Dt×List Dt)
 |0,_,_,_,_,_,_,_,_,_,_=>none
 |k+1,l,b,c,d,e,f,g,h,i,j=>cond (c<b) (aag m a (yS m a k) l b c d e f g h i j) (yR m a d e f g h i j)
noncomputable def an9(m:Nat)(a:Q19)(b:List Dt)(c d:Int)(e f:Dt)(g h:Int)(i:ByteArray)(j k:List Dt):Option (Int×Int×ByteArray×List Dt×List Dt):=
 yS m a (succ m) b c d e f g h i j k
noncomputable def qK:Nat->Dt->Option (Int×Int×ByteArray×List Dt×List Dt)
 |0,_=>none
 |m+1,a=>bif 0<((L a 3).length:Int)then(mkL ((L a 3).length:Int) ((L a 3).length:Int) aX).bind fun b=>an9 m (qK m) (L a 3) ((L a 3).length:Int) 0 a aX (I a 0) (I a 1) (S a 2) b []else yR m (qK m) a aX (I a 0) (I a 1) (S a 2) [] []
noncomputable def R4(m:Nat)(a:Q60)(b:ByteArray)(c d:Int)(e:Dt):Option Int:=
 a b c (wrap .i64 (d+1)) e
noncomputable def JF(m:Nat)(a:Q60)(c:ByteArray)(e b:Int)(d:Dt):Option Int:=
 (idx (L d 4) b).bind fun f=>cond ((S f 0).toList==c.toList) (some b) (R4 m a c e b d)
noncomputable def R5(m:Nat):Option Int:=
 some (-1)
noncomputable def nK(m:Nat):Nat->ByteArray->Int->Int->Dt->Option Int
 |0,_,_,_,_=>none
 |c+1,d,a,b,e=>cond (b<a) (JF m (nK m c) d a b e) (R5 m)
noncomputable def aoa(m:Nat)(a:ByteArray)(b c:Int)(d:Dt):Option Int:=
 nK m (succ m) a b c d
noncomputable def aob(m:Nat)(b:ByteArray)(a:Dt):Option Int:=
 aoa m b ((L a 4).length:Int) 0 a
noncomputable def zG:Nat->Dt->ByteArray->Option Int
 |0,_,_=>none
 |m+1,a,b=>cond (I a 0 !=5) (some (-1)) (aob m b a)
noncomputable def R6(m:Nat)(b:ByteArray)(c j:Dt)(d e:Int)(f:ByteArray)(g h:List Dt):Option Dt:=
 (qK m c).bind fun a=>(app h [agg [str b,agg [int a.1,int a.2.1,str a.2.2.1,lst a.2.2.2.1,lst a.2.2.2.2]]]).bind fun i=>some (agg [int d,int e,str f,lst g,lst i])
noncomputable def R7(m:Nat)(h:ByteArray)(i j:Dt)(d e:Int)(f:ByteArray)(g a:List Dt):Option Dt:=
 (zG m (agg [int d,int e,str f,lst g,lst a]) h).bind fun c=>cond (0<=c) ((qK m i).bind fun b=>(inL a c).bind fun l=>(a[c.toNat]?).bind fun k=>some (agg [int d,int e,str f,lst g,lst (List.set a c.toNat (agg [str (S k 0),agg [int b.1,int b.2.1,str b.2.2.1,lst b.2.2.2.1,lst b.2.2.2.2]]))])) (R6 m h i j d e f g a)
noncomputable def zV:Nat->Dt->ByteArray->Dt->Option Dt
 |0,_,_,_=>none
 |m+1,b,c,d=>(qK m b).bind fun a=>cond (a.1 !=5) (some (agg [int a.1,int a.2.1,str a.2.2.1,lst a.2.2.2.1,lst a.2.2.2.2])) (R7 m c d aX a.1 a.2.1 a.2.2.1 a.2.2.2.1 a.2.2.2.2)
noncomputable def aoc(m:Nat)(b:Int)(c e:Dt):Option (Dt×Bool):=
 (idx (L c 4) b).bind fun d=>(qK m (fld d 1)).bind fun a=>some (agg [int a.1,int a.2.1,str a.2.2.1,lst a.2.2.2.1,lst a.2.2.2.2],true)
noncomputable def yJ:Nat->Dt->ByteArray->Option (Dt×Bool)
 |0,_,_=>none
 |m+1,a,c=>(zG m a c).bind fun b=>cond (b<0) (some (aX,false)) (aoc m b a aX)
noncomputable def zQ:Nat->Dt->Option Dt
 |0,_=>none
 |m+1,a=>(yJ m a (ByteArray.mk (List.toArray [95,105,100]))).bind fun b=>some b.1
noncomputable def i20:Nat->Dt->Dt->Dt->List Dt->List Dt->List Dt->List Dt->List Dt->Option (Dt×List Dt×List Dt×List Dt×List Dt×List Dt)
 |0,_,_,_,_,_,_,_,_=>none
 |m+1,c,e,d,f,g,h,i,a=>(zQ m c).bind fun j=>(qB m j).bind fun k=>(qB m c).bind fun l=>(qB m e).bind fun n=>(cond false (app a [rE]) (cond true (ite (a.length+1<=2147483648) (Option.some (a++[rE])) Option.none) Option.none)).bind fun b=>(inL b (a.length:Int)).bind fun o=>(b[(a.length:Int).toNat]?).bind fun p=>some (d,i,f,g,h,List.set b (a.length:Int).toNat (agg [int 2,str (S d 0),k,l,n,iV,iW,str (ByteArray.mk (List.toArray [])),int 0,lst [],lst [],bool false]))
noncomputable def yQ:Nat->Option Dt
 |0=>none
 |m+1=>some xI
noncomputable def aaj(m:Nat):Option Int:=
 some 0
noncomputable def aak(m:Nat)(a b:Int):Option Int:=
 cond (b<a) (some 1) (aaj m)
noncomputable def zS:Nat->Int->Int->Option Int
 |0,_,_=>none
 |m+1,a,b=>cond (a<b) (some (-1)) (aak m a b)
noncomputable def aal(m:Nat)(a:Q61)(b c:ByteArray)(d:Int):Option Int:=
 a b c (wrap .i64 (d+1))
noncomputable def aam(m:Nat)(a:Q61)(c d:ByteArray)(b:Int):Option Int:=
 (idxS c b).bind fun e=>(idxS d b).bind fun f=>cond (e !=f) ((idxS c b).bind fun g=>(idxS d b).bind fun h=>(zS m (wrap .i64 g) (wrap .i64 h)).bind fun i=>some i) (aal m a c d b)
noncomputable def JG(m:Nat)(a b:ByteArray):Option Int:=
 (zS m (a.size:Int) (b.size:Int)).bind fun c=>some c
noncomputable def En(m:Nat):Nat->ByteArray->ByteArray->Int->Option Int
 |0,_,_,_=>none
 |d+1,a,b,c=>cond (c<(a.size:Int)) (cond (c<(b.size:Int)) (aam m (En m d) a b c) (JG m a b)) (JG m a b)
noncomputable def aod(m:Nat)(a b:ByteArray)(c:Int):Option Int:=
 En m (succ m) a b c
noncomputable def zK:Nat->ByteArray->ByteArray->Option Int
 |0,_,_=>none
 |m+1,a,b=>aod m a b 0
noncomputable def aan(m:Nat)(b:Q3)(a:Q27)(c:Int)(d e:Dt):Option Int:=
 a (wrap .i64 (c+1)) d e
noncomputable def aao(m:Nat)(a:Q3)(b:Q27)(c:Int)(d e:Dt):Option Int:=
 (idx (L d 3) c).bind fun g=>(idx (L e 3) c).bind fun h=>(a g h).bind fun f=>cond (f !=0) (some f) (aan m a b c d e)
noncomputable def JH(m:Nat)(a:Q3)(b c:Dt):Option Int:=
 (zS m ((L b 3).length:Int) ((L c 3).length:Int)).bind fun d=>some d
noncomputable def Eo(m:Nat)(a:Q3):Nat->Int->Dt->Dt->Option Int
 |0,_,_,_=>none
 |e+1,d,b,c=>cond (d<((L b 3).length:Int)) (cond (d<((L c 3).length:Int)) (aao m a (Eo m a e) d b c) (JH m a b c)) (JH m a b c)
noncomputable def R8(m:Nat)(a:Q3)(b:Int)(c d:Dt):Option Int:=
 Eo m a (succ m) b c d
noncomputable def Pw(m:Nat)(b:Q3)(a:Q27)(c:Int)(d e:Dt):Option Int:=
 a (wrap .i64 (c+1)) d e
noncomputable def Hz(m:Nat)(a:Q3)(b:Q27)(d c:Int)(e f:Dt):Option Int:=
 cond (c !=0) (some c) (Pw m a b d e f)
noncomputable def Px(m:Nat)(a:Q3)(b:Q27)(c:Int)(d e:Dt):Option Int:=
 (idx (L d 4) c).bind fun j=>(idx (L e 4) c).bind fun k=>(zK m (S j 0) (S k 0)).bind fun i=>cond (i==0) ((idx (L d 4) c).bind fun f=>(idx (L e 4) c).bind fun g=>(a (fld f 1) (fld g 1)).bind fun h=>Hz m a b c h d e) (Hz m a b c i d e)
noncomputable def yT(m:Nat)(a:Q3)(c d:Dt):Option Int:=
 (zS m ((L c 4).length:Int) ((L d 4).length:Int)).bind fun b=>some b
noncomputable def Ep(m:Nat)(a:Q3):Nat->Int->Dt->Dt->Option Int
 |0,_,_,_=>none
 |e+1,d,b,c=>cond (d<((L b 4).length:Int)) (cond (d<((L c 4).length:Int)) (Px m a (Ep m a e) d b c) (yT m a b c)) (yT m a b c)
noncomputable def R9(m:Nat)(a:Q3)(b:Int)(c d:Dt):Option Int:=
 Ep m a (succ m) b c d
noncomputable def Py(m:Nat)(a:Q3):Option Int:=
 some 0
noncomputable def JJ(m:Nat)(a:Q3)(d:Int)(e:Bool)(b c:Dt):Option Int:=
 cond e ((zK m (S b 2) (S c 2)).bind fun f=>some f) (cond (d==6) (R8 m a 0 b c) (cond (d==5) (R9 m a 0 b c) (Py m a)))
noncomputable def JK(m:Nat)(a:Q3)(b:Int)(e:Bool)(c d:Dt):Option Int:=
 cond e ((zS m (I c 1) (I d 1)).bind fun f=>some f) (cond (b==4) (JJ m a b (b==4) c d) (cond (b==7) (JJ m a b (b==7) c d) (JJ m a b (b==8) c d)))
noncomputable def JL(m:Nat)(a:Q3)(b c:Dt):Option Int:=
 cond (I b 0==3) (JK m a (I b 0) (I b 0==3) b c) (cond (I b 0==9) (JK m a (I b 0) (I b 0==9) b c) (JK m a (I b 0) (I b 0==10) b c))
noncomputable def qA:Nat->Dt->Dt->Option Int
 |0,_,_=>none
 |m+1,a,b=>cond (I a 0 !=I b 0) ((zS m (I a 0) (I b 0)).bind fun c=>some c) (JL m (qA m) a b)
noncomputable def aap(m:Nat)(a:Q62)(b:List Dt)(c:Int)(d:Dt):Option Bool:=
 a b (wrap .i64 (c+1)) d
noncomputable def aaq(m:Nat)(a:Q62)(b:List Dt)(c:Int)(d:Dt):Option Bool:=
 (idx b c).bind fun e=>(idx (L e 4) 0).bind fun f=>(qA m (fld f 1) d).bind fun g=>cond (g==0) (some true) (aap m a b c d)
noncomputable def aoe(m:Nat):Option Bool:=
 some false
noncomputable def Er(m:Nat):Nat->List Dt->Int->Dt->Option Bool
 |0,_,_,_=>none
 |c+1,a,b,d=>cond (b<(a.length:Int)) (aaq m (Er m c) a b d) (aoe m)
noncomputable def aof(m:Nat)(a:List Dt)(b:Int)(c:Dt):Option Bool:=
 Er m (succ m) a b c
noncomputable def zN:Nat->List Dt->Dt->Option Bool
 |0,_,_=>none
 |m+1,a,b=>aof m a 0 b
noncomputable def aar(m:Nat)(b:Q9)(c:Q22)(a:Q41)(d e:Int)(f g:Dt):Option Bool:=
 a d (wrap .i64 (e+1)) f g
noncomputable def Sb(m:Nat)(a:Q9)(b:Q22)(c:Q41)(d e:Int)(f:Bool)(g h:Dt):Option Bool:=
 cond f (some false) (aar m a b c d e g h)
noncomputable def aas(m:Nat)(a:Q9)(b:Q22)(c:Q41)(g d:Int)(e f:Dt):Option Bool:=
 (idx (L e 4) d).bind fun h=>(idx (L f 4) d).bind fun i=>cond (!(S h 0).toList==(S i 0).toList) (Sb m a b c g d true e f) ((idx (L e 4) d).bind fun j=>(idx (L f 4) d).bind fun k=>(a (fld j 1) (fld k 1)).bind fun l=>Sb m a b c g d (!l) e f)
noncomputable def aat(m:Nat)(b:Q9)(a:Q22)(c d:Dt):Option Bool:=
 (a (L c 3) (L d 3)).bind fun e=>some e
noncomputable def Es(m:Nat)(a:Q9)(b:Q22):Nat->Int->Int->Dt->Dt->Option Bool
 |0,_,_,_,_=>none
 |g+1,c,d,e,f=>cond (d<c) (aas m a b (Es m a b g) c d e f) (aat m a b e f)
noncomputable def aog(m:Nat)(a:Q9)(b:Q22)(c d:Int)(e f:Dt):Option Bool:=
 Es m a b (succ m) c d e f
noncomputable def aoh(m:Nat)(a:Q9)(b:Q22)(c d:Dt):Option Bool:=
 aog m a b ((L c 4).length:Int) 0 c d
noncomputable def Et(m:Nat)(a:Q9)(b:Q22)(c:Bool)(d e:Dt):Option Bool:=
 cond c (some false) (aoh m a b d e)
noncomputable def aau(m:Nat)(b:Q9)(a:Q29)(c d:List Dt)(e f:Int):Option Bool:=
 a c d e (wrap .i64 (f+1))
noncomputable def aav(m:Nat)(a:Q9)(b:Q29)(d e:List Dt)(f c:Int):Option Bool:=
 (idx d c).bind fun g=>(idx e c).bind fun h=>(a g h).bind fun i=>cond (!i) (some false) (aau m a b d e f c)
noncomputable def aaw(m:Nat)(a:Q9):Option Bool:=
 some true
noncomputable def Eu(m:Nat)(a:Q9):Nat->List Dt->List Dt->Int->Int->Option Bool
 |0,_,_,_,_=>none
 |d+1,e,f,b,c=>cond (c<b) (aav m a (Eu m a d) e f b c) (aaw m a)
noncomputable def aoi(m:Nat)(a:Q9)(b c:List Dt)(d e:Int):Option Bool:=
 Eu m a (succ m) b c d e
noncomputable def aax(m:Nat)(a:Q9)(b c:List Dt):Option Bool:=
 aoi m a b c (b.length:Int) 0
mutual
noncomputable def qU:Nat->Dt->Dt->Option Bool
 |0,_,_=>none
 |m+1,a,b=>cond (I a 0 !=I b 0) (Et m (qU m) (qX m) true a b) (cond (I a 1 !=I b 1) (Et m (qU m) (qX m) true a b) (cond (!(S a 2).toList==(S b 2).toList) (Et m (qU m) (qX m) true a b) (Et m (qU m) (qX m) (((L a 4).length:Int) !=((L b 4).length:Int)) a b)))
noncomputable def qX:Nat->List Dt->List Dt->Option Bool
 |0,_,_=>none
 |m+1,a,b=>cond ((a.length:Int) !=(b.length:Int)) (some false) (aax m (qU m) a b)
end
noncomputable def zW:Nat->Dt->Dt->Option Bool
 |0,_,_=>none
 |m+1,a,b=>cond (I a 0==I b 0) (bif (S a 1).toList==(S b 1).toList then(qU m (fld a 2) (fld b 2)).bind fun c=>cond c ((qU m (fld a 3) (fld b 3)).bind fun d=>cond d ((qU m (fld a 4) (fld b 4)).bind fun e=>cond e (cond (Dt.B a 11==Dt.B b 11) (cond ((S a 7).toList==(S b 7).toList) (cond (I a 8==I b 8) (bif ((L a 9).length:Int)==((L b 9).length:Int)then some (((L a 10).length:Int)==((L b 10).length:Int))else some false) (some false)) (some false)) (some false)) (some false)) (some false)) (some false)else some false) (some false)
noncomputable def Pz(m:Nat)(a:Q29)(b c:List Dt)(d e:Int):Option Bool:=
 a b c d (wrap .i64 (e+1))
noncomputable def PD(m:Nat)(a:Q29)(c d:List Dt)(e b:Int):Option Bool:=
 (idx d b).bind fun f=>(idx c b).bind fun g=>(zW m f g).bind fun h=>cond (!h) (some false) (Pz m a c d e b)
noncomputable def aay(m:Nat):Option Bool:=
 some true
noncomputable def ug(m:Nat):Nat->List Dt->List Dt->Int->Int->Option Bool
 |0,_,_,_,_=>none
 |c+1,d,e,a,b=>cond (b<a) (PD m (ug m c) d e a b) (aay m)
noncomputable def aaz(m:Nat)(a b:List Dt)(c d:Int):Option Bool:=
 ug m (succ m) a b c d
noncomputable def aaA(m:Nat)(a b:List Dt):Option Bool:=
 aaz m b a (a.length:Int) 0
noncomputable def i34:Nat->List Dt->List Dt->Option Bool
 |0,_,_=>none
 |m+1,a,b=>cond ((a.length:Int) !=(b.length:Int)) (some false) (aaA m a b)
noncomputable def zZ:Nat->List Dt->List Dt->Option Bool
 |0,_,_=>none
 |m+1,a,b=>(i34 m a b).bind fun c=>some c
noncomputable def yU(m:Nat)(a:Q7)(b:ByteArray)(c:Int):Option Bool:=
 a b (wrap .i64 (c+1))
noncomputable def rF(m:Nat)(a:Q7)(b:ByteArray)(c:Int)(d:Bool):Option Bool:=
 cond d (some false) (yU m a b c)
noncomputable def yV(m:Nat)(a:Q7)(b:ByteArray)(c:Int):Option Bool:=
 (idxS b c).bind fun d=>cond (d<33) (rF m a b c true) ((idxS b c).bind fun e=>cond (126<e) (rF m a b c true) ((idxS b c).bind fun f=>rF m a b c (f==46)))
noncomputable def yX(m:Nat):Option Bool:=
 some true
noncomputable def yY(m:Nat):Nat->ByteArray->Int->Option Bool
 |0,_,_=>none
 |c+1,a,b=>cond (b<(a.size:Int)) (yV m (yY m c) a b) (yX m)
noncomputable def yZ(m:Nat)(a:ByteArray)(b:Int):Option Bool:=
 yY m (succ m) a b
noncomputable def y5(m:Nat)(a:ByteArray):Option Bool:=
 yZ m a 0
noncomputable def rG(m:Nat)(a:ByteArray)(b:Bool):Option Bool:=
 cond b (some false) (y5 m a)
noncomputable def qT:Nat->ByteArray->Option Bool
 |0,_=>none
 |m+1,a=>cond ((a.size:Int)<1) (rG m a true) (cond (32<(a.size:Int)) (rG m a true) ((idxS a 0).bind fun b=>rG m a (b==36)))
noncomputable def aaB(m:Nat)(a:Q63)(b:List Dt)(c:Int):Option Bool:=
 a b (wrap .i64 (c+1))
noncomputable def aaC(m:Nat)(a:Q63)(b:List Dt)(c:Int):Option Bool:=
 (idx b c).bind fun d=>(qT m (toStr d)).bind fun e=>cond (!e) (some false) (aaB m a b c)
noncomputable def aoj(m:Nat):Option Bool:=
 some true
noncomputable def Ew(m:Nat):Nat->List Dt->Int->Option Bool
 |0,_,_=>none
 |c+1,a,b=>cond (b<(a.length:Int)) (aaC m (Ew m c) a b) (aoj m)
noncomputable def aok(m:Nat)(a:List Dt)(b:Int):Option Bool:=
 Ew m (succ m) a b
noncomputable def aol(m:Nat)(a:List Dt):Option Bool:=
 aok m a 0
noncomputable def Sc(m:Nat)(a:List Dt)(b:Bool):Option Bool:=
 cond b (some false) (aol m a)
noncomputable def zH:Nat->List Dt->Option Bool
 |0,_=>none
 |m+1,a=>cond ((a.length:Int)<1) (Sc m a true) (Sc m a (decide (16<(a.length:Int))))
noncomputable def yB:Nat->List Dt->Option Bool
 |0,_=>none
 |m+1,a=>(zH m a).bind fun b=>some (!b)
noncomputable def aaD(m:Nat)(a:Q30)(b:List Dt)(c d:Int):Option Int:=
 a b c (wrap .i64 (d+1))
noncomputable def aaE(m:Nat)(a:Q30)(c:List Dt)(d b:Int):Option Int:=
 (idx c b).bind fun e=>(yB m (toLst e)).bind fun f=>cond f (some b) (aaD m a c d b)
noncomputable def aom(m:Nat):Option Int:=
 some (-1)
noncomputable def Ey(m:Nat):Nat->List Dt->Int->Int->Option Int
 |0,_,_,_=>none
 |c+1,d,a,b=>cond (b<a) (aaE m (Ey m c) d a b) (aom m)
noncomputable def aon(m:Nat)(a:List Dt)(b c:Int):Option Int:=
 Ey m (succ m) a b c
noncomputable def i9:Nat->List Dt->Option Int
 |0,_=>none
 |m+1,a=>aon m a (a.length:Int) 0
noncomputable def i8:Nat->List Dt->Option Bool
 |0,_=>none
 |m+1,a=>(i9 m a).bind fun b=>some (decide (0<=b))
noncomputable def yF:Nat->Int->Option Int
 |0,_=>none
 |m+1,a=>some (xorI IntKind.u64 (shlI IntKind.u64 (wrap IntKind.u64 a) 1) (wrap IntKind.u64 (shrI IntKind.i64 a 63)))
noncomputable def PE(m:Nat)(a:Q76)(b:Int)(c:List Dt):Option (List Dt):=
 (app c [int (orI IntKind.u8 (wrap IntKind.u8 b) 128)]).bind fun d=>a (shrI IntKind.u64 b 7) d
noncomputable def PG(m:Nat)(a:Int)(b:List Dt):Option (List Dt):=
 (app b [int (wrap IntKind.u8 a)]).bind fun c=>some c
noncomputable def uh(m:Nat):Nat->Int->List Dt->Option (List Dt)
 |0,_,_=>none
 |c+1,a,b=>cond (128<=a) (PE m (uh m c) a b) (PG m a b)
noncomputable def aaF(m:Nat)(a:Int)(b:List Dt):Option (List Dt):=
 uh m (succ m) a b
noncomputable def i61:Nat->Int->List Dt->Option (List Dt)
 |0,_,_=>none
 |m+1,a,b=>(yF m a).bind fun c=>aaF m c b
noncomputable def i63:Nat->ByteArray->List Dt->Option (List Dt)
 |0,_,_=>none
 |m+1,a,b=>(i61 m (a.size:Int) b).bind fun c=>(app c (bytesD a)).bind fun d=>some d
noncomputable def jF(m:Nat)(a:Q14)(b:List Dt):Option (List Dt):=
 some b
noncomputable def PI(m:Nat)(b:Q14)(a:Q31)(c:List Dt)(d e:Int)(f:List Dt):Option (List Dt):=
 a c d (wrap .i64 (e+1)) f
noncomputable def PK(m:Nat)(a:Q14)(b:Q31)(c:List Dt)(e d:Int)(f:List Dt):Option (List Dt):=
 (idx c d).bind fun g=>(a g f).bind fun h=>PI m a b c e d h
noncomputable def uj(m:Nat)(a:Q14):Nat->List Dt->Int->Int->List Dt->Option (List Dt)
 |0,_,_,_,_=>none
 |e+1,f,b,c,d=>cond (c<b) (PK m a (uj m a e) f b c d) (jF m a d)
noncomputable def aaG(m:Nat)(a:Q14)(b:List Dt)(c d:Int)(e:List Dt):Option (List Dt):=
 uj m a (succ m) b c d e
noncomputable def HV(m:Nat)(b:Q14)(a:Q31)(c:List Dt)(d e:Int)(f:List Dt):Option (List Dt):=
 a c d (wrap .i64 (e+1)) f
noncomputable def PL(m:Nat)(a:Q14)(b:Q31)(e:List Dt)(h f:Int)(i:List Dt):Option (List Dt):=
 (idx e f).bind fun g=>(i63 m (S g 0) i).bind fun c=>(a (fld g 1) c).bind fun d=>HV m a b e h f d
noncomputable def um(m:Nat)(a:Q14):Nat->List Dt->Int->Int->List Dt->Option (List Dt)
 |0,_,_,_,_=>none
 |e+1,f,b,c,d=>cond (c<b) (PL m a (um m a e) f b c d) (jF m a d)
noncomputable def aaH(m:Nat)(a:Q14)(b:List Dt)(c d:Int)(e:List Dt):Option (List Dt):=
 um m a (succ m) b c d e
noncomputable def PN(m:Nat)(a:Q14)(d:Int)(e:Bool)(c:List Dt)(b:Dt):Option (List Dt):=
 cond e ((i63 m (S b 2) c).bind fun f=>jF m a f) (cond (d==8) ((app c (bytesD (S b 2))).bind fun g=>jF m a g) (cond (d==6) ((i61 m ((L b 3).length:Int) c).bind fun h=>aaG m a (L b 3) ((L b 3).length:Int) 0 h) (cond (d==5) ((i61 m ((L b 4).length:Int) c).bind fun i=>aaH m a (L b 4) ((L b 4).length:Int) 0 i) (jF m a c))))
noncomputable def PO(m:Nat)(a:Q14)(b:Int)(e:Bool)(c:List Dt)(d:Dt):Option (List Dt):=
 cond e ((i61 m (I d 1) c).bind fun f=>jF m a f) (cond (b==9) ((app c [int (wrap IntKind.u8 (I d 1))]).bind fun g=>jF m a g) (cond (b==4) (PN m a b (b==4) c d) (PN m a b (b==7) c d)))
noncomputable def i60:Nat->Dt->List Dt->Option (List Dt)
 |0,_,_=>none
 |m+1,a,c=>(app c [int (wrap IntKind.u8 (I a 0))]).bind fun b=>cond (I a 0==3) (PO m (i60 m) (I a 0) (I a 0==3) b a) (PO m (i60 m) (I a 0) (I a 0==10) b a)
noncomputable def aaI(m:Nat)(a:Q39)(b:ByteArray)(c d:Int):Option (Int×Bool):=
 a b c (wrap .i64 (d+1))
noncomputable def aaJ(m:Nat)(a:Q39)(b:ByteArray)(d c:Int):Option (Int×Bool):=
 (idxS b c).bind fun e=>aaI m a b (wrap .i64 (wrap .i64 (d*10)+wrap .i64 (wrap IntKind.u8 (e-48)))) c
noncomputable def Sd(m:Nat)(a:Q39)(b:ByteArray)(c d:Int)(e:Bool):Option (Int×Bool):=
 cond e (some (0,false)) (aaJ m a b c d)
noncomputable def aaK(m:Nat)(a:Q39)(b:ByteArray)(d c:Int):Option (Int×Bool):=
 (idxS b c).bind fun e=>cond (e<48) (Sd m a b d c true) ((idxS b c).bind fun f=>Sd m a b d c (decide (57<f)))
noncomputable def aoo(m:Nat)(a:Int):Option (Int×Bool):=
 some (a,true)
noncomputable def Ez(m:Nat):Nat->ByteArray->Int->Int->Option (Int×Bool)
 |0,_,_,_=>none
 |d+1,a,b,c=>cond (c<(a.size:Int)) (aaK m (Ez m d) a b c) (aoo m b)
noncomputable def aop(m:Nat)(a:ByteArray)(b c:Int):Option (Int×Bool):=
 Ez m (succ m) a b c
noncomputable def aoq(m:Nat)(a:ByteArray):Option (Int×Bool):=
 aop m a 0 0
noncomputable def EA(m:Nat)(a:ByteArray)(b:Bool):Option (Int×Bool):=
 cond b (some (0,false)) (aoq m a)
noncomputable def qY:Nat->ByteArray->Option (Int×Bool)
 |0,_=>none
 |m+1,a=>cond ((a.size:Int)<1) (EA m a true) (cond (4<(a.size:Int)) (EA m a true) ((idxS a 0).bind fun b=>cond (b==48) (EA m a (decide (1<(a.size:Int)))) (EA m a false)))
noncomputable def aaL(m:Nat)(a:Q64)(b:ByteArray)(c:Int)(d:Dt):Option Int:=
 a b (wrap .i64 (c+1)) d
noncomputable def aaM(m:Nat)(a:Q64)(c:ByteArray)(b:Int)(d:Dt):Option Int:=
 (idx (L d 4) b).bind fun e=>cond ((S e 0).toList==c.toList) (some b) (aaL m a c b d)
noncomputable def aaN(m:Nat):Option Int:=
 some (-1)
noncomputable def EB(m:Nat):Nat->ByteArray->Int->Dt->Option Int
 |0,_,_,_=>none
 |c+1,d,a,b=>cond (a<((L b 4).length:Int)) (aaM m (EB m c) d a b) (aaN m)
noncomputable def aor(m:Nat)(a:ByteArray)(b:Int)(c:Dt):Option Int:=
 EB m (succ m) a b c
noncomputable def aos(m:Nat)(a:ByteArray)(b:Dt):Option Int:=
 aor m a 0 b
noncomputable def zR:Nat->Dt->ByteArray->Option Int
 |0,_,_=>none
 |m+1,a,b=>cond (I a 0 !=5) (some (-1)) (aos m b a)
noncomputable def Sg(m:Nat)(a:Q42)(b:ByteArray)(c d:Int)(e f g:Dt)(h:List Dt):Option Dt:=
 a b c (wrap .i64 (d+1)) e f g h
noncomputable def JM(m:Nat)(a:Q42)(b:ByteArray)(c d:Int)(e f g:Dt)(h:List Dt)(i:Dt):Option Dt:=
 (app h [i]).bind fun j=>Sg m a b c d e f g j
noncomputable def Si(m:Nat)(a:Q42)(f:ByteArray)(c b:Int)(d e g:Dt)(h:List Dt):Option Dt:=
 (idx (L d 4) b).bind fun i=>cond (b==c) (JM m a f c b d e g h (agg [str (S i 0),e])) (JM m a f c b d e g h i)
noncomputable def JN(m:Nat)(a c:Dt)(b:List Dt):Option Dt:=
 some (agg [int (I a 0),int (I a 1),str (S a 2),lst (L a 3),lst b])
noncomputable def Sj(m:Nat)(d:ByteArray)(e:Int)(a f b:Dt)(c:List Dt):Option Dt:=
 cond (e<0) ((app c [agg [str d,f]]).bind fun g=>JN m a b g) (JN m a b c)
noncomputable def wu(m:Nat):Nat->ByteArray->Int->Int->Dt->Dt->Dt->List Dt->Option Dt
 |0,_,_,_,_,_,_,_=>none
 |h+1,b,c,d,a,e,f,g=>cond (d<((L a 4).length:Int)) (Si m (wu m h) b c d a e f g) (Sj m b c a e f g)
noncomputable def aot(m:Nat)(a:ByteArray)(b c:Int)(d e f:Dt)(g:List Dt):Option Dt:=
 wu m (succ m) a b c d e f g
noncomputable def Sk(m:Nat)(a:ByteArray)(b c d:Dt):Option Dt:=
 (zR m b a).bind fun e=>aot m a e 0 b c d []
noncomputable def zD:Nat->Dt->ByteArray->Dt->Option Dt
 |0,_,_,_=>none
 |m+1,a,b,c=>cond (I a 0 !=5) (some a) (Sk m b a c aX)
noncomputable def JO(m:Nat)(a:Q43)(b c:Int)(d e:Dt)(f g:Int)(h:ByteArray)(i j:List Dt):Option Dt:=
 a b (wrap .i64 (c+1)) d e f g h i j
noncomputable def aaO(m:Nat)(a:Q43)(b c:Int)(d e:Dt)(f g:Int)(h:ByteArray)(i j:List Dt)(k:Dt):Option Dt:=
 cond (b==1) ((app j [k]).bind fun l=>JO m a b c d e f g h i l) none
noncomputable def aaP(m:Nat)(a:Q43)(d b:Int)(c e:Dt)(f g:Int)(h:ByteArray)(i j:List Dt):Option Dt:=
 (idx (L c 4) b).bind fun k=>cond ((S k 0).toList==[95,105,100]) (JO m a d b c e f g h i j) (aaO m a d b c e f g h i j k)
noncomputable def aou(m:Nat)(f:Dt)(a b:Int)(c:ByteArray)(d e:List Dt):Option Dt:=
 some (agg [int a,int b,str c,lst d,lst e])
noncomputable def EC(m:Nat):Nat->Int->Int->Dt->Dt->Int->Int->ByteArray->List Dt->List Dt->Option Dt
 |0,_,_,_,_,_,_,_,_,_=>none
 |i+1,j,a,b,c,d,e,f,g,h=>cond (a<((L b 4).length:Int)) (aaP m (EC m i) j a b c d e f g h) (aou m c d e f g h)
noncomputable def aov(m:Nat)(a b:Int)(c d:Dt)(e f:Int)(g:ByteArray)(h i:List Dt):Option Dt:=
 EC m (succ m) a b c d e f g h i
noncomputable def aow(m:Nat)(a:Int)(b c:Dt)(d e:Int)(f:ByteArray)(g h:List Dt):Option Dt:=
 aov m a 0 b c d e f g h
noncomputable def y7(m:Nat)(a:Q44)(b c:Int)(d e f:Dt):Option Dt:=
 a b (wrap .i64 (c+1)) d e f
noncomputable def HY(m:Nat)(a:Q44)(b d:Int)(e f g c:Dt):Option Dt:=
 cond (b==1) none ((zD m g (S c 0) (fld c 1)).bind fun h=>y7 m a b d e f h)
noncomputable def PS(m:Nat)(a:Q44)(d b:Int)(c e f:Dt):Option Dt:=
 (idx (L c 4) b).bind fun g=>cond ((S g 0).toList==[95,105,100]) (y7 m a d b c e f) (HY m a d b c e f g)
noncomputable def aaQ(m:Nat)(b a:Dt):Option Dt:=
 some a
noncomputable def ED(m:Nat):Nat->Int->Int->Dt->Dt->Dt->Option Dt
 |0,_,_,_,_,_=>none
 |e+1,f,a,b,c,d=>cond (a<((L b 4).length:Int)) (PS m (ED m e) f a b c d) (aaQ m c d)
noncomputable def aox(m:Nat)(a b:Int)(c d e:Dt):Option Dt:=
 ED m (succ m) a b c d e
noncomputable def aoy(m:Nat)(a:Int)(b c d:Dt):Option Dt:=
 aox m a 0 b c d
noncomputable def qM:Nat->Int->Dt->Dt->Option Dt
 |0,_,_,_=>none
 |m+1,a,b,c=>cond (a==1) ((idx (L b 4) 0).bind fun d=>aow m a c aX 5 0 (ByteArray.mk (List.toArray [])) [] [d]) (aoy m a c aX b)
noncomputable def aaR(m:Nat)(a:Int)(b d:Dt):Option (Dt×Bool):=
 (idx (L b 4) a).bind fun c=>some (fld c 1,true)
noncomputable def yI:Nat->Dt->ByteArray->Option (Dt×Bool)
 |0,_,_=>none
 |m+1,a,c=>(zR m a c).bind fun b=>cond (b<0) (some (aX,false)) (aaR m b a aX)
noncomputable def y8(m:Nat)(a:Q45)(b:Dt):Option Dt:=
 some aX
noncomputable def EF(m:Nat)(a:Q45)(b:List Dt)(c:Int)(d:Bool)(e f:Dt):Option Dt:=
 cond d ((idx (L e 3) c).bind fun g=>(cutL b 1 (b.length:Int)).bind fun h=>(a g h).bind fun i=>some i) (y8 m a f)
noncomputable def wz(m:Nat)(a:Q45)(d:List Dt)(b e:Dt):Option Dt:=
 cond (I b 0==6) ((idx d 0).bind fun f=>(qY m (toStr f)).bind fun c=>cond c.2 (EF m a d c.1 (decide (c.1<((L b 3).length:Int))) b e) (EF m a d c.1 false b e)) (y8 m a e)
noncomputable def aaS(m:Nat)(a:Q45)(b:List Dt)(c d:Dt):Option Dt:=
 cond (I c 0==5) ((idx b 0).bind fun f=>(yI m c (toStr f)).bind fun e=>cond e.2 ((cutL b 1 (b.length:Int)).bind fun g=>(a e.1 g).bind fun h=>some h) (wz m a b c d)) (wz m a b c d)
noncomputable def zO:Nat->Dt->List Dt->Option Dt
 |0,_,_=>none
 |m+1,a,b=>cond ((b.length:Int)==0) (some a) (aaS m (zO m) b a aX)
noncomputable def aoz(m:Nat)(b a:Dt):Option Dt:=
 some a
noncomputable def yA:Nat->Dt->List Dt->Option Dt
 |0,_,_=>none
 |m+1,b,c=>(zO m b c).bind fun a=>cond (I a 0==0) ((yQ m).bind fun d=>some d) (aoz m aX a)
noncomputable def y9(m:Nat)(b:Q23)(a:Q65)(c:List Dt)(d:Int)(e:Bool)(f:Int)(g:List Dt)(h:Dt)(i:List Dt):Option (List Dt×List Dt):=
 a c d e (wrap .i64 (f+1)) g h i
noncomputable def PU(m:Nat)(a:Q23)(b:Q65)(c:List Dt)(d:Int)(i:Bool)(e:Int)(f:List Dt)(g:Dt)(h:List Dt):Option (List Dt×List Dt):=
 cond i ((inL f d).bind fun q=>(f[d.toNat]?).bind fun j=>(idx c e).bind fun k=>(yA m j (toLst k)).bind fun l=>(idx c e).bind fun n=>(yA m g (toLst n)).bind fun o=>(qA m l o).bind fun p=>y9 m a b c d (p==0) e f g h) (y9 m a b c d false e f g h)
noncomputable def ze(m:Nat)(a:Q23)(b:List Dt)(c:Int)(d:List Dt)(e:Dt)(f:List Dt):Option (List Dt×List Dt):=
 a b (wrap .i64 (c+1)) d e f
noncomputable def HZ(m:Nat)(a:Q23)(c:List Dt)(b:Int)(g:Bool)(d:List Dt)(e:Dt)(f:List Dt):Option (List Dt×List Dt):=
 cond g ((app f [int b]).bind fun h=>ze m a c b d e h) (ze m a c b d e f)
noncomputable def pR(m:Nat)(a:Q23):Nat->List Dt->Int->Bool->Int->List Dt->Dt->List Dt->Option (List Dt×List Dt)
 |0,_,_,_,_,_,_,_=>none
 |i+1,b,c,d,e,f,g,h=>cond (e<(b.length:Int)) (PU m a (pR m a i) b c d e f g h) (HZ m a b c d f g h)
noncomputable def aaT(m:Nat)(a:Q23)(b:List Dt)(c:Int)(d:Bool)(e:Int)(f:List Dt)(g:Dt)(h:List Dt):Option (List Dt×List Dt):=
 pR m a (succ m) b c d e f g h
noncomputable def aaU(m:Nat)(a:Q23)(b:List Dt)(c:Int)(d:List Dt)(e:Dt)(f:List Dt):Option (List Dt×List Dt):=
 aaT m a b c true 0 d e f
noncomputable def aaV(m:Nat)(a b:List Dt):Option (List Dt×List Dt):=
 some (b,a)
noncomputable def pU(m:Nat):Nat->List Dt->Int->List Dt->Dt->List Dt->Option (List Dt×List Dt)
 |0,_,_,_,_,_=>none
 |d+1,e,b,a,f,c=>cond (b<(a.length:Int)) (aaU m (pU m d) e b a f c) (aaV m a c)
noncomputable def aaW(m:Nat)(a:List Dt)(b:Int)(c:List Dt)(d:Dt)(e:List Dt):Option (List Dt×List Dt):=
 pU m (succ m) a b c d e
noncomputable def i28:Nat->List Dt->Dt->List Dt->Option (List Dt×List Dt)
 |0,_,_,_=>none
 |m+1,a,b,c=>aaW m a 0 c b []
noncomputable def aaX(m:Nat)(a:Q77)(b:Dt)(c d:Int):Option Int:=
 (a b d c).bind fun e=>some e.1
noncomputable def uo(m:Nat)(b:Q8)(a:Q11)(c:List Dt)(d e f g:Int):Option (Int×Int):=
 a c d (wrap .i64 (e+1)) f g
noncomputable def uq(m:Nat)(a:Q8)(b:Q11)(d:List Dt)(f e g h:Int):Option (Int×Int):=
 (idx d e).bind fun i=>(a i g h).bind fun c=>cond (!c.1) (some (c.2.1,c.2.2)) (uo m a b d f e c.2.1 c.2.2)
noncomputable def pV(m:Nat)(a:Q8):Nat->List Dt->Int->Int->Int->Int->Option (Int×Int)
 |0,_,_,_,_,_=>none
 |f+1,g,b,c,d,e=>cond (c<b) (uq m a (pV m a f) g b c d e) (some (d,e))
noncomputable def uw(m:Nat)(a:Q8)(b:List Dt)(c d e f:Int):Option (Int×Int):=
 pV m a (succ m) b c d e f
noncomputable def uy(m:Nat)(b:Q8)(a:Q11)(c:List Dt)(d e f g:Int):Option (Int×Int):=
 a c d (wrap .i64 (e+1)) f g
noncomputable def uz(m:Nat)(a:Q8)(b:Q11)(d:List Dt)(f e g h:Int):Option (Int×Int):=
 (idx d e).bind fun i=>(a (fld i 1) g h).bind fun c=>cond (!c.1) (some (c.2.1,c.2.2)) (uy m a b d f e c.2.1 c.2.2)
noncomputable def pW(m:Nat)(a:Q8):Nat->List Dt->Int->Int->Int->Int->Option (Int×Int)
 |0,_,_,_,_,_=>none
 |f+1,g,b,c,d,e=>cond (c<b) (uz m a (pW m a f) g b c d e) (some (d,e))
noncomputable def uD(m:Nat)(a:Q8)(b:List Dt)(c d e f:Int):Option (Int×Int):=
 pW m a (succ m) b c d e f
mutual
noncomputable def z7:Nat->Dt->Int->Option Int
 |0,_,_=>none
 |m+1,b,a=>cond (1==a) (some 1) (aaX m (i89 m) b a 1)
noncomputable def i89:Nat->Dt->Int->Int->Option (Int×Int)
 |0,_,_,_=>none
 |m+1,a,b,c=>cond (I a 0==6) (uw m (i90 m) (L a 3) ((L a 3).length:Int) 0 b c) (cond (I a 0==5) (uD m (i90 m) (L a 4) ((L a 4).length:Int) 0 b c) (some (b,c)))
noncomputable def i90:Nat->Dt->Int->Int->Option (Bool×Int×Int)
 |0,_,_,_=>none
 |m+1,d,a,b=>(z7 m d (wrap .i64 (b-a))).bind fun c=>some (decide (wrap .i64 (a+c)<b),wrap .i64 (a+c),b)
end
noncomputable def yK:Nat->Dt->Option Int
 |0,_=>none
 |m+1,a=>(z7 m a 1025).bind fun b=>some b
noncomputable def aaY(m:Nat)(a:Q77)(b:Dt)(c:Int):Option Int:=
 (a b 0 c).bind fun d=>some (wrap .i64 (1+d.1))
noncomputable def uE(m:Nat)(b:Q8)(a:Q11)(c:List Dt)(d e f g:Int):Option (Int×Int):=
 a c d (wrap .i64 (e+1)) f g
noncomputable def uF(m:Nat)(a:Q8)(b:Q11)(d:List Dt)(f e g h:Int):Option (Int×Int):=
 (idx d e).bind fun i=>(a i g h).bind fun c=>cond (!c.1) (some (c.2.1,c.2.2)) (uE m a b d f e c.2.1 c.2.2)
noncomputable def pX(m:Nat)(a:Q8):Nat->List Dt->Int->Int->Int->Int->Option (Int×Int)
 |0,_,_,_,_,_=>none
 |f+1,g,b,c,d,e=>cond (c<b) (uF m a (pX m a f) g b c d e) (some (d,e))
noncomputable def uG(m:Nat)(a:Q8)(b:List Dt)(c d e f:Int):Option (Int×Int):=
 pX m a (succ m) b c d e f
noncomputable def uI(m:Nat)(b:Q8)(a:Q11)(c:List Dt)(d e f g:Int):Option (Int×Int):=
 a c d (wrap .i64 (e+1)) f g
noncomputable def uJ(m:Nat)(a:Q8)(b:Q11)(d:List Dt)(f e g h:Int):Option (Int×Int):=
 (idx d e).bind fun i=>(a (fld i 1) g h).bind fun c=>cond (!c.1) (some (c.2.1,c.2.2)) (uI m a b d f e c.2.1 c.2.2)
noncomputable def pY(m:Nat)(a:Q8):Nat->List Dt->Int->Int->Int->Int->Option (Int×Int)
 |0,_,_,_,_,_=>none
 |f+1,g,b,c,d,e=>cond (c<b) (uJ m a (pY m a f) g b c d e) (some (d,e))
noncomputable def uK(m:Nat)(a:Q8)(b:List Dt)(c d e f:Int):Option (Int×Int):=
 pY m a (succ m) b c d e f
mutual
noncomputable def z8:Nat->Dt->Int->Option Int
 |0,_,_=>none
 |m+1,b,a=>cond (a==1) (some 1) (aaY m (i91 m) b a)
noncomputable def i91:Nat->Dt->Int->Int->Option (Int×Int)
 |0,_,_,_=>none
 |m+1,a,b,c=>cond (I a 0==6) (uG m (i92 m) (L a 3) ((L a 3).length:Int) 0 b c) (cond (I a 0==5) (uK m (i92 m) (L a 4) ((L a 4).length:Int) 0 b c) (some (b,c)))
noncomputable def i92:Nat->Dt->Int->Int->Option (Bool×Int×Int)
 |0,_,_,_=>none
 |m+1,d,a,c=>(z8 m d (wrap .i64 (c-1))).bind fun b=>some (decide (cond (a<b) b a<wrap .i64 (c-1)),cond (a<b) b a,c)
end
noncomputable def yM:Nat->Dt->Option Int
 |0,_=>none
 |m+1,a=>(z8 m a 17).bind fun b=>some b
noncomputable def aaZ(m:Nat)(a:Q66)(b c:Int):Option Int:=
 a b (shrI IntKind.u64 c 7)
noncomputable def aa0(m:Nat)(a:Q66)(b c:Int):Option Int:=
 aaZ m a (wrap .i64 (b+1)) c
noncomputable def aoA(m:Nat)(a:Int):Option Int:=
 some a
noncomputable def zf(m:Nat):Nat->Int->Int->Option Int
 |0,_,_=>none
 |c+1,a,b=>cond (128<=b) (aa0 m (zf m c) a b) (aoA m a)
noncomputable def aa1(m:Nat)(a b:Int):Option Int:=
 zf m (succ m) a b
noncomputable def qZ:Nat->Int->Option Int
 |0,_=>none
 |m+1,a=>(yF m a).bind fun b=>aa1 m 1 b
noncomputable def jS(m:Nat)(a:Q15)(b:Int):Option Int:=
 some b
noncomputable def zh(m:Nat)(b:Q15)(a:Q21)(c:Int)(d:List Dt)(e f:Int):Option Int:=
 a c d e (wrap .i64 (f+1))
noncomputable def zk(m:Nat)(a:Q15)(b:Q21)(e:Int)(c:List Dt)(f d:Int):Option Int:=
 (idx c d).bind fun g=>(a g).bind fun h=>zh m a b (wrap .i64 (e+h)) c f d
noncomputable def EG(m:Nat)(a:Q15):Nat->Int->List Dt->Int->Int->Option Int
 |0,_,_,_,_=>none
 |e+1,b,f,c,d=>cond (d<c) (zk m a (EG m a e) b f c d) (jS m a b)
noncomputable def zl(m:Nat)(a:Q15)(b:Int)(c:List Dt)(d e:Int):Option Int:=
 EG m a (succ m) b c d e
noncomputable def p8(m:Nat)(b:Q15)(a:Q21)(c:Int)(d:List Dt)(e f:Int):Option Int:=
 a c d e (wrap .i64 (f+1))
noncomputable def zn(m:Nat)(a:Q15)(b:Q21)(f:Int)(d:List Dt)(g e:Int):Option Int:=
 (idx d e).bind fun c=>(qZ m ((S c 0).size:Int)).bind fun h=>(a (fld c 1)).bind fun i=>p8 m a b (wrap .i64 (f+wrap .i64 (wrap .i64 (h+((S c 0).size:Int))+i))) d g e
noncomputable def EH(m:Nat)(a:Q15):Nat->Int->List Dt->Int->Int->Option Int
 |0,_,_,_,_=>none
 |e+1,b,f,c,d=>cond (d<c) (zn m a (EH m a e) b f c d) (jS m a b)
noncomputable def zo(m:Nat)(a:Q15)(b:Int)(c:List Dt)(d e:Int):Option Int:=
 EH m a (succ m) b c d e
noncomputable def wB(m:Nat)(a:Q15)(c d:Int)(e:Bool)(b:Dt):Option Int:=
 cond e ((qZ m ((S b 2).size:Int)).bind fun f=>jS m a (wrap .i64 (c+wrap .i64 (f+((S b 2).size:Int))))) (cond (d==8) (jS m a (wrap .i64 (c+((S b 2).size:Int)))) (cond (d==6) ((qZ m ((L b 3).length:Int)).bind fun g=>zl m a (wrap .i64 (c+g)) (L b 3) ((L b 3).length:Int) 0) (cond (d==5) ((qZ m ((L b 4).length:Int)).bind fun h=>zo m a (wrap .i64 (c+h)) (L b 4) ((L b 4).length:Int) 0) (jS m a c))))
noncomputable def wC(m:Nat)(a:Q15)(c b:Int)(e:Bool)(d:Dt):Option Int:=
 cond e ((qZ m (I d 1)).bind fun f=>jS m a (wrap .i64 (c+f))) (cond (b==9) (jS m a (wrap .i64 (c+1))) (cond (b==4) (wB m a c b (b==4) d) (wB m a c b (b==7) d)))
noncomputable def qF:Nat->Dt->Option Int
 |0,_=>none
 |m+1,a=>cond (I a 0==3) (wC m (qF m) 1 (I a 0) (I a 0==3) a) (wC m (qF m) 1 (I a 0) (I a 0==10) a)
noncomputable def yP:Nat->Int->Option Bool
 |0,_=>none
 |m+1,a=>some (a !=a)
noncomputable def aa2(m:Nat):Option Int:=
 some (-1)
noncomputable def aa3(m:Nat):Option Int:=
 some 0
noncomputable def aa4(m:Nat)(a b:Int):Option Int:=
 cond (b<a) (some 1) (aa3 m)
noncomputable def aa5(m:Nat)(a b:Int):Option Int:=
 cond (a<b) (some (-1)) (aa4 m a b)
noncomputable def aa6(m:Nat)(a b:Int)(c:Bool):Option Int:=
 cond c (some 1) (aa5 m a b)
noncomputable def zJ:Nat->Int->Int->Option Int
 |0,_,_=>none
 |m+1,a,b=>(yP m a).bind fun d=>(yP m b).bind fun c=>cond d (cond c (some 0) (aa2 m)) (aa6 m a b c)
noncomputable def aa7(m:Nat)(b:Q3)(a:Q28)(c d:Int)(e f:Dt):Option Int:=
 a c (wrap .i64 (d+1)) e f
noncomputable def aa8(m:Nat)(a:Q3)(b:Q28)(g c:Int)(d e:Dt):Option Int:=
 (idx (L d 3) c).bind fun h=>(idx (L e 3) c).bind fun i=>(a h i).bind fun f=>cond (f !=0) (some f) (aa7 m a b g c d e)
noncomputable def aa9(m:Nat)(a:Q3)(b c:Dt):Option Int:=
 (zJ m ((L b 3).length:Int) ((L c 3).length:Int)).bind fun d=>some d
noncomputable def EI(m:Nat)(a:Q3):Nat->Int->Int->Dt->Dt->Option Int
 |0,_,_,_,_=>none
 |f+1,b,c,d,e=>cond (c<b) (aa8 m a (EI m a f) b c d e) (aa9 m a d e)
noncomputable def Sl(m:Nat)(a:Q3)(b c:Int)(d e:Dt):Option Int:=
 EI m a (succ m) b c d e
noncomputable def PV(m:Nat)(b:Q3)(a:Q28)(c d:Int)(e f:Dt):Option Int:=
 a c (wrap .i64 (d+1)) e f
noncomputable def PW(m:Nat)(a:Q3)(b:Q28)(f i j:Int)(g h:Dt):Option Int:=
 (idx (L g 4) f).bind fun d=>(idx (L h 4) f).bind fun e=>(a (fld d 1) (fld e 1)).bind fun c=>cond (c !=0) (some c) (PV m a b i j g h)
noncomputable def PX(m:Nat)(a:Q3)(b:Q28)(g c:Int)(d e:Dt):Option Int:=
 (idx (L d 4) c).bind fun h=>(idx (L e 4) c).bind fun i=>(strings_Compare (S h 0) (S i 0)).bind fun f=>cond (f !=0) (some f) (PW m a b c g c d e)
noncomputable def PY(m:Nat)(a:Q3)(c d:Dt):Option Int:=
 (zJ m ((L c 4).length:Int) ((L d 4).length:Int)).bind fun b=>some b
noncomputable def EJ(m:Nat)(a:Q3):Nat->Int->Int->Dt->Dt->Option Int
 |0,_,_,_,_=>none
 |f+1,b,c,d,e=>cond (c<b) (PX m a (EJ m a f) b c d e) (PY m a d e)
noncomputable def Sm(m:Nat)(a:Q3)(b c:Int)(d e:Dt):Option Int:=
 EJ m a (succ m) b c d e
noncomputable def PZ(m:Nat)(a:Q3):Option Int:=
 some 0
noncomputable def JQ(m:Nat)(a:Q3)(d:Int)(e:Bool)(b c:Dt):Option Int:=
 cond e ((strings_Compare (S b 2) (S c 2)).bind fun f=>some f) (cond (d==6) (Sl m a (cond (((L c 3).length:Int)<((L b 3).length:Int)) ((L c 3).length:Int) ((L b 3).length:Int)) 0 b c) (cond (d==5) (Sm m a (cond (((L c 4).length:Int)<((L b 4).length:Int)) ((L c 4).length:Int) ((L b 4).length:Int)) 0 b c) (PZ m a)))
noncomputable def JR(m:Nat)(a:Q3)(b:Int)(e:Bool)(c d:Dt):Option Int:=
 cond e ((zJ m (I c 1) (I d 1)).bind fun f=>some f) (cond (b==4) (JQ m a b (b==4) c d) (cond (b==7) (JQ m a b (b==7) c d) (JQ m a b (b==8) c d)))
noncomputable def JU(m:Nat)(a:Q3)(b c:Dt):Option Int:=
 cond (I b 0==3) (JR m a (I b 0) (I b 0==3) b c) (cond (I b 0==9) (JR m a (I b 0) (I b 0==9) b c) (JR m a (I b 0) (I b 0==10) b c))
noncomputable def qE:Nat->Dt->Dt->Option Int
 |0,_,_=>none
 |m+1,a,b=>cond (I a 0 !=I b 0) ((zJ m (I a 0) (I b 0)).bind fun c=>some c) (JU m (qE m) a b)
noncomputable def yL:Nat->Dt->Dt->Option Bool
 |0,_,_=>none
 |m+1,a,b=>(qE m a b).bind fun c=>some (c==0)
noncomputable def zq(m:Nat)(a:Q46)(b:ByteArray)(c d:Int):Option Bool:=
 a b c (wrap .i64 (d+1))
noncomputable def rH(m:Nat)(a:Q46)(b:ByteArray)(c d:Int)(e:Bool):Option Bool:=
 cond e (some false) (zq m a b c d)
noncomputable def zu(m:Nat)(a:Q46)(b:ByteArray)(d c:Int):Option Bool:=
 (idxS b c).bind fun e=>cond (e<33) (rH m a b d c true) ((idxS b c).bind fun f=>cond (126<f) (rH m a b d c true) ((idxS b c).bind fun g=>rH m a b d c (g==46)))
noncomputable def zw(m:Nat):Option Bool:=
 some true
noncomputable def zy(m:Nat):Nat->ByteArray->Int->Int->Option Bool
 |0,_,_,_=>none
 |c+1,d,a,b=>cond (b<a) (zu m (zy m c) d a b) (zw m)
noncomputable def Aa(m:Nat)(a:ByteArray)(b c:Int):Option Bool:=
 zy m (succ m) a b c
noncomputable def Ab(m:Nat)(a:ByteArray):Option Bool:=
 Aa m a (a.size:Int) 0
noncomputable def rJ(m:Nat)(a:ByteArray)(b:Bool):Option Bool:=
 cond b (some false) (Ab m a)
noncomputable def qN:Nat->ByteArray->Option Bool
 |0,_=>none
 |m+1,a=>cond ((a.size:Int)<1) (rJ m a true) (cond (32<(a.size:Int)) (rJ m a true) ((idxS a 0).bind fun b=>rJ m a (b==36)))
noncomputable def H6(m:Nat)(b:Q5)(c:Q10)(a:Q16)(d:List Dt)(e f:Int):Option Bool:=
 a d e (wrap .i64 (f+1))
noncomputable def Sn(m:Nat)(a:Q5)(b:Q10)(c:Q16)(d:List Dt)(f e:Int):Option Bool:=
 (idx d e).bind fun g=>(a g).bind fun h=>cond (!h) (some false) (H6 m a b c d f e)
noncomputable def H7(m:Nat)(a:Q5)(b:Q10):Option Bool:=
 some true
noncomputable def Ac(m:Nat)(a:Q5)(b:Q10):Nat->List Dt->Int->Int->Option Bool
 |0,_,_,_=>none
 |e+1,f,c,d=>cond (d<c) (Sn m a b (Ac m a b e) f c d) (H7 m a b)
noncomputable def JV(m:Nat)(a:Q5)(b:Q10)(c:List Dt)(d e:Int):Option Bool:=
 Ac m a b (succ m) c d e
noncomputable def Ad(m:Nat)(a:Q5)(b:Q10):Option Bool:=
 some false
noncomputable def nL(m:Nat)(b:Q5)(a:Q10)(d:Int)(e:Bool)(c:Dt):Option Bool:=
 cond e (some true) (cond (d==9) (cond (I c 1==0) (some true) (some (I c 1==1))) (cond (d==10) (some (decide (0<=I c 1))) (cond (d==4) (cond (((S c 2).size:Int)<=4096) ((utf8_ValidString (S c 2)).bind fun f=>some f) (some false)) (cond (d==7) (some (decide (((S c 2).size:Int)<=4096))) (cond (d==8) (some (((S c 2).size:Int)==12)) (cond (d==6) (JV m b a (L c 3) ((L c 3).length:Int) 0) (cond (d==5) ((a (L c 4)).bind fun g=>some g) (Ad m b a))))))))
noncomputable def Ae(m:Nat)(a:Q5)(b:Q10)(c:Dt):Option Bool:=
 cond (I c 0==1) (nL m a b (I c 0) (I c 0==1) c) (cond (I c 0==2) (nL m a b (I c 0) (I c 0==2) c) (cond (I c 0==11) (nL m a b (I c 0) (I c 0==11) c) (nL m a b (I c 0) (I c 0==3) c)))
noncomputable def rM(m:Nat)(a:Q5)(b:Q10)(c:Bool)(d:Dt):Option Bool:=
 cond c (some false) (Ae m a b d)
noncomputable def Af(m:Nat)(a:Q5)(b:Q10)(c:Dt):Option Bool:=
 cond (I c 0 !=6) (cond (0<((L c 3).length:Int)) (rM m a b true c) (cond (I c 0 !=5) (rM m a b (decide (0<((L c 4).length:Int))) c) (rM m a b false c))) (cond (I c 0 !=5) (rM m a b (decide (0<((L c 4).length:Int))) c) (rM m a b false c))
noncomputable def rO(m:Nat)(a:Q5)(b:Q10)(c:Bool)(d:Dt):Option Bool:=
 cond c (some false) (Af m a b d)
noncomputable def rP(m:Nat)(a:Q5)(b:Q10)(e d:Bool)(c:Dt):Option Bool:=
 cond (!e) (cond (I c 1 !=0) (rO m a b true c) (cond (!d) (rO m a b (!(S c 2).toList==[]) c) (rO m a b false c))) (cond (!d) (rO m a b (!(S c 2).toList==[]) c) (rO m a b false c))
noncomputable def rQ(m:Nat)(a:Q5)(b:Q10)(d:Bool)(c:Dt):Option Bool:=
 cond (I c 0==4) (rP m a b d true c) (cond (I c 0==7) (rP m a b d true c) (rP m a b d (I c 0==8) c))
noncomputable def JW(m:Nat)(b:Q5)(a:Q40)(c:List Dt)(d e:Int)(f:List Dt):Option Bool:=
 a c d (wrap .i64 (e+1)) f
noncomputable def JX(m:Nat)(a:Q5)(b:Q40)(c:List Dt)(d e:Int)(f:List Dt)(g:Dt):Option Bool:=
 JW m a b c d e (mput f (S g 0) (bool true))
noncomputable def Ag(m:Nat)(a:Q5)(b:Q40)(c:List Dt)(d e:Int)(f:Bool)(g:List Dt)(h:Dt):Option Bool:=
 cond f (some false) (JX m a b c d e g h)
noncomputable def JY(m:Nat)(a:Q5)(b:Q40)(d:List Dt)(g e:Int)(f:List Dt):Option Bool:=
 (idx d e).bind fun c=>(qN m (S c 0)).bind fun h=>cond (!h) (Ag m a b d g e true f c) (cond (Dt.toBool (mgetD f (S c 0) (bool false))) (Ag m a b d g e true f c) ((a (fld c 1)).bind fun i=>Ag m a b d g e (!i) f c))
noncomputable def JZ(m:Nat)(a:Q5):Option Bool:=
 some true
noncomputable def EK(m:Nat)(a:Q5):Nat->List Dt->Int->Int->List Dt->Option Bool
 |0,_,_,_,_=>none
 |d+1,e,b,c,f=>cond (c<b) (JY m a (EK m a d) e b c f) (JZ m a)
noncomputable def J2(m:Nat)(a:Q5)(b:List Dt)(c d:Int)(e:List Dt):Option Bool:=
 EK m a (succ m) b c d e
mutual
noncomputable def qC:Nat->Dt->Option Bool
 |0,_=>none
 |m+1,a=>cond (I a 0==3) (rQ m (qC m) (qH m) true a) (cond (I a 0==9) (rQ m (qC m) (qH m) true a) (rQ m (qC m) (qH m) (I a 0==10) a))
noncomputable def qH:Nat->List Dt->Option Bool
 |0,_=>none
 |m+1,a=>J2 m (qC m) a (a.length:Int) 0 []
end
noncomputable def yD:Nat->Dt->Option Bool
 |0,_=>none
 |m+1,a=>(yK m a).bind fun b=>cond (b<=1024) ((yM m a).bind fun c=>cond (c<=16) ((qC m a).bind fun d=>some d) (some false)) (some false)
noncomputable def abb(m:Nat)(b:Dt):Option (ByteArray×Int):=
 (i60 m b []).bind fun a=>(cond (Nat.ble a.length 137438953472) (Option.some (strOfNums (List.map toInt a))) Option.none).bind fun c=>some (c,0)
noncomputable def zX:Nat->Dt->Option (ByteArray×Int)
 |0,_=>none
 |m+1,a=>(yD m a).bind fun b=>cond (!b) (some (ByteArray.mk (List.toArray []),8)) (abb m a)
noncomputable def abd(m:Nat)(a:Q47)(b:ByteArray)(c:List Dt)(d e:Int):Option ByteArray:=
 a b c d (wrap .i64 (e+1))
noncomputable def Ah(m:Nat)(a:Q47)(b c:ByteArray)(d:List Dt)(e f:Int):Option ByteArray:=
 cond (Nat.ble (b.size+c.size) 1152921504606846976) (abd m a (b++c) d e f) none
noncomputable def J3(m:Nat)(a:Q47)(d:ByteArray)(b:List Dt)(e c:Int):Option ByteArray:=
 (idx b c).bind fun g=>(zX m g).bind fun f=>cond (f.2 !=0) (Ah m a d (ByteArray.mk (List.toArray [63])) b e c) (Ah m a d f.1 b e c)
noncomputable def aoB(m:Nat)(a:ByteArray):Option ByteArray:=
 some a
noncomputable def rR(m:Nat):Nat->ByteArray->List Dt->Int->Int->Option ByteArray
 |0,_,_,_,_=>none
 |d+1,a,e,b,c=>cond (c<b) (J3 m (rR m d) a e b c) (aoB m a)
noncomputable def aoC(m:Nat)(a:ByteArray)(b:List Dt)(c d:Int):Option ByteArray:=
 rR m (succ m) a b c d
noncomputable def zA:Nat->List Dt->Option ByteArray
 |0,_=>none
 |m+1,a=>aoC m (ByteArray.mk (List.toArray [])) a (a.length:Int) 0
noncomputable def Ai(m:Nat)(a:Q67)(b:List Dt)(c d:Int)(e:Dt)(f:List Dt):Option ByteArray:=
 a b c (wrap .i64 (d+1)) e f
noncomputable def P5(m:Nat)(b:Q67)(e:List Dt)(g a:Int)(f:Dt)(c:List Dt):Option ByteArray:=
 (idx e a).bind fun h=>(zL m f (toLst h)).bind fun d=>(inL c a).bind fun j=>(c[a.toNat]?).bind fun k=>(inL (List.set c a.toNat d) a).bind fun l=>((List.set c a.toNat d)[a.toNat]?).bind fun i=>cond (I i 0==0) ((inL (List.set c a.toNat d) a).bind fun n=>((List.set c a.toNat d)[a.toNat]?).bind fun o=>Ai m b e g a f (List.set (List.set c a.toNat d) a.toNat xI)) (Ai m b e g a f (List.set c a.toNat d))
noncomputable def P6(m:Nat)(a:List Dt):Option ByteArray:=
 (zA m a).bind fun b=>some b
noncomputable def lC(m:Nat):Nat->List Dt->Int->Int->Dt->List Dt->Option ByteArray
 |0,_,_,_,_,_=>none
 |d+1,e,a,b,f,c=>cond (b<a) (P5 m (lC m d) e a b f c) (P6 m c)
noncomputable def abe(m:Nat)(a:List Dt)(b c:Int)(d:Dt)(e:List Dt):Option ByteArray:=
 lC m (succ m) a b c d e
noncomputable def i13:Nat->Dt->Dt->Option ByteArray
 |0,_,_=>none
 |m+1,a,b=>(mkL ((L (fld a 0) 1).length:Int) ((L (fld a 0) 1).length:Int) aX).bind fun c=>abe m (L (fld a 0) 1) ((L (fld a 0) 1).length:Int) 0 b c
noncomputable def i12:Nat->Dt->Dt->List Dt->List Dt->List Dt->List Dt->List Dt->Option (Dt×List Dt×List Dt×List Dt×List Dt×List Dt)
 |0,_,_,_,_,_,_,_=>none
 |m+1,d,e,b,a,f,h,g=>(i13 m (agg [e,lst b,lst [],lst [],lst g]) d).bind fun c=>(app b [agg [d,str c]]).bind fun i=>cond (mhas a c) ((mix a c).bind fun j=>(f[j]?).bind fun p=>(app (toLst p) [int (b.length:Int)]).bind fun q=>cond (mhas a c) ((mix a c).bind fun o=>cond (Nat.beq j o) ((zQ m d).bind fun r=>(zA m [r]).bind fun s=>some (e,mput h s (int (b.length:Int)),i,a,List.set (List.set f j (lst [])) o (lst q),g)) none) none) (bif mhas a c then(mix a c).bind fun t=>(zQ m d).bind fun u=>(zA m [u]).bind fun k=>some (e,mput h k (int (b.length:Int)),i,a,List.set f t (lst [int (b.length:Int)]),g)else(zQ m d).bind fun l=>(zA m [l]).bind fun n=>some (e,mput h n (int (b.length:Int)),i,mput a c (bool true),List.set (f++[lst []]) a.length (lst [int (b.length:Int)]),g))
noncomputable def gF(m:Nat)(c:ByteArray)(d:Dt)(e a f g h:List Dt)(b:Int)(i:Dt):Option (Dt×List Dt×List Dt×List Dt×List Dt×List Dt):=
 (inL a b).bind fun j=>(a[b.toNat]?).bind fun k=>some (d,e,List.set a b.toNat (agg [i,str c]),f,g,h)
noncomputable def i23:Nat->Int->Dt->Dt->List Dt->List Dt->List Dt->List Dt->List Dt->Option (Dt×List Dt×List Dt×List Dt×List Dt×List Dt)
 |0,_,_,_,_,_,_,_,_=>none
 |m+1,q,g,h,f,a,e,j,i=>(inL f q).bind fun H=>(f[q.toNat]?).bind fun d=>(i13 m (agg [h,lst f,lst [],lst [],lst i]) g).bind fun c=>cond (!(S d 1).toList==c.toList) (bif mhas a (S d 1)then(mix a (S d 1)).bind fun p=>(e[p]?).bind fun E=>(i24 m (toLst E) q).bind fun k=>cond (mhas a (S d 1)) ((mix a (S d 1)).bind fun r=>cond (Nat.beq p r) (cond (mhas a c) ((mix a c).bind fun v=>((List.set (List.set e p (lst [])) r (lst k.2))[v]?).bind fun F=>(app (toLst F) [int k.1]).bind fun G=>cond (mhas a c) ((mix a c).bind fun s=>cond (Nat.beq v s) (gF m c h j f a (List.set (List.set (List.set (List.set e p (lst [])) r (lst k.2)) v (lst [])) s (lst G)) i k.1 g) none) none) (cond (mhas a c) ((mix a c).bind fun w=>gF m c h j f a (List.set (List.set (List.set e p (lst [])) r (lst k.2)) w (lst [int k.1])) i k.1 g) (gF m c h j f (mput a c (bool true)) (List.set (List.set (List.set e p (lst [])) r (lst k.2)++[lst []]) a.length (lst [int k.1])) i k.1 g))) none) none else(i24 m [] q).bind fun b=>bif mhas a (S d 1)then(mix a (S d 1)).bind fun l=>cond (mhas a c) ((mix a c).bind fun n=>((List.set e l (lst b.2))[n]?).bind fun x=>(app (toLst x) [int b.1]).bind fun y=>cond (mhas a c) ((mix a c).bind fun t=>cond (Nat.beq n t) (gF m c h j f a (List.set (List.set (List.set e l (lst b.2)) n (lst [])) t (lst y)) i b.1 g) none) none) (cond (mhas a c) ((mix a c).bind fun z=>gF m c h j f a (List.set (List.set e l (lst b.2)) z (lst [int b.1])) i b.1 g) (gF m c h j f (mput a c (bool true)) (List.set (List.set e l (lst b.2)++[lst []]) a.length (lst [int b.1])) i b.1 g))else cond (mhas (mput a (S d 1) (bool true)) c) ((mix (mput a (S d 1) (bool true)) c).bind fun o=>((List.set (e++[lst []]) a.length (lst b.2))[o]?).bind fun A=>(app (toLst A) [int b.1]).bind fun C=>cond (mhas (mput a (S d 1) (bool true)) c) ((mix (mput a (S d 1) (bool true)) c).bind fun u=>cond (Nat.beq o u) (gF m c h j f (mput a (S d 1) (bool true)) (List.set (List.set (List.set (e++[lst []]) a.length (lst b.2)) o (lst [])) u (lst C)) i b.1 g) none) none) (cond (mhas (mput a (S d 1) (bool true)) c) ((mix (mput a (S d 1) (bool true)) c).bind fun D=>gF m c h j f (mput a (S d 1) (bool true)) (List.set (List.set (e++[lst []]) a.length (lst b.2)) D (lst [int b.1])) i b.1 g) (gF m c h j f (mput (mput a (S d 1) (bool true)) c (bool true)) (List.set (List.set (e++[lst []]) a.length (lst b.2)++[lst []]) (mput a (S d 1) (bool true)).length (lst [int b.1])) i b.1 g))) (gF m c h j f a e i q g)
noncomputable def abf(m:Nat)(a:Dt):Option (Int×Int):=
 (qF m a).bind fun b=>some (b,0)
noncomputable def z6:Nat->Dt->Option (Int×Int)
 |0,_=>none
 |m+1,a=>(yD m a).bind fun b=>cond (!b) (some (0,8)) (abf m a)
noncomputable def aoD(m:Nat):Option Int:=
 some 0
noncomputable def J4(m:Nat)(a:Int):Option Int:=
 cond (16384<a) (some 2) (aoD m)
noncomputable def abg(m:Nat)(b:Dt):Option Int:=
 (z6 m b).bind fun a=>cond (a.2 !=0) (some a.2) (J4 m a.1)
noncomputable def J5(m:Nat)(a:Bool)(b:Dt):Option Int:=
 cond a (some 8) (abg m b)
noncomputable def abh(m:Nat)(b:Dt):Option Int:=
 (idx (L b 4) 0).bind fun a=>cond (I (fld a 1) 0==6) (J5 m (I (fld a 1) 0==6) b) (cond (I (fld a 1) 0==1) (J5 m (I (fld a 1) 0==1) b) (J5 m (I (fld a 1) 0==11) b))
noncomputable def Aj(m:Nat)(a:Bool)(b:Dt):Option Int:=
 cond a (some 8) (abh m b)
noncomputable def qS:Nat->Dt->Option Int
 |0,_=>none
 |m+1,a=>(yD m a).bind fun b=>cond (!b) (Aj m true a) (cond (I a 0 !=5) (Aj m true a) (cond (((L a 4).length:Int)==0) (Aj m true a) ((idx (L a 4) 0).bind fun c=>Aj m (!(S c 0).toList==[95,105,100]) a)))
noncomputable def P7(m:Nat)(a:Dt)(b c d e f:List Dt):Option (Int×Dt×List Dt×List Dt×List Dt×List Dt×List Dt):=
 some (0,a,b,c,d,e,f)
noncomputable def P8(m:Nat)(d:Dt)(e f g h i:List Dt)(c:Dt):Option (Int×Dt×List Dt×List Dt×List Dt×List Dt×List Dt):=
 (i20 m c aX d f g h e i).bind fun a=>(qB m c).bind fun j=>(i12 m j a.1 a.2.2.1 a.2.2.2.1 a.2.2.2.2.1 a.2.1 a.2.2.2.2.2).bind fun b=>P7 m b.1 b.2.1 b.2.2.1 b.2.2.2.1 b.2.2.2.2.1 b.2.2.2.2.2
noncomputable def P9(m:Nat)(b:Dt)(a c d e f:List Dt)(g:Dt):Option (Int×Dt×List Dt×List Dt×List Dt×List Dt×List Dt):=
 (zQ m g).bind fun h=>(zA m [h]).bind fun i=>cond (mhas a i) (some (16,b,a,c,d,e,f)) (P8 m b a c d e f g)
noncomputable def i18:Nat->Dt->Dt->List Dt->List Dt->List Dt->List Dt->List Dt->Option (Int×Dt×List Dt×List Dt×List Dt×List Dt×List Dt)
 |0,_,_,_,_,_,_,_=>none
 |m+1,g,a,b,c,d,e,f=>cond (I a 3==4) (some (15,a,e,b,c,d,f)) (cond (I a 3==5) ((qS m g).bind fun h=>cond (h !=0) (some (h,a,e,b,c,d,f)) (P9 m a e b c d f g)) (P7 m a e b c d f))
noncomputable def Ak(m:Nat)(a:Q68)(h:Int)(i:List Dt)(j k:Int)(l:Dt)(n o p q r:List Dt)(b:Dt)(c d:Int)(e:ByteArray)(f g:List Dt):Option (Int×Dt×List Dt×List Dt×List Dt×List Dt×List Dt):=
 a h i j (wrap .i64 (k+1)) l n o p q r b c d e f g
noncomputable def Qa(m:Nat)(a:Q68)(k:Int)(h:List Dt)(l i:Int)(n:Dt)(o p q r s:List Dt)(b:Dt)(c d:Int)(e:ByteArray)(f g:List Dt):Option (Int×Dt×List Dt×List Dt×List Dt×List Dt×List Dt):=
 (idx h i).bind fun j=>cond (!(S j 0).toList==[95,105,100]) ((qB m (fld j 1)).bind fun t=>(app g [agg [str (S j 0),t]]).bind fun u=>Ak m a k h l i n o p q r s b c d e f u) (Ak m a k h l i n o p q r s b c d e f g)
noncomputable def Al(m:Nat)(a:Dt)(b c d e f:List Dt):Option (Int×Dt×List Dt×List Dt×List Dt×List Dt×List Dt):=
 some (0,a,b,c,d,e,f)
noncomputable def abj(m:Nat)(p:Int)(h:Dt)(i j k l n:List Dt)(o:Dt)(f g:Int)(b:ByteArray)(c d:List Dt):Option (Int×Dt×List Dt×List Dt×List Dt×List Dt×List Dt):=
 (yL m (agg [int f,int g,str b,lst c,lst d]) o).bind fun q=>cond (!q) ((i20 m (agg [int f,int g,str b,lst c,lst d]) o h j k l i n).bind fun e=>(i23 m p (agg [int f,int g,str b,lst c,lst d]) e.1 e.2.2.1 e.2.2.2.1 e.2.2.2.2.1 e.2.1 e.2.2.2.2.2).bind fun a=>Al m a.1 a.2.1 a.2.2.1 a.2.2.2.1 a.2.2.2.2.1 a.2.2.2.2.2) (Al m h i j k l n)
noncomputable def abk(m:Nat)(n:Int)(d:Dt)(e f g h i:List Dt)(o:Dt)(j k:Int)(a:ByteArray)(b c:List Dt):Option (Int×Dt×List Dt×List Dt×List Dt×List Dt×List Dt):=
 (qS m (agg [int j,int k,str a,lst b,lst c])).bind fun l=>cond (l !=0) (some (l,d,e,f,g,h,i)) (abj m n d e f g h i o j k a b c)
noncomputable def uL(m:Nat):Nat->Int->List Dt->Int->Int->Dt->List Dt->List Dt->List Dt->List Dt->List Dt->Dt->Int->Int->ByteArray->List Dt->List Dt->Option (Int×Dt×List Dt×List Dt×List Dt×List Dt×List Dt)
 |0,_,_,_,_,_,_,_,_,_,_,_,_,_,_,_,_=>none
 |q+1,g,r,h,i,j,k,l,n,o,p,a,b,c,d,e,f=>cond (i<h) (Qa m (uL m q) g r h i j k l n o p a b c d e f) (abk m g j k l n o p a b c d e f)
noncomputable def abl(m:Nat)(g:Int)(h:List Dt)(i j:Int)(k:Dt)(l n o p q:List Dt)(a:Dt)(b c:Int)(d:ByteArray)(e f:List Dt):Option (Int×Dt×List Dt×List Dt×List Dt×List Dt×List Dt):=
 uL m (succ m) g h i j k l n o p q a b c d e f
noncomputable def rT(m:Nat)(a:Q69)(d:Int)(e:List Dt)(f g:Int)(h:Dt)(i j k l n:List Dt)(b c:Dt):Option (Int×Dt×List Dt×List Dt×List Dt×List Dt×List Dt):=
 a d e f (wrap .i64 (g+1)) h i j k l n b c
noncomputable def Qb(m:Nat)(a:Q69)(h:Int)(e:List Dt)(i f:Int)(j:Dt)(k l n o p:List Dt)(c d:Dt):Option (Int×Dt×List Dt×List Dt×List Dt×List Dt×List Dt):=
 (idx e f).bind fun b=>cond (!(S b 0).toList==[95,105,100]) ((zV m d (S b 0) (fld b 1)).bind fun g=>rT m a h e i f j k l n o p c g) (rT m a h e i f j k l n o p c d)
noncomputable def H8(m:Nat)(l:Int)(e:Dt)(f g h i j:List Dt)(k c:Dt):Option (Int×Dt×List Dt×List Dt×List Dt×List Dt×List Dt):=
 (yL m c k).bind fun d=>cond (!d) ((i20 m c k e g h i f j).bind fun a=>(i23 m l c a.1 a.2.2.1 a.2.2.2.1 a.2.2.2.2.1 a.2.1 a.2.2.2.2.2).bind fun b=>Al m b.1 b.2.1 b.2.2.1 b.2.2.2.1 b.2.2.2.2.1 b.2.2.2.2.2) (Al m e f g h i j)
noncomputable def kG(m:Nat)(i:Int)(b:Dt)(c d e f g:List Dt)(j h:Dt):Option (Int×Dt×List Dt×List Dt×List Dt×List Dt×List Dt):=
 (qS m h).bind fun a=>cond (a !=0) (some (a,b,c,d,e,f,g)) (H8 m i b c d e f g j h)
noncomputable def uM(m:Nat):Nat->Int->List Dt->Int->Int->Dt->List Dt->List Dt->List Dt->List Dt->List Dt->Dt->Dt->Option (Int×Dt×List Dt×List Dt×List Dt×List Dt×List Dt)
 |0,_,_,_,_,_,_,_,_,_,_,_,_=>none
 |l+1,c,n,d,e,f,g,h,i,j,k,a,b=>cond (e<d) (Qb m (uM m l) c n d e f g h i j k a b) (kG m c f g h i j k a b)
noncomputable def abm(m:Nat)(c:Int)(d:List Dt)(e f:Int)(g:Dt)(h i j k l:List Dt)(a b:Dt):Option (Int×Dt×List Dt×List Dt×List Dt×List Dt×List Dt):=
 uM m (succ m) c d e f g h i j k l a b
noncomputable def i21:Nat->Int->Dt->Dt->List Dt->List Dt->List Dt->List Dt->List Dt->Option (Int×Dt×List Dt×List Dt×List Dt×List Dt×List Dt)
 |0,_,_,_,_,_,_,_,_=>none
 |m+1,c,d,a,b,e,f,g,h=>(inL b c).bind fun n=>(b[c.toNat]?).bind fun i=>cond (I a 2==1) ((zQ m (fld i 0)).bind fun k=>(qB m k).bind fun l=>abl m c (L d 4) ((L d 4).length:Int) 0 a g b e f h (fld i 0) 5 0 (ByteArray.mk (List.toArray [])) [] [agg [str (ByteArray.mk (List.toArray [95,105,100])),l]]) (cond (I a 2==2) ((qB m (fld i 0)).bind fun j=>abm m c (L d 4) ((L d 4).length:Int) 0 a g b e f h (fld i 0) j) (cond (I a 2==4) (some (16,a,g,b,e,f,h)) (some (0,a,g,b,e,f,h))))
noncomputable def abn(m:Nat)(a:Dt)(b c d e f:List Dt):Option (Int×Dt×List Dt×List Dt×List Dt×List Dt×List Dt):=
 some (14,a,b,c,d,e,f)
noncomputable def i17:Nat->Dt->Dt->List Dt->List Dt->List Dt->List Dt->List Dt->Option (Int×Dt×List Dt×List Dt×List Dt×List Dt×List Dt)
 |0,_,_,_,_,_,_,_=>none
 |m+1,k,g,h,f,i,l,j=>(i13 m (agg [g,lst h,lst [],lst [],lst j]) k).bind fun n=>cond (mhas f n) ((mix f n).bind fun a=>(i[a]?).bind fun b=>bif ((toLst b).length:Int)==0 then(i18 m k g h f (List.set (List.set i a (lst [])) a (lst (toLst b))) l j).bind fun c=>some (c.1,c.2.1,c.2.2.1,c.2.2.2.1,c.2.2.2.2.1,c.2.2.2.2.2.1,c.2.2.2.2.2.2)else bif ((toLst b).length:Int)==1 then(inL (toLst b) 0).bind fun p=>((toLst b)[0]?).bind fun o=>(i21 m (toInt o) k g h f (List.set (List.set i a (lst [])) a (lst (toLst b))) l j).bind fun d=>some (d.1,d.2.1,d.2.2.1,d.2.2.2.1,d.2.2.2.2.1,d.2.2.2.2.2.1,d.2.2.2.2.2.2)else abn m g l h f (List.set (List.set i a (lst [])) a (lst (toLst b))) j) ((i18 m k g h f i l j).bind fun e=>some (e.1,e.2.1,e.2.2.1,e.2.2.2.1,e.2.2.2.2.1,e.2.2.2.2.2.1,e.2.2.2.2.2.2))
noncomputable def abo(m:Nat)(a:Q70)(b c:List Dt)(d e:Int)(f:Dt)(g h i j k:List Dt):Option (List Dt×Int):=
 a b c d (wrap .i64 (e+1)) f g h i j k
noncomputable def abp(m:Nat)(b:Q70)(e c:List Dt)(f d:Int)(g:Dt)(h i j k l:List Dt):Option (List Dt×Int):=
 (idx c d).bind fun n=>(qB m n).bind fun o=>(i12 m o g h i j k l).bind fun a=>abo m b e c f d a.1 a.2.2.1 a.2.2.2.1 a.2.2.2.2.1 a.2.1 a.2.2.2.2.2
noncomputable def abq(m:Nat)(a:Q71)(b:List Dt)(c d:Int)(e:Dt)(f g h i j:List Dt):Option (List Dt×Int):=
 a b c (wrap .i64 (d+1)) e f g h i j
noncomputable def abr(m:Nat)(b:Q71)(c:List Dt)(e d:Int)(f:Dt)(g h i j k:List Dt):Option (List Dt×Int):=
 (idx c d).bind fun l=>(i17 m l f g h i j k).bind fun a=>cond (a.1 !=0) (some ([],a.1)) (abq m b c e d a.2.1 a.2.2.2.1 a.2.2.2.2.1 a.2.2.2.2.2.1 a.2.2.1 a.2.2.2.2.2.2)
noncomputable def aoE(m:Nat)(b:Dt)(c d e f a:List Dt):Option (List Dt×Int):=
 some (a,0)
noncomputable def EL(m:Nat):Nat->List Dt->Int->Int->Dt->List Dt->List Dt->List Dt->List Dt->List Dt->Option (List Dt×Int)
 |0,_,_,_,_,_,_,_,_,_=>none
 |i+1,j,a,b,c,d,e,f,g,h=>cond (b<a) (abr m (EL m i) j a b c d e f g h) (aoE m c d e f g h)
noncomputable def aoF(m:Nat)(a:List Dt)(b c:Int)(d:Dt)(e f g h i:List Dt):Option (List Dt×Int):=
 EL m (succ m) a b c d e f g h i
noncomputable def abt(m:Nat)(a:List Dt)(b:Dt)(c d e f g:List Dt):Option (List Dt×Int):=
 aoF m a (a.length:Int) 0 b c d e f g
noncomputable def EM(m:Nat):Nat->List Dt->List Dt->Int->Int->Dt->List Dt->List Dt->List Dt->List Dt->List Dt->Option (List Dt×Int)
 |0,_,_,_,_,_,_,_,_,_,_=>none
 |j+1,a,k,b,c,d,e,f,g,h,i=>cond (c<b) (abp m (EM m j) a k b c d e f g h i) (abt m a d e f g h i)
noncomputable def aoG(m:Nat)(a b:List Dt)(c d:Int)(e:Dt)(f g h i j:List Dt):Option (List Dt×Int):=
 EM m (succ m) a b c d e f g h i j
noncomputable def qQ:Nat->Dt->List Dt->List Dt->Option (List Dt×Int)
 |0,_,_,_=>none
 |m+1,b,a,c=>aoG m c a (a.length:Int) 0 b [] [] [] [] []
noncomputable def J6(m:Nat)(a:Q72)(b:Int)(c:ByteArray)(d:Int):Option ByteArray:=
 a b c (wrap .i64 (d+1))
noncomputable def J7(m:Nat)(a:Q72)(b:Int)(c:ByteArray)(d:Int):Option ByteArray:=
 cond (Nat.ble (c.size+(strOfNums [orI IntKind.u8 (wrap IntKind.u8 (Int.tmod b 128)) 128]).size) 1152921504606846976) (J6 m a (wrap IntKind.u64 (Int.tdiv b 128)) (c++strOfNums [orI IntKind.u8 (wrap IntKind.u8 (Int.tmod b 128)) 128]) d) none
noncomputable def EN(m:Nat)(a:Int)(b:ByteArray):Option ByteArray:=
 cond (Nat.ble (b.size+(strOfNums [wrap IntKind.u8 a]).size) 1152921504606846976) (some (b++strOfNums [wrap IntKind.u8 a])) none
noncomputable def wD(m:Nat):Nat->Int->ByteArray->Int->Option ByteArray
 |0,_,_,_=>none
 |d+1,a,b,c=>cond (c<10) (cond (128<=a) (J7 m (wD m d) a b c) (EN m a b)) (EN m a b)
noncomputable def J8(m:Nat)(a:Int)(b:ByteArray)(c:Int):Option ByteArray:=
 wD m (succ m) a b c
noncomputable def EO(m:Nat)(a:Int):Option ByteArray:=
 J8 m a (ByteArray.mk (List.toArray [])) 0
noncomputable def zF:Nat->Int->Option ByteArray
 |0,_=>none
 |m+1,a=>cond (a<0) (EO m (complI IntKind.u64 (shlI IntKind.u64 (wrap IntKind.u64 a) 1))) (EO m (shlI IntKind.u64 (wrap IntKind.u64 a) 1))
noncomputable def jU(m:Nat)(a:Q17)(b:ByteArray):Option ByteArray:=
 some b
noncomputable def Ao(m:Nat)(b:Q17)(a:Q32)(c:ByteArray)(d:Int)(e:Dt):Option ByteArray:=
 a c (wrap .i64 (d+1)) e
noncomputable def Ap(m:Nat)(a:Q17)(b:Q32)(c:ByteArray)(d:Int)(e:Dt):Option ByteArray:=
 (idx (L e 3) d).bind fun g=>(a g).bind fun f=>cond (Nat.ble (c.size+f.size) 1152921504606846976) (Ao m a b (c++f) d e) none
noncomputable def EP(m:Nat)(a:Q17):Nat->ByteArray->Int->Dt->Option ByteArray
 |0,_,_,_=>none
 |e+1,b,c,d=>cond (c<((L d 3).length:Int)) (Ap m a (EP m a e) b c d) (jU m a b)
noncomputable def Aq(m:Nat)(a:Q17)(b:ByteArray)(c:Int)(d:Dt):Option ByteArray:=
 EP m a (succ m) b c d
noncomputable def p9(m:Nat)(b:Q17)(a:Q32)(c:ByteArray)(d:Int)(e:Dt):Option ByteArray:=
 a c (wrap .i64 (d+1)) e
noncomputable def Ar(m:Nat)(a:Q17)(b:Q32)(d:ByteArray)(e:Int)(f:Dt):Option ByteArray:=
 (idx (L f 4) e).bind fun i=>(zF m ((S i 0).size:Int)).bind fun g=>cond (Nat.ble (d.size+g.size) 1152921504606846976) ((idx (L f 4) e).bind fun h=>cond (Nat.ble ((d++g).size+(S h 0).size) 1152921504606846976) ((idx (L f 4) e).bind fun j=>(a (fld j 1)).bind fun c=>cond (Nat.ble ((d++g++S h 0).size+c.size) 1152921504606846976) (p9 m a b (d++g++S h 0++c) e f) none) none) none
noncomputable def ER(m:Nat)(a:Q17):Nat->ByteArray->Int->Dt->Option ByteArray
 |0,_,_,_=>none
 |e+1,b,c,d=>cond (c<((L d 4).length:Int)) (Ar m a (ER m a e) b c d) (jU m a b)
noncomputable def Au(m:Nat)(a:Q17)(b:ByteArray)(c:Int)(d:Dt):Option ByteArray:=
 ER m a (succ m) b c d
noncomputable def wE(m:Nat)(a:Q17)(b:ByteArray)(d:Int)(h:Bool)(c:Dt):Option ByteArray:=
 cond h ((zF m ((S c 2).size:Int)).bind fun e=>cond (Nat.ble (b.size+e.size) 1152921504606846976) (cond (Nat.ble ((b++e).size+(S c 2).size) 1152921504606846976) (jU m a (b++e++S c 2)) none) none) (cond (d==8) (cond (Nat.ble (b.size+(S c 2).size) 1152921504606846976) (jU m a (b++S c 2)) none) (cond (d==6) ((zF m ((L c 3).length:Int)).bind fun f=>cond (Nat.ble (b.size+f.size) 1152921504606846976) (Aq m a (b++f) 0 c) none) (cond (d==5) ((zF m ((L c 4).length:Int)).bind fun g=>cond (Nat.ble (b.size+g.size) 1152921504606846976) (Au m a (b++g) 0 c) none) (jU m a b))))
noncomputable def wF(m:Nat)(a:Q17)(b:ByteArray)(c:Int)(f:Bool)(d:Dt):Option ByteArray:=
 cond f ((zF m (I d 1)).bind fun e=>cond (Nat.ble (b.size+e.size) 1152921504606846976) (jU m a (b++e)) none) (cond (c==9) (cond (Nat.ble (b.size+(strOfNums [wrap IntKind.u8 (I d 1)]).size) 1152921504606846976) (jU m a (b++strOfNums [wrap IntKind.u8 (I d 1)])) none) (cond (c==4) (wE m a b c (c==4) d) (wE m a b c (c==7) d)))
noncomputable def qI:Nat->Dt->Option ByteArray
 |0,_=>none
 |m+1,a=>cond (I a 0==3) (wF m (qI m) (strOfNums [wrap IntKind.u8 (I a 0)]) (I a 0) (I a 0==3) a) (wF m (qI m) (strOfNums [wrap IntKind.u8 (I a 0)]) (I a 0) (I a 0==10) a)
noncomputable def abu(m:Nat)(a:Q33)(b:Int)(c:Dt)(d:List Dt):Option (List Dt):=
 a (wrap .i64 (b+1)) c d
noncomputable def abv(m:Nat)(a:Q33)(b:Int)(c:Dt)(d:List Dt):Option (List Dt):=
 (idx (L c 3) b).bind fun e=>(app d [e]).bind fun f=>abu m a b c f
noncomputable def abw(m:Nat)(a:Q33)(b:Int)(c:Dt)(d:List Dt):Option (List Dt):=
 a (wrap .i64 (b+1)) c d
noncomputable def abx(m:Nat)(a:Q33)(b:Int)(c:Dt)(d:List Dt):Option (List Dt):=
 (idx (L c 4) b).bind fun e=>(app d [fld e 1]).bind fun f=>abw m a b c f
noncomputable def J9(m:Nat)(a:List Dt):Option (List Dt):=
 some a
noncomputable def Av(m:Nat):Nat->Int->Dt->List Dt->Option (List Dt)
 |0,_,_,_=>none
 |d+1,a,b,c=>cond (a<((L b 4).length:Int)) (abx m (Av m d) a b c) (J9 m c)
noncomputable def aby(m:Nat)(a:Int)(b:Dt)(c:List Dt):Option (List Dt):=
 Av m (succ m) a b c
noncomputable def ES(m:Nat)(a:Dt)(b:List Dt):Option (List Dt):=
 cond (I a 0==5) (aby m 0 a b) (J9 m b)
noncomputable def Ay(m:Nat):Nat->Int->Dt->List Dt->Option (List Dt)
 |0,_,_,_=>none
 |d+1,b,a,c=>cond (b<((L a 3).length:Int)) (abv m (Ay m d) b a c) (ES m a c)
noncomputable def abz(m:Nat)(a:Int)(b:Dt)(c:List Dt):Option (List Dt):=
 Ay m (succ m) a b c
noncomputable def qR:Nat->Dt->Option (List Dt)
 |0,_=>none
 |m+1,a=>cond (I a 0==6) (abz m 0 a []) (ES m a [])
noncomputable def Az(m:Nat)(b:Q12)(a:Q21)(c:Int)(d:List Dt)(e f:Int):Option Int:=
 a c d e (wrap .i64 (f+1))
noncomputable def AA(m:Nat)(a:Q12)(b:Q21)(c:Int)(d:List Dt)(e f:Int):Option Int:=
 (idx d f).bind fun h=>(a h (wrap .i64 (c-1))).bind fun g=>Az m a b c d (cond (e<g) g e) f
noncomputable def AB(m:Nat)(a:Q12)(b:Int):Option Int:=
 some (wrap .i64 (b+1))
noncomputable def AJ(m:Nat)(a:Q12):Nat->Int->List Dt->Int->Int->Option Int
 |0,_,_,_,_=>none
 |e+1,f,b,c,d=>cond (d<(b.length:Int)) (AA m a (AJ m a e) f b c d) (AB m a c)
noncomputable def AL(m:Nat)(a:Q12)(b:Int)(c:List Dt)(d e:Int):Option Int:=
 AJ m a (succ m) b c d e
noncomputable def AO(m:Nat)(a:Q12)(b:Int)(c:List Dt):Option Int:=
 AL m a b c 0 0
noncomputable def wG(m:Nat)(a:Q12)(b:Int)(c:List Dt)(d:Bool):Option Int:=
 cond d (some 1) (AO m a b c)
noncomputable def qO:Nat->Dt->Int->Option Int
 |0,_,_=>none
 |m+1,c,a=>(qR m c).bind fun b=>cond (a<2) (wG m (qO m) a b true) (wG m (qO m) a b ((b.length:Int)==0))
noncomputable def yN:Nat->Dt->Option Int
 |0,_=>none
 |m+1,a=>(qO m a 17).bind fun b=>some b
noncomputable def abA(m:Nat)(b:Q12)(a:Q73)(c d:Int)(e:List Dt)(f:Int):Option Int:=
 a c d e (wrap .i64 (f+1))
noncomputable def abB(m:Nat)(a:Q12)(b:Q73)(c d:Int)(e:List Dt)(f:Int):Option Int:=
 (idx e f).bind fun g=>(a g (wrap .i64 (c-d))).bind fun h=>abA m a b c (wrap .i64 (d+h)) e f
noncomputable def ET(m:Nat)(a:Q12)(b:Int):Option Int:=
 some b
noncomputable def EU(m:Nat)(a:Q12):Nat->Int->Int->List Dt->Int->Option Int
 |0,_,_,_,_=>none
 |f+1,c,b,d,e=>cond (e<(d.length:Int)) (cond (b<c) (abB m a (EU m a f) c b d e) (ET m a b)) (ET m a b)
noncomputable def Sq(m:Nat)(a:Q12)(b c:Int)(d:List Dt)(e:Int):Option Int:=
 EU m a (succ m) b c d e
noncomputable def zE:Nat->Dt->Int->Option Int
 |0,_,_=>none
 |m+1,a,b=>(qR m a).bind fun c=>Sq m (zE m) b 1 c 0
noncomputable def yO:Nat->Dt->Option Int
 |0,_=>none
 |m+1,a=>(zE m a 1025).bind fun b=>some b
noncomputable def Ka(m:Nat)(a:Q48)(b:ByteArray)(c d e:Int):Option Bool:=
 a b c d (wrap .i64 (e+1))
noncomputable def EW(m:Nat)(a:Q48)(b:ByteArray)(c d e:Int)(f:Bool):Option Bool:=
 cond f (some false) (Ka m a b c d e)
noncomputable def Kc(m:Nat)(a:Q48)(b:ByteArray)(c e d:Int):Option Bool:=
 (idxS b (wrap .i64 (c+d))).bind fun f=>cond (f<128) (EW m a b c e d true) ((idxS b (wrap .i64 (c+d))).bind fun g=>EW m a b c e d (decide (191<g)))
noncomputable def Ke(m:Nat):Option Bool:=
 some true
noncomputable def EX(m:Nat):Nat->ByteArray->Int->Int->Int->Option Bool
 |0,_,_,_,_=>none
 |c+1,d,e,a,b=>cond (b<a) (Kc m (EX m c) d e a b) (Ke m)
noncomputable def Kg(m:Nat)(a:ByteArray)(b c d:Int):Option Bool:=
 EX m (succ m) a b c d
noncomputable def Kh(m:Nat)(a:ByteArray)(b c:Int):Option Bool:=
 Kg m a b c 0
noncomputable def zC:Nat->ByteArray->Int->Int->Option Bool
 |0,_,_,_=>none
 |m+1,a,b,c=>cond ((a.size:Int)<wrap .i64 (b+c)) (some false) (Kh m a b c)
noncomputable def abC(m:Nat)(a:Q7)(b:ByteArray)(c d:Int):Option Bool:=
 a b (wrap .i64 (wrap .i64 (c+d)+1))
noncomputable def eF(m:Nat)(a:Q7)(b:ByteArray)(c d:Int)(e:Bool):Option Bool:=
 cond e (some false) (abC m a b c d)
noncomputable def Sr(m:Nat)(a:Q7)(b:ByteArray)(c e d:Int):Option Bool:=
 cond (e==224) ((idxS b (wrap .i64 (c+1))).bind fun n=>cond (n<160) (eF m a b c d true) (cond (e==237) ((idxS b (wrap .i64 (c+1))).bind fun o=>cond (159<o) (eF m a b c d true) (cond (e==240) ((idxS b (wrap .i64 (c+1))).bind fun p=>cond (p<144) (eF m a b c d true) (cond (e==244) ((idxS b (wrap .i64 (c+1))).bind fun q=>eF m a b c d (decide (143<q))) (eF m a b c d false))) (cond (e==244) ((idxS b (wrap .i64 (c+1))).bind fun r=>eF m a b c d (decide (143<r))) (eF m a b c d false)))) (cond (e==240) ((idxS b (wrap .i64 (c+1))).bind fun s=>cond (s<144) (eF m a b c d true) (cond (e==244) ((idxS b (wrap .i64 (c+1))).bind fun t=>eF m a b c d (decide (143<t))) (eF m a b c d false))) (cond (e==244) ((idxS b (wrap .i64 (c+1))).bind fun u=>eF m a b c d (decide (143<u))) (eF m a b c d false))))) (cond (e==237) ((idxS b (wrap .i64 (c+1))).bind fun f=>cond (159<f) (eF m a b c d true) (cond (e==240) ((idxS b (wrap .i64 (c+1))).bind fun g=>cond (g<144) (eF m a b c d true) (cond (e==244) ((idxS b (wrap .i64 (c+1))).bind fun h=>eF m a b c d (decide (143<h))) (eF m a b c d false))) (cond (e==244) ((idxS b (wrap .i64 (c+1))).bind fun i=>eF m a b c d (decide (143<i))) (eF m a b c d false)))) (cond (e==240) ((idxS b (wrap .i64 (c+1))).bind fun j=>cond (j<144) (eF m a b c d true) (cond (e==244) ((idxS b (wrap .i64 (c+1))).bind fun k=>eF m a b c d (decide (143<k))) (eF m a b c d false))) (cond (e==244) ((idxS b (wrap .i64 (c+1))).bind fun l=>eF m a b c d (decide (143<l))) (eF m a b c d false))))
noncomputable def AP(m:Nat)(a:Q7)(b:ByteArray)(c e d:Int):Option Bool:=
 (zC m b (wrap .i64 (c+1)) d).bind fun f=>cond (!f) (some false) (Sr m a b c e d)
noncomputable def Sv(m:Nat)(a:Q7)(b:ByteArray)(c d:Int)(e:Bool):Option Bool:=
 cond e (AP m a b c d 3) (some false)
noncomputable def Sw(m:Nat)(a:Q7)(c:ByteArray)(d b:Int)(e:Bool):Option Bool:=
 cond e (AP m a c d b 2) (cond (240<=b) (Sv m a c d b (decide (b<=244))) (Sv m a c d b false))
noncomputable def Sy(m:Nat)(a:Q7)(c:ByteArray)(d b:Int)(e:Bool):Option Bool:=
 cond e (AP m a c d b 1) (cond (224<=b) (Sw m a c d b (decide (b<=239))) (Sw m a c d b false))
noncomputable def Sz(m:Nat)(a:Q7)(c:ByteArray)(d:Int):Option Bool:=
 (idxS c d).bind fun b=>cond (b<128) (AP m a c d b 0) (cond (194<=b) (Sy m a c d b (decide (b<=223))) (Sy m a c d b false))
noncomputable def Qc(m:Nat):Option Bool:=
 some true
noncomputable def AQ(m:Nat):Nat->ByteArray->Int->Option Bool
 |0,_,_=>none
 |c+1,a,b=>cond (b<(a.size:Int)) (Sz m (AQ m c) a b) (Qc m)
noncomputable def aoH(m:Nat)(a:ByteArray)(b:Int):Option Bool:=
 AQ m (succ m) a b
noncomputable def qP:Nat->ByteArray->Option Bool
 |0,_=>none
 |m+1,a=>aoH m a 0
noncomputable def AR(m:Nat)(a:Q7)(b:ByteArray)(c:Int):Option Bool:=
 a b (wrap .i64 (c+1))
noncomputable def wH(m:Nat)(a:Q7)(b:ByteArray)(c:Int)(d:Bool):Option Bool:=
 cond d (some false) (AR m a b c)
noncomputable def AU(m:Nat)(a:Q7)(b:ByteArray)(c:Int):Option Bool:=
 (idxS b c).bind fun d=>cond (d<32) (wH m a b c true) ((idxS b c).bind fun e=>wH m a b c (decide (126<e)))
noncomputable def AX(m:Nat):Option Bool:=
 some true
noncomputable def AY(m:Nat):Nat->ByteArray->Int->Option Bool
 |0,_,_=>none
 |c+1,a,b=>cond (b<(a.size:Int)) (AU m (AY m c) a b) (AX m)
noncomputable def AZ(m:Nat)(a:ByteArray)(b:Int):Option Bool:=
 AY m (succ m) a b
noncomputable def A8(m:Nat)(a:ByteArray):Option Bool:=
 AZ m a 0
noncomputable def wI(m:Nat)(a:ByteArray)(b:Bool):Option Bool:=
 cond b (some false) (A8 m a)
noncomputable def qV:Nat->ByteArray->Option Bool
 |0,_=>none
 |m+1,a=>cond ((a.size:Int)<1) (wI m a true) (wI m a (decide (128<(a.size:Int))))
noncomputable def Qd(m:Nat)(b:Q2)(c:Q2)(a:Q13)(d:Bool)(e:Int)(f:Dt):Option Bool:=
 a d (wrap .i64 (e+1)) f
noncomputable def abD(m:Nat)(a:Q2)(b:Q2)(c:Q13)(d:Bool)(e:Int)(f:Dt):Option Bool:=
 (idx (L f 3) e).bind fun g=>(a g d).bind fun h=>cond (!h) (some false) (Qd m a b c d e f)
noncomputable def Qe(m:Nat)(b:Q2)(a:Q2)(c:Bool)(d:Dt):Option Bool:=
 (a d c).bind fun e=>some e
noncomputable def EY(m:Nat)(a:Q2)(b:Q2):Nat->Bool->Int->Dt->Option Bool
 |0,_,_,_=>none
 |f+1,d,e,c=>cond (e<((L c 3).length:Int)) (abD m a b (EY m a b f) d e c) (Qe m a b d c)
noncomputable def aoI(m:Nat)(a:Q2)(b:Q2)(c:Bool)(d:Int)(e:Dt):Option Bool:=
 EY m a b (succ m) c d e
noncomputable def abE(m:Nat)(a:Q2)(b:Q2)(c:Bool)(d:Dt):Option Bool:=
 aoI m a b c 0 d
noncomputable def Ki(m:Nat)(b:Q2)(c:Q2)(d:Bool)(a:Dt):Option Bool:=
 cond (I a 0==9) (cond (I a 1==0) (some true) (some (I a 1==1))) (cond (I a 0==10) (some (decide (0<=I a 1))) (cond (I a 0==4) (cond (((S a 2).size:Int)<=4096) ((qP m (S a 2)).bind fun e=>some e) (some false)) (cond (I a 0==7) (some (decide (((S a 2).size:Int)<=4096))) (cond (I a 0==8) (some (((S a 2).size:Int)==12)) (abE m b c d a)))))
noncomputable def jV(m:Nat)(a:Q2)(b:Q2)(c d:Bool)(e:Dt):Option Bool:=
 cond d (some false) (Ki m a b c e)
noncomputable def A9(m:Nat)(a:Q2)(b:Q2)(d f e:Bool)(c:Dt):Option Bool:=
 cond (!f) (cond (!(S c 2).toList==[]) (jV m a b d true c) (cond (!e) (cond (I c 1 !=0) (jV m a b d true c) (cond (I c 0<1) (jV m a b d true c) (jV m a b d (decide (11<I c 0)) c))) (cond (I c 0<1) (jV m a b d true c) (jV m a b d (decide (11<I c 0)) c)))) (cond (!e) (cond (I c 1 !=0) (jV m a b d true c) (cond (I c 0<1) (jV m a b d true c) (jV m a b d (decide (11<I c 0)) c))) (cond (I c 0<1) (jV m a b d true c) (jV m a b d (decide (11<I c 0)) c)))
noncomputable def Ba(m:Nat)(a:Q2)(b:Q2)(d e:Bool)(c:Dt):Option Bool:=
 cond (I c 0==3) (A9 m a b d e true c) (cond (I c 0==9) (A9 m a b d e true c) (A9 m a b d e (I c 0==10) c))
noncomputable def Kj(m:Nat)(a:Q2)(b:Q2)(d:Bool)(c:Dt):Option Bool:=
 cond (I c 0==4) (Ba m a b d true c) (cond (I c 0==7) (Ba m a b d true c) (Ba m a b d (I c 0==8) c))
noncomputable def Bb(m:Nat)(a:Q2)(b:Q2)(c d:Bool)(e:Dt):Option Bool:=
 cond d (some false) (Kj m a b c e)
noncomputable def EZ(m:Nat)(b:Q2)(c:Q13)(a:Q74)(d:Bool)(e f:Int)(g h:Dt):Option Bool:=
 a d e (wrap .i64 (f+1)) g h
noncomputable def E8(m:Nat)(a:Q2)(b:Q13)(c:Q74)(g:Bool)(h d:Int)(e f:Dt):Option Bool:=
 (idx (L e 4) d).bind fun i=>cond ((S i 0).toList==(S f 0).toList) (some false) (EZ m a b c g h d e f)
noncomputable def E9(m:Nat)(b:Q2)(a:Q13)(c:Bool)(d:Int)(e:Dt):Option Bool:=
 a c (wrap .i64 (d+1)) e
noncomputable def Bc(m:Nat)(a:Q2)(b:Q13):Nat->Bool->Int->Int->Dt->Dt->Option Bool
 |0,_,_,_,_,_=>none
 |g+1,d,c,e,f,h=>cond (e<c) (E8 m a b (Bc m a b g) d c e f h) (E9 m a b d c f)
noncomputable def Fa(m:Nat)(a:Q2)(b:Q13)(c:Bool)(d e:Int)(f g:Dt):Option Bool:=
 Bc m a b (succ m) c d e f g
noncomputable def Fb(m:Nat)(a:Q2)(b:Q13)(c:Bool)(d:Int)(e f:Dt):Option Bool:=
 Fa m a b c d 0 e f
noncomputable def kQ(m:Nat)(a:Q2)(b:Q13)(c:Bool)(d:Int)(e:Bool)(f g:Dt):Option Bool:=
 cond e (some false) (Fb m a b c d f g)
noncomputable def Fe(m:Nat)(a:Q2)(b:Q13)(c:Bool)(e:Int)(f:Dt):Option Bool:=
 (idx (L f 4) e).bind fun d=>cond c ((qT m (S d 0)).bind fun g=>cond (!g) (kQ m a b c e true f d) (bif !c then(qV m (S d 0)).bind fun h=>cond (!h) (kQ m a b c e true f d) ((a (fld d 1) c).bind fun i=>kQ m a b c e (!i) f d)else(a (fld d 1) c).bind fun j=>kQ m a b c e (!j) f d)) (bif !c then(qV m (S d 0)).bind fun k=>cond (!k) (kQ m a b c e true f d) ((a (fld d 1) c).bind fun l=>kQ m a b c e (!l) f d)else(a (fld d 1) c).bind fun n=>kQ m a b c e (!n) f d)
noncomputable def uN(m:Nat)(a:Q2):Option Bool:=
 some true
noncomputable def wJ(m:Nat)(a:Q2):Nat->Bool->Int->Dt->Option Bool
 |0,_,_,_=>none
 |d+1,e,b,c=>cond (b<((L c 4).length:Int)) (Fe m a (wJ m a d) e b c) (uN m a)
noncomputable def Bd(m:Nat)(a:Q2)(b:Bool)(c:Int)(d:Dt):Option Bool:=
 wJ m a (succ m) b c d
mutual
noncomputable def qD:Nat->Dt->Bool->Option Bool
 |0,_,_=>none
 |m+1,a,b=>cond (I a 0 !=6) (cond (0<((L a 3).length:Int)) (Bb m (qD m) (qG m) b true a) (cond (I a 0 !=5) (Bb m (qD m) (qG m) b (decide (0<((L a 4).length:Int))) a) (Bb m (qD m) (qG m) b false a))) (cond (I a 0 !=5) (Bb m (qD m) (qG m) b (decide (0<((L a 4).length:Int))) a) (Bb m (qD m) (qG m) b false a))
noncomputable def qG:Nat->Dt->Bool->Option Bool
 |0,_,_=>none
 |m+1,a,b=>Bd m (qD m) b 0 a
end
noncomputable def yC:Nat->Dt->Option Bool
 |0,_=>none
 |m+1,a=>(yN m a).bind fun b=>cond (b<=16) ((yO m a).bind fun c=>cond (c<=1024) ((qD m a true).bind fun d=>some d) (some false)) (some false)
noncomputable def yG:Nat->Dt->Option Bool
 |0,_=>none
 |m+1,a=>cond (I a 0 !=5) (some true) ((yC m a).bind fun b=>some (!b))
noncomputable def Qf(m:Nat)(a:Q30)(b:List Dt)(c d:Int):Option Int:=
 a b c (wrap .i64 (d+1))
noncomputable def Qg(m:Nat)(a:Q30)(c:List Dt)(d b:Int):Option Int:=
 (idx c b).bind fun e=>(yG m e).bind fun f=>cond f (some b) (Qf m a c d b)
noncomputable def abF(m:Nat):Option Int:=
 some (-1)
noncomputable def uO(m:Nat):Nat->List Dt->Int->Int->Option Int
 |0,_,_,_=>none
 |c+1,d,a,b=>cond (b<a) (Qg m (uO m c) d a b) (abF m)
noncomputable def abG(m:Nat)(a:List Dt)(b c:Int):Option Int:=
 uO m (succ m) a b c
noncomputable def i37:Nat->List Dt->Option Int
 |0,_=>none
 |m+1,a=>abG m a (a.length:Int) 0
noncomputable def i36:Nat->List Dt->Option Bool
 |0,_=>none
 |m+1,a=>(i37 m a).bind fun b=>some (decide (0<=b))
noncomputable def yH:Nat->List Dt->Option Bool
 |0,_=>none
 |m+1,a=>bif (a.length:Int)<=30 then(i36 m a).bind fun b=>some (!b)else some false
noncomputable def SB(m:Nat)(b a:Dt):Option (Dt×Bool):=
 some (a,true)
noncomputable def Fg(m:Nat)(a:Bool)(b c:Dt):Option (Dt×Bool):=
 cond a (some (aX,false)) (SB m b c)
noncomputable def SC(m:Nat)(c b:Dt):Option (Dt×Bool):=
 (idx (L c 4) 0).bind fun a=>cond (I (fld a 1) 0==6) (Fg m true b (fld a 1)) (cond (I (fld a 1) 0==1) (Fg m true b (fld a 1)) (Fg m (I (fld a 1) 0==11) b (fld a 1)))
noncomputable def Bf(m:Nat)(a:Bool)(b c:Dt):Option (Dt×Bool):=
 cond a (some (aX,false)) (SC m b c)
noncomputable def zT:Nat->Dt->Option (Dt×Bool)
 |0,_=>none
 |m+1,a=>(yC m a).bind fun b=>cond (!b) (Bf m true a aX) (cond (((L a 4).length:Int)==0) (Bf m true a aX) ((idx (L a 4) 0).bind fun c=>Bf m (!(S c 0).toList==[95,105,100]) a aX))
noncomputable def SE(m:Nat)(a:Dt):Option (ByteArray×Int):=
 (qI m a).bind fun b=>some (b,0)
noncomputable def zY:Nat->Dt->Option (ByteArray×Int)
 |0,_=>none
 |m+1,a=>(yC m a).bind fun b=>cond (!b) (some (ByteArray.mk (List.toArray []),8)) (SE m a)
noncomputable def yE:Nat->Dt->Option (Int×Int)
 |0,_=>none
 |m+1,b=>(zY m b).bind fun a=>some (((a.1).size:Int),a.2)
noncomputable def aoJ(m:Nat):Option Int:=
 some 0
noncomputable def Fj(m:Nat)(a:Int):Option Int:=
 cond (16384<a) (some 2) (aoJ m)
noncomputable def Bg(m:Nat)(b:Dt):Option Int:=
 (yE m b).bind fun a=>cond (a.2 !=0) (some a.2) (Fj m a.1)
noncomputable def zI:Nat->Dt->Option Int
 |0,_=>none
 |m+1,a=>(zT m a).bind fun b=>cond (!b.2) (some 8) (Bg m a)
noncomputable def Bh(m:Nat)(a:Q18)(b:List Dt)(c:Int)(d:Dt)(e f:List Dt):Option (List Dt×Int):=
 a b (wrap .i64 (c+1)) d e f
noncomputable def qb(m:Nat)(a:Q18)(h:List Dt)(i:Int)(j:List Dt)(k:Dt)(f e:List Dt)(c:Dt):Option (List Dt×Int):=
 (cond false (app f [c]) (cond true (ite (f.length+([c]).length<=2147483648) (Option.some (f++[c])) Option.none) Option.none)).bind fun d=>bif (j.length:Int)==1 then(idx j 0).bind fun b=>(inL e (toInt b)).bind fun l=>(e[(toInt b).toNat]?).bind fun n=>Bh m a h i k d (List.set e (toInt b).toNat (fld c 3))else(app e [fld c 3]).bind fun g=>Bh m a h i k d g
noncomputable def H9(m:Nat)(a:Q18)(c:List Dt)(d:Int)(e:List Dt)(f:Dt)(g h:List Dt)(b:Dt):Option (List Dt×Int):=
 bif (e.length:Int)==1 then(qA m (fld b 4) (fld b 3)).bind fun i=>cond (i==0) (Bh m a c d f g h) (qb m a c d e f g h b)else qb m a c d e f g h b
noncomputable def Bj(m:Nat)(a:Q18)(b:List Dt)(c:Int)(d:List Dt)(e:Bool)(f:Dt)(g h:List Dt)(i:Dt):Option (List Dt×Int):=
 cond e (some ([],16)) (H9 m a b c d f g h i)
noncomputable def SF(m:Nat)(b:Q18)(g:List Dt)(h:Int)(d:List Dt)(i:Dt)(j e:List Dt)(a:Dt):Option (List Dt×Int):=
 (idx (L (fld a 3) 4) 0).bind fun c=>bif (d.length:Int)==0 then(zN m e (fld c 1)).bind fun f=>Bj m b g h d f i j e (agg [int (I a 0),str (S a 1),fld c 1,fld a 3,fld a 4,fld a 5,fld a 6,str (S a 7),int (I a 8),lst (L a 9),lst (L a 10),bool (Dt.B a 11)])else Bj m b g h d false i j e (agg [int (I a 0),str (S a 1),fld c 1,fld a 3,fld a 4,fld a 5,fld a 6,str (S a 7),int (I a 8),lst (L a 9),lst (L a 10),bool (Dt.B a 11)])
noncomputable def Bl(m:Nat)(a:Q18)(d:List Dt)(e:Int)(f:List Dt)(g:Dt)(h i:List Dt)(b:Dt):Option (List Dt×Int):=
 (zI m (fld b 3)).bind fun c=>cond (c !=0) (some ([],c)) (SF m a d e f g h i b)
noncomputable def lD(m:Nat)(a:Q18)(d:List Dt)(e:Int)(f:List Dt)(k:Bool)(g:Dt)(h c:List Dt)(b:Dt):Option (List Dt×Int):=
 cond k (Bh m a d e g h c) (bif (f.length:Int)==1 then(idx f 0).bind fun i=>(inL c (toInt i)).bind fun o=>(c[(toInt i).toNat]?).bind fun j=>(idx d e).bind fun l=>(qM m (I g 2) j l).bind fun n=>Bl m a d e f g h c (agg [int (I b 0),str (S b 1),fld b 2,n,j,fld b 5,fld b 6,str (S b 7),int (I b 8),lst (L b 9),lst (L b 10),bool (Dt.B b 11)])else Bl m a d e f g h c b)
noncomputable def Kk(m:Nat)(a:Q18)(d:List Dt)(e:Int)(b:List Dt)(i:Bool)(c:Dt)(f g:List Dt)(h:Dt):Option (List Dt×Int):=
 cond i (some ([],15)) (cond ((b.length:Int)==1) (cond (I c 2==3) (lD m a d e b true c f g h) (cond ((b.length:Int)==0) (lD m a d e b (I c 3==6) c f g h) (lD m a d e b false c f g h))) (cond ((b.length:Int)==0) (lD m a d e b (I c 3==6) c f g h) (lD m a d e b false c f g h)))
noncomputable def Fp(m:Nat)(a:Q18)(d:List Dt)(e:Int)(b:List Dt)(i:Bool)(c:Dt)(f g:List Dt)(h:Dt):Option (List Dt×Int):=
 cond i (some ([],16)) (cond ((b.length:Int)==0) (Kk m a d e b (I c 3==4) c f g h) (Kk m a d e b false c f g h))
noncomputable def SG(m:Nat)(a:Q18)(d:List Dt)(e:Int)(b:Dt)(f h:List Dt):Option (List Dt×Int):=
 (idx d e).bind fun i=>(i28 m (L b 1) i h).bind fun c=>(idx d e).bind fun g=>cond (1<((c.1).length:Int)) (some ([],14)) (cond (((c.1).length:Int)==1) (Fp m a d e c.1 (I b 2==4) b f c.2 (agg [int 2,str (S b 0),aX,g,aX,iV,iW,str (ByteArray.mk (List.toArray [])),int 0,lst [],lst [],bool false])) (Fp m a d e c.1 false b f c.2 (agg [int 2,str (S b 0),aX,g,aX,iV,iW,str (ByteArray.mk (List.toArray [])),int 0,lst [],lst [],bool false])))
noncomputable def abH(m:Nat)(a:List Dt):Option (List Dt×Int):=
 some (a,0)
noncomputable def Fq(m:Nat):Nat->List Dt->Int->Dt->List Dt->List Dt->Option (List Dt×Int)
 |0,_,_,_,_,_=>none
 |d+1,a,b,e,c,f=>cond (b<(a.length:Int)) (SG m (Fq m d) a b e c f) (abH m c)
noncomputable def aoK(m:Nat)(a:List Dt)(b:Int)(c:Dt)(d e:List Dt):Option (List Dt×Int):=
 Fq m (succ m) a b c d e
noncomputable def qL:Nat->Dt->List Dt->List Dt->Option (List Dt×Int)
 |0,_,_,_=>none
 |m+1,a,b,c=>(app [] b).bind fun d=>aoK m c 0 a [] d
noncomputable def abI(m:Nat)(b:Q16)(a:Q75)(c:List Dt)(d e f g h:Int):Option Bool:=
 a c d e f g (wrap .i64 (h+1))
noncomputable def abJ(m:Nat)(a:Q16)(b:Q75)(c:List Dt)(d f g h e:Int):Option Bool:=
 (idx c e).bind fun i=>(idx (L i 4) 0).bind fun j=>(idx c d).bind fun k=>(idx (L k 4) 0).bind fun l=>(qA m (fld j 1) (fld l 1)).bind fun n=>cond (n==0) (some false) (abI m a b c d f g h e)
noncomputable def abK(m:Nat)(a:Q16)(b:List Dt)(c d:Int):Option Bool:=
 a b c (wrap .i64 (d+1))
noncomputable def Fu(m:Nat)(a:Q16):Nat->List Dt->Int->Int->Int->Int->Int->Option Bool
 |0,_,_,_,_,_,_=>none
 |g+1,b,h,c,d,e,f=>cond (f<e) (abJ m a (Fu m a g) b h c d e f) (abK m a b c d)
noncomputable def aoL(m:Nat)(a:Q16)(b:List Dt)(c d e f g:Int):Option Bool:=
 Fu m a (succ m) b c d e f g
noncomputable def aoM(m:Nat)(a:Q16)(c:List Dt)(b d e:Int):Option Bool:=
 aoL m a c b d e b 0
noncomputable def abL(m:Nat)(a:Q16)(c:List Dt)(d b:Int):Option Bool:=
 (idx c b).bind fun e=>(zI m e).bind fun f=>cond (f !=0) (some false) (aoM m a c b d b)
noncomputable def aoN(m:Nat):Option Bool:=
 some true
noncomputable def Bn(m:Nat):Nat->List Dt->Int->Int->Option Bool
 |0,_,_,_=>none
 |c+1,d,a,b=>cond (b<a) (abL m (Bn m c) d a b) (aoN m)
noncomputable def aoO(m:Nat)(a:List Dt)(b c:Int):Option Bool:=
 Bn m (succ m) a b c
noncomputable def qW:Nat->List Dt->Option Bool
 |0,_=>none
 |m+1,a=>aoO m a (a.length:Int) 0
noncomputable def abM(m:Nat)(a b:List Dt):Option Bool:=
 (yH m a).bind fun c=>cond c ((yH m b).bind fun d=>cond d ((qW m a).bind fun e=>some e) (some false)) (some false)
noncomputable def wK(m:Nat)(a b:List Dt)(c:Bool):Option Bool:=
 cond c (some false) (abM m a b)
noncomputable def zP:Nat->Dt->List Dt->List Dt->Option Bool
 |0,_,_,_=>none
 |m+1,a,b,c=>cond (I a 2<1) (wK m b c true) (cond (4<I a 2) (wK m b c true) (cond (I a 3<4) (wK m b c true) (cond (6<I a 3) (wK m b c true) (cond (8<((L a 1).length:Int)) (wK m b c true) ((i8 m (L a 1)).bind fun d=>wK m b c d)))))
noncomputable def abN(m:Nat)(a b:List Dt)(c:Dt):Option Bool:=
 (qQ m c a b).bind fun d=>(qL m c a b).bind fun e=>cond (d.2==e.2) ((zZ m d.1 e.1).bind fun f=>cond f ((qx).bind fun g=>some g) (some false)) (some false)
noncomputable def zU:Nat->Dt->List Dt->List Dt->Option Bool
 |0,_,_,_=>none
 |m+1,a,b,c=>(zP m a b c).bind fun d=>cond (!d) ((qx).bind fun e=>some e) (abN m b c a)
