/- Generated: what the Go functions compute, over plain data. -/
import Derived.Test.YtmecfjhdnbgfeaaGreatDoorA4
import Derived.Test.YtmecfjhdnbgfeaaGreatDoorOK
import Derived.Test.YtmecfjhdnbgfeaaGreatDoorOLibS
import Derived.Test.YtmecfjhdnbgfeaaGreatDoorOClS
set_option linter.all false
namespace Go.Proofs.YtmecfjhdnbgfeaaGreatDoor
open Nat (succ)
open IntKind (wrap)
open Go.Am Dt
def bg:Dt:=
 agg [int 0,int 0,str (ByteArray.mk (List.toArray [])),lst [],lst []]
def lW:Dt:=
 agg [str (ByteArray.mk (List.toArray [])),agg [int 0,int 0,str (ByteArray.mk (List.toArray [])),lst [],lst []]]
def pO:Dt:=
 agg [int 0,str (ByteArray.mk (List.toArray [])),agg [int 0,int 0,str (ByteArray.mk (List.toArray [])),lst [],lst []],agg [int 0,int 0,str (ByteArray.mk (List.toArray [])),lst [],lst []],agg [int 0,int 0,str (ByteArray.mk (List.toArray [])),lst [],lst []],agg [str (ByteArray.mk (List.toArray [])),lst [],agg [int 0,bool Bool.false,agg [int 0,int 0,str (ByteArray.mk (List.toArray [])),lst [],lst []],bool Bool.false,agg [int 0,int 0,str (ByteArray.mk (List.toArray [])),lst [],lst []],lst [],int 0,int 0,lst [],lst [],bool Bool.false,lst [],bool Bool.false],int 0,int 0],agg [str (ByteArray.mk (List.toArray [])),int 0,lst [],bool Bool.false,bool Bool.false,bool Bool.false,agg [int 0,lst [],agg [int 0,int 0,str (ByteArray.mk (List.toArray [])),lst [],lst []],lst [],int 0,int 0,agg [int 0,lst [],int 0],agg [int 0,lst [],str (ByteArray.mk (List.toArray [])),lst [],agg [int 0,int 0,str (ByteArray.mk (List.toArray [])),lst [],lst []],int 0,lst []],lst []]],str (ByteArray.mk (List.toArray [])),int 0,lst [],lst [],bool Bool.false]
def EK:Dt:=
 agg [str (ByteArray.mk (List.toArray [])),lst [],agg [int 0,bool Bool.false,agg [int 0,int 0,str (ByteArray.mk (List.toArray [])),lst [],lst []],bool Bool.false,agg [int 0,int 0,str (ByteArray.mk (List.toArray [])),lst [],lst []],lst [],int 0,int 0,lst [],lst [],bool Bool.false,lst [],bool Bool.false],int 0,int 0]
def EL:Dt:=
 agg [str (ByteArray.mk (List.toArray [])),int 0,lst [],bool Bool.false,bool Bool.false,bool Bool.false,agg [int 0,lst [],agg [int 0,int 0,str (ByteArray.mk (List.toArray [])),lst [],lst []],lst [],int 0,int 0,agg [int 0,lst [],int 0],agg [int 0,lst [],str (ByteArray.mk (List.toArray [])),lst [],agg [int 0,int 0,str (ByteArray.mk (List.toArray [])),lst [],lst []],int 0,lst []],lst []]]
def Om:Dt:=
 agg [int 2,int 0,str (ByteArray.mk (List.toArray [])),lst [],lst []]
def jP:Dt:=
 agg [str (ByteArray.mk (List.toArray [115])),lst [lst [str (ByteArray.mk (List.toArray [95,105,100]))]],int 1,int 5]
noncomputable def V6(m:Nat)(b:Dt->Dt->Option Bool)(a:List Dt->List Dt->Int->Int->Option Bool)(c d:List Dt)(e f:Int):Option Bool:=
 a c d e (wrap .i64 (f+1))
noncomputable def V7(m:Nat)(a:Dt->Dt->Option Bool)(b:List Dt->List Dt->Int->Int->Option Bool)(d e:List Dt)(f c:Int):Option Bool:=
 (idx d c).bind fun g=>(idx e c).bind fun h=>(a g h).bind fun i=>cond (!i) (some false) (V6 m a b d e f c)
noncomputable def V8(m:Nat)(a:Dt->Dt->Option Bool):Option Bool:=
 some true
noncomputable def BR(m:Nat)(a:Dt->Dt->Option Bool):Nat->List Dt->List Dt->Int->Int->Option Bool
 |0,_,_,_,_=>none
 |d+1,e,f,b,c=>cond (c<b) (V7 m a (BR m a d) e f b c) (V8 m a)
noncomputable def akA(m:Nat)(a:Dt->Dt->Option Bool)(b c:List Dt)(d e:Int):Option Bool:=
 BR m a (succ m) b c d e
noncomputable def V9(m:Nat)(a:Dt->Dt->Option Bool)(b c:List Dt):Option Bool:=
 akA m a b c (b.length:Int) 0
noncomputable def Wd(m:Nat)(c:List Dt->List Dt->Option Bool)(b:Dt->Dt->Option Bool)(a:Int->Int->Dt->Dt->Option Bool)(d e:Int)(f g:Dt):Option Bool:=
 a d (wrap .i64 (e+1)) f g
noncomputable def Oo(m:Nat)(b:List Dt->List Dt->Option Bool)(a:Dt->Dt->Option Bool)(c:Int->Int->Dt->Dt->Option Bool)(d e:Int)(f:Bool)(g h:Dt):Option Bool:=
 cond f (some false) (Wd m b a c d e g h)
noncomputable def Wh(m:Nat)(b:List Dt->List Dt->Option Bool)(a:Dt->Dt->Option Bool)(c:Int->Int->Dt->Dt->Option Bool)(g d:Int)(e f:Dt):Option Bool:=
 (idx (L e 4) d).bind fun h=>(idx (L f 4) d).bind fun i=>cond (!(S h 0).toList==(S i 0).toList) (Oo m b a c g d true e f) ((idx (L e 4) d).bind fun j=>(idx (L f 4) d).bind fun k=>(a (fld j 1) (fld k 1)).bind fun l=>Oo m b a c g d (!l) e f)
noncomputable def Wi(m:Nat)(a:List Dt->List Dt->Option Bool)(b:Dt->Dt->Option Bool)(c d:Dt):Option Bool:=
 (a (L c 3) (L d 3)).bind fun e=>some e
noncomputable def BS(m:Nat)(b:List Dt->List Dt->Option Bool)(a:Dt->Dt->Option Bool):Nat->Int->Int->Dt->Dt->Option Bool
 |0,_,_,_,_=>none
 |g+1,c,d,e,f=>cond (d<c) (Wh m b a (BS m b a g) c d e f) (Wi m b a e f)
noncomputable def akB(m:Nat)(b:List Dt->List Dt->Option Bool)(a:Dt->Dt->Option Bool)(c d:Int)(e f:Dt):Option Bool:=
 BS m b a (succ m) c d e f
noncomputable def akC(m:Nat)(b:List Dt->List Dt->Option Bool)(a:Dt->Dt->Option Bool)(c d:Dt):Option Bool:=
 akB m b a ((L c 4).length:Int) 0 c d
noncomputable def BU(m:Nat)(b:List Dt->List Dt->Option Bool)(a:Dt->Dt->Option Bool)(c:Bool)(d e:Dt):Option Bool:=
 cond c (some false) (akC m b a d e)
mutual
noncomputable def qR:Nat->List Dt->List Dt->Option Bool
 |0,_,_=>none
 |m+1,a,b=>cond ((a.length:Int) !=(b.length:Int)) (some false) (V9 m (qW m) a b)
noncomputable def qW:Nat->Dt->Dt->Option Bool
 |0,_,_=>none
 |m+1,a,b=>cond (I a 0 !=I b 0) (BU m (qR m) (qW m) true a b) (cond (I a 1 !=I b 1) (BU m (qR m) (qW m) true a b) (cond (!(S a 2).toList==(S b 2).toList) (BU m (qR m) (qW m) true a b) (BU m (qR m) (qW m) (((L a 4).length:Int) !=((L b 4).length:Int)) a b)))
end
noncomputable def Wj(m:Nat)(b:Dt->Option Dt)(a:List Dt->Int->Int->Dt->Dt->Int->Int->ByteArray->List Dt->List Dt->Option Dt)(c:List Dt)(d e:Int)(f g:Dt)(h i:Int)(j:ByteArray)(k l:List Dt):Option Dt:=
 a c d (wrap .i64 (e+1)) f g h i j k l
noncomputable def Wl(m:Nat)(a:Dt->Option Dt)(b:List Dt->Int->Int->Dt->Dt->Int->Int->ByteArray->List Dt->List Dt->Option Dt)(c:List Dt)(e d:Int)(f g:Dt)(h i:Int)(j:ByteArray)(k l:List Dt):Option Dt:=
 (idx c d).bind fun n=>(a n).bind fun o=>(app k [o]).bind fun p=>Wj m a b c e d f g h i j p l
noncomputable def Wm(m:Nat)(b:Dt->Option Dt)(a:List Dt->Int->Int->Dt->Int->Int->ByteArray->List Dt->List Dt->Option Dt)(c:List Dt)(d e:Int)(f:Dt)(g h:Int)(i:ByteArray)(j k:List Dt):Option Dt:=
 a c d (wrap .i64 (e+1)) f g h i j k
noncomputable def Wn(m:Nat)(a:Dt->Option Dt)(b:List Dt->Int->Int->Dt->Int->Int->ByteArray->List Dt->List Dt->Option Dt)(c:List Dt)(f d:Int)(g:Dt)(h i:Int)(j:ByteArray)(k l:List Dt):Option Dt:=
 (idx c d).bind fun e=>(a (fld e 1)).bind fun n=>(app l [agg [str (S e 0),n]]).bind fun o=>Wm m a b c f d g h i j k o
noncomputable def Wo(m:Nat)(a:Dt->Option Dt)(g:Dt)(b c:Int)(d:ByteArray)(e f:List Dt):Option Dt:=
 some (agg [int b,int c,str d,lst e,lst f])
noncomputable def BX(m:Nat)(a:Dt->Option Dt):Nat->List Dt->Int->Int->Dt->Int->Int->ByteArray->List Dt->List Dt->Option Dt
 |0,_,_,_,_,_,_,_,_,_=>none
 |j+1,k,b,c,d,e,f,g,h,i=>cond (c<b) (Wn m a (BX m a j) k b c d e f g h i) (Wo m a d e f g h i)
noncomputable def akD(m:Nat)(a:Dt->Option Dt)(b:List Dt)(c d:Int)(e:Dt)(f g:Int)(h:ByteArray)(i j:List Dt):Option Dt:=
 BX m a (succ m) b c d e f g h i j
noncomputable def Wp(m:Nat)(a:Dt->Option Dt)(b c:Dt)(d e:Int)(f:ByteArray)(g h:List Dt):Option Dt:=
 akD m a (L b 4) ((L b 4).length:Int) 0 c d e f g h
noncomputable def wN(m:Nat)(a:Dt->Option Dt):Nat->List Dt->Int->Int->Dt->Dt->Int->Int->ByteArray->List Dt->List Dt->Option Dt
 |0,_,_,_,_,_,_,_,_,_,_=>none
 |k+1,l,b,c,d,e,f,g,h,i,j=>cond (c<b) (Wl m a (wN m a k) l b c d e f g h i j) (Wp m a d e f g h i j)
noncomputable def akE(m:Nat)(a:Dt->Option Dt)(b:List Dt)(c d:Int)(e f:Dt)(g h:Int)(i:ByteArray)(j k:List Dt):Option Dt:=
 wN m a (succ m) b c d e f g h i j k
noncomputable def qB:Nat->Dt->Option Dt
 |0,_=>none
 |m+1,a=>akE m (qB m) (L a 3) ((L a 3).length:Int) 0 a bg (I a 0) (I a 1) (S a 2) [] []
noncomputable def i32:Nat->Int->Int->Option (Bool×Int)
 |0,_,_=>none
 |m+1,b,a=>some (b==a,a)
noncomputable def Wq(m:Nat)(a:List Dt->Int->Int->Int->Option (Int×Int))(b:List Dt)(c d e:Int):Option (Int×Int):=
 a b c (wrap .i64 (d+1)) e
noncomputable def Ws(m:Nat)(a:List Dt->Int->Int->Int->Option (Int×Int))(d:List Dt)(e b f:Int):Option (Int×Int):=
 (idx d b).bind fun g=>(i32 m (toInt g) f).bind fun c=>cond c.1 (some (b,c.2)) (Wq m a d e b c.2)
noncomputable def Wt(m:Nat)(a:Int):Option (Int×Int):=
 some ((-1),a)
noncomputable def EM(m:Nat):Nat->List Dt->Int->Int->Int->Option (Int×Int)
 |0,_,_,_,_=>none
 |d+1,e,a,b,c=>cond (b<a) (Ws m (EM m d) e a b c) (Wt m c)
noncomputable def Wu(m:Nat)(a:List Dt)(b c d:Int):Option (Int×Int):=
 EM m (succ m) a b c d
noncomputable def i31:Nat->List Dt->Int->Option (Int×Int)
 |0,_,_=>none
 |m+1,a,b=>Wu m a (a.length:Int) 0 b
noncomputable def Wv(m:Nat)(a:List Dt->Int->Int->Int->Option (List Dt×Int))(b:List Dt)(c d e:Int):Option (List Dt×Int):=
 a b c (wrap .i64 (d+1)) e
noncomputable def Ww(m:Nat)(a:List Dt->Int->Int->Int->Option (List Dt×Int))(b:List Dt)(c d f:Int):Option (List Dt×Int):=
 (idx b d).bind fun g=>(i32 m (toInt g) f).bind fun e=>cond (!e.1) ((idx b c).bind fun h=>none) (Wv m a b c d e.2)
noncomputable def Wx(m:Nat)(a:List Dt)(b c:Int):Option (List Dt×Int):=
 (cutL a b (a.length:Int)).bind fun d=>none
noncomputable def EN(m:Nat):Nat->List Dt->Int->Int->Int->Option (List Dt×Int)
 |0,_,_,_,_=>none
 |e+1,a,b,c,d=>cond (c<(a.length:Int)) (Ww m (EN m e) a b c d) (Wx m a b d)
noncomputable def Wy(m:Nat)(a:List Dt)(b c d:Int):Option (List Dt×Int):=
 EN m (succ m) a b c d
noncomputable def Wz(m:Nat)(b:List Dt)(a c:Int):Option (List Dt×Int):=
 Wy m b a (wrap .i64 (a+1)) c
noncomputable def i30:Nat->List Dt->Int->Option (List Dt×Int)
 |0,_,_=>none
 |m+1,b,c=>(i31 m b c).bind fun a=>cond (a.1==(-1)) (some (b,a.2)) (Wz m b a.1 a.2)
noncomputable def WA(m:Nat)(a:List Dt->Int->Int->List Dt->Int->Option (List Dt×Int))(b:List Dt)(c d:Int)(e:List Dt)(f:Int):Option (List Dt×Int):=
 a b c (wrap .i64 (d+1)) e f
noncomputable def WB(m:Nat)(a:List Dt->Int->Int->List Dt->Int->Option (List Dt×Int))(b:List Dt)(c d:Int)(f:List Dt)(g:Int):Option (List Dt×Int):=
 (idx b d).bind fun h=>(i32 m (toInt h) g).bind fun e=>cond (!e.1) ((idx b c).bind fun i=>none) (WA m a b c d f e.2)
noncomputable def WC(m:Nat)(a:List Dt)(b:Int)(c:List Dt)(d:Int):Option (List Dt×Int):=
 (cutL a b (a.length:Int)).bind fun e=>none
noncomputable def EO(m:Nat):Nat->List Dt->Int->Int->List Dt->Int->Option (List Dt×Int)
 |0,_,_,_,_,_=>none
 |f+1,a,b,c,d,e=>cond (c<(a.length:Int)) (WB m (EO m f) a b c d e) (WC m a b d e)
noncomputable def WE(m:Nat)(a:List Dt)(b c:Int)(d:List Dt)(e:Int):Option (List Dt×Int):=
 EO m (succ m) a b c d e
noncomputable def WG(m:Nat)(b:List Dt)(a:Int)(c:List Dt)(d:Int):Option (List Dt×Int):=
 WE m b a (wrap .i64 (a+1)) c d
noncomputable def i33:Nat->List Dt->Int->Option (List Dt×Int)
 |0,_,_=>none
 |m+1,a,c=>(i31 m a c).bind fun b=>cond (b.1==(-1)) (some (a,b.2)) (WG m a b.1 a b.2)
noncomputable def WH(m:Nat):Option Int:=
 some 0
noncomputable def WI(m:Nat)(a b:Int):Option Int:=
 cond (b<a) (some 1) (WH m)
noncomputable def zM:Nat->Int->Int->Option Int
 |0,_,_=>none
 |m+1,a,b=>cond (a<b) (some (-1)) (WI m a b)
noncomputable def WJ(m:Nat)(a:ByteArray->ByteArray->Int->Option Int)(b c:ByteArray)(d:Int):Option Int:=
 a b c (wrap .i64 (d+1))
noncomputable def WK(m:Nat)(a:ByteArray->ByteArray->Int->Option Int)(c d:ByteArray)(b:Int):Option Int:=
 (idxS c b).bind fun e=>(idxS d b).bind fun f=>cond (e !=f) ((idxS c b).bind fun g=>(idxS d b).bind fun h=>(zM m (wrap .i64 g) (wrap .i64 h)).bind fun i=>some i) (WJ m a c d b)
noncomputable def Gv(m:Nat)(a b:ByteArray):Option Int:=
 (zM m (a.size:Int) (b.size:Int)).bind fun c=>some c
noncomputable def BZ(m:Nat):Nat->ByteArray->ByteArray->Int->Option Int
 |0,_,_,_=>none
 |d+1,a,b,c=>cond (c<(a.size:Int)) (cond (c<(b.size:Int)) (WK m (BZ m d) a b c) (Gv m a b)) (Gv m a b)
noncomputable def akF(m:Nat)(a b:ByteArray)(c:Int):Option Int:=
 BZ m (succ m) a b c
noncomputable def zE:Nat->ByteArray->ByteArray->Option Int
 |0,_,_=>none
 |m+1,a,b=>akF m a b 0
noncomputable def WL(m:Nat)(b:Dt->Dt->Option Int)(a:Int->Dt->Dt->Option Int)(c:Int)(d e:Dt):Option Int:=
 a (wrap .i64 (c+1)) d e
noncomputable def WM(m:Nat)(a:Dt->Dt->Option Int)(b:Int->Dt->Dt->Option Int)(c:Int)(d e:Dt):Option Int:=
 (idx (L d 3) c).bind fun g=>(idx (L e 3) c).bind fun h=>(a g h).bind fun f=>cond (f !=0) (some f) (WL m a b c d e)
noncomputable def Gw(m:Nat)(a:Dt->Dt->Option Int)(b c:Dt):Option Int:=
 (zM m ((L b 3).length:Int) ((L c 3).length:Int)).bind fun d=>some d
noncomputable def Ca(m:Nat)(a:Dt->Dt->Option Int):Nat->Int->Dt->Dt->Option Int
 |0,_,_,_=>none
 |e+1,d,b,c=>cond (d<((L b 3).length:Int)) (cond (d<((L c 3).length:Int)) (WM m a (Ca m a e) d b c) (Gw m a b c)) (Gw m a b c)
noncomputable def Oq(m:Nat)(a:Dt->Dt->Option Int)(b:Int)(c d:Dt):Option Int:=
 Ca m a (succ m) b c d
noncomputable def L9(m:Nat)(b:Dt->Dt->Option Int)(a:Int->Dt->Dt->Option Int)(c:Int)(d e:Dt):Option Int:=
 a (wrap .i64 (c+1)) d e
noncomputable def EP(m:Nat)(a:Dt->Dt->Option Int)(b:Int->Dt->Dt->Option Int)(d c:Int)(e f:Dt):Option Int:=
 cond (c !=0) (some c) (L9 m a b d e f)
noncomputable def Ma(m:Nat)(a:Dt->Dt->Option Int)(b:Int->Dt->Dt->Option Int)(c:Int)(d e:Dt):Option Int:=
 (idx (L d 4) c).bind fun j=>(idx (L e 4) c).bind fun k=>(zE m (S j 0) (S k 0)).bind fun i=>cond (i==0) ((idx (L d 4) c).bind fun f=>(idx (L e 4) c).bind fun g=>(a (fld f 1) (fld g 1)).bind fun h=>EP m a b c h d e) (EP m a b c i d e)
noncomputable def wO(m:Nat)(a:Dt->Dt->Option Int)(c d:Dt):Option Int:=
 (zM m ((L c 4).length:Int) ((L d 4).length:Int)).bind fun b=>some b
noncomputable def Cb(m:Nat)(a:Dt->Dt->Option Int):Nat->Int->Dt->Dt->Option Int
 |0,_,_,_=>none
 |e+1,d,b,c=>cond (d<((L b 4).length:Int)) (cond (d<((L c 4).length:Int)) (Ma m a (Cb m a e) d b c) (wO m a b c)) (wO m a b c)
noncomputable def Ot(m:Nat)(a:Dt->Dt->Option Int)(b:Int)(c d:Dt):Option Int:=
 Cb m a (succ m) b c d
noncomputable def Mc(m:Nat)(a:Dt->Dt->Option Int):Option Int:=
 some 0
noncomputable def Gx(m:Nat)(a:Dt->Dt->Option Int)(d:Int)(e:Bool)(b c:Dt):Option Int:=
 cond e ((zE m (S b 2) (S c 2)).bind fun f=>some f) (cond (d==6) (Oq m a 0 b c) (cond (d==5) (Ot m a 0 b c) (Mc m a)))
noncomputable def Gy(m:Nat)(a:Dt->Dt->Option Int)(b:Int)(e:Bool)(c d:Dt):Option Int:=
 cond e ((zM m (I c 1) (I d 1)).bind fun f=>some f) (cond (b==4) (Gx m a b (b==4) c d) (cond (b==7) (Gx m a b (b==7) c d) (Gx m a b (b==8) c d)))
noncomputable def Gz(m:Nat)(a:Dt->Dt->Option Int)(b c:Dt):Option Int:=
 cond (I b 0==3) (Gy m a (I b 0) (I b 0==3) b c) (cond (I b 0==9) (Gy m a (I b 0) (I b 0==9) b c) (Gy m a (I b 0) (I b 0==10) b c))
noncomputable def qC:Nat->Dt->Dt->Option Int
 |0,_,_=>none
 |m+1,a,b=>cond (I a 0 !=I b 0) ((zM m (I a 0) (I b 0)).bind fun c=>some c) (Gz m (qC m) a b)
noncomputable def WO(m:Nat)(a:Int->Int->List Dt->Dt->Option (List Dt))(b c:Int)(d:List Dt)(e:Dt):Option (List Dt):=
 a b (wrap .i64 (c+1)) d e
noncomputable def WQ(m:Nat)(c:Int->Int->List Dt->Dt->Option (List Dt))(e a:Int)(b:List Dt)(d:Dt):Option (List Dt):=
 (inL b a).bind fun j=>(b[a.toNat]?).bind fun f=>(idx (L f 4) 0).bind fun g=>(idx (L d 4) 0).bind fun h=>(qC m (fld g 1) (fld h 1)).bind fun i=>cond (i==0) ((inL b a).bind fun k=>(b[a.toNat]?).bind fun l=>some (List.set b a.toNat d)) (WO m c e a b d)
noncomputable def WS(m:Nat)(a:List Dt)(b:Dt):Option (List Dt):=
 (app a [b]).bind fun c=>some c
noncomputable def wP(m:Nat):Nat->Int->Int->List Dt->Dt->Option (List Dt)
 |0,_,_,_,_=>none
 |e+1,a,b,c,d=>cond (b<a) (WQ m (wP m e) a b c d) (WS m c d)
noncomputable def akG(m:Nat)(a b:Int)(c:List Dt)(d:Dt):Option (List Dt):=
 wP m (succ m) a b c d
noncomputable def i6:Nat->Dt->List Dt->Option (List Dt)
 |0,_,_=>none
 |m+1,b,a=>akG m (a.length:Int) 0 a b
noncomputable def WT(m:Nat)(a:List Dt->ByteArray->Int->Int->Option Int)(b:List Dt)(c:ByteArray)(d e:Int):Option Int:=
 a b c d (wrap .i64 (e+1))
noncomputable def WU(m:Nat)(a:List Dt->ByteArray->Int->Int->Option Int)(c:List Dt)(d:ByteArray)(e b:Int):Option Int:=
 (idx c b).bind fun f=>cond ((S f 0).toList==d.toList) (some b) (WT m a c d e b)
noncomputable def WW(m:Nat):Option Int:=
 some (-1)
noncomputable def Cc(m:Nat):Nat->List Dt->ByteArray->Int->Int->Option Int
 |0,_,_,_,_=>none
 |c+1,d,e,a,b=>cond (b<a) (WU m (Cc m c) d e a b) (WW m)
noncomputable def akH(m:Nat)(a:List Dt)(b:ByteArray)(c d:Int):Option Int:=
 Cc m (succ m) a b c d
noncomputable def zH:Nat->List Dt->ByteArray->Option Int
 |0,_,_=>none
 |m+1,a,b=>akH m a b (a.length:Int) 0
noncomputable def akI(m:Nat)(a:ByteArray->Int->Int->Int->Option (Int×Bool))(b:ByteArray)(c d e:Int):Option (Int×Bool):=
 a b c d (wrap .i64 (e+1))
noncomputable def akJ(m:Nat)(a:ByteArray->Int->Int->Int->Option (Int×Bool))(b:ByteArray)(c d e f:Int):Option (Int×Bool):=
 (idxS b d).bind fun g=>akI m a b (wrap .i64 (wrap .i64 (10*c)+wrap .i64 (wrap IntKind.u8 (g-48)))) e f
noncomputable def WX(m:Nat)(a:ByteArray->Int->Int->Int->Option (Int×Bool))(b:ByteArray)(c d e f:Int)(g:Bool):Option (Int×Bool):=
 cond g (some (0,false)) (akJ m a b c d e f)
noncomputable def akK(m:Nat)(a:ByteArray->Int->Int->Int->Option (Int×Bool))(c:ByteArray)(d e b:Int):Option (Int×Bool):=
 (idxS c b).bind fun f=>cond (f<48) (WX m a c d b e b true) ((idxS c b).bind fun g=>WX m a c d b e b (decide (57<g)))
noncomputable def akL(m:Nat)(a:Int):Option (Int×Bool):=
 some (a,true)
noncomputable def Ou(m:Nat):Nat->ByteArray->Int->Int->Int->Option (Int×Bool)
 |0,_,_,_,_=>none
 |d+1,e,a,b,c=>cond (c<b) (akK m (Ou m d) e a b c) (akL m a)
noncomputable def akM(m:Nat)(a:ByteArray)(b c d:Int):Option (Int×Bool):=
 Ou m (succ m) a b c d
noncomputable def akN(m:Nat)(a:ByteArray):Option (Int×Bool):=
 akM m a 0 (a.size:Int) 0
noncomputable def GA(m:Nat)(a:ByteArray)(b:Bool):Option (Int×Bool):=
 cond b (some (0,false)) (akN m a)
noncomputable def zA:Nat->ByteArray->Option (Int×Bool)
 |0,_=>none
 |m+1,a=>cond ((a.size:Int)<1) (GA m a true) (cond (4<(a.size:Int)) (GA m a true) ((idxS a 0).bind fun b=>cond (b==48) (GA m a (decide (1<(a.size:Int)))) (GA m a false)))
noncomputable def Ov(m:Nat)(b:Dt->Option Dt)(a:List Dt->Int->Int->Dt->Dt->Int->Int->ByteArray->List Dt->Option Dt)(c:List Dt)(d e:Int)(f g:Dt)(h i:Int)(j:ByteArray)(k:List Dt):Option Dt:=
 a c d (wrap .i64 (e+1)) f g h i j k
noncomputable def Ow(m:Nat)(a:Dt->Option Dt)(b:List Dt->Int->Int->Dt->Dt->Int->Int->ByteArray->List Dt->Option Dt)(e:List Dt)(f c:Int)(g h:Dt)(i j:Int)(k:ByteArray)(d:List Dt):Option Dt:=
 (idx e c).bind fun l=>(a l).bind fun n=>(inL d c).bind fun o=>(d[c.toNat]?).bind fun p=>Ov m a b e f c g h i j k (List.set d c.toNat n)
noncomputable def Ox(m:Nat)(b:Dt->Option Dt)(a:List Dt->Int->Int->Dt->Int->Int->ByteArray->List Dt->List Dt->Option Dt)(c:List Dt)(d e:Int)(f:Dt)(g h:Int)(i:ByteArray)(j k:List Dt):Option Dt:=
 a c d (wrap .i64 (e+1)) f g h i j k
noncomputable def Oy(m:Nat)(a:Dt->Option Dt)(b:List Dt->Int->Int->Dt->Int->Int->ByteArray->List Dt->List Dt->Option Dt)(e:List Dt)(g c:Int)(h:Dt)(i j:Int)(k:ByteArray)(l d:List Dt):Option Dt:=
 (idx e c).bind fun f=>(a (fld f 1)).bind fun n=>(inL d c).bind fun o=>(d[c.toNat]?).bind fun p=>Ox m a b e g c h i j k l (List.set d c.toNat (agg [str (S f 0),n]))
noncomputable def Oz(m:Nat)(a:Dt->Option Dt)(g:Dt)(b c:Int)(d:ByteArray)(e f:List Dt):Option Dt:=
 some (agg [int b,int c,str d,lst e,lst f])
noncomputable def uQ(m:Nat)(a:Dt->Option Dt):Nat->List Dt->Int->Int->Dt->Int->Int->ByteArray->List Dt->List Dt->Option Dt
 |0,_,_,_,_,_,_,_,_,_=>none
 |j+1,k,b,c,d,e,f,g,h,i=>cond (c<b) (Oy m a (uQ m a j) k b c d e f g h i) (Oz m a d e f g h i)
noncomputable def akO(m:Nat)(a:Dt->Option Dt)(b:List Dt)(c d:Int)(e:Dt)(f g:Int)(h:ByteArray)(i j:List Dt):Option Dt:=
 uQ m a (succ m) b c d e f g h i j
noncomputable def WY(m:Nat)(a:Dt->Option Dt)(f:Dt)(b c:Int)(d:ByteArray)(e:List Dt):Option Dt:=
 some (agg [int b,int c,str d,lst e,lst []])
noncomputable def wQ(m:Nat)(a:Dt->Option Dt)(b c:Dt)(d e:Int)(f:ByteArray)(g:List Dt):Option Dt:=
 cond (0<((L b 4).length:Int)) ((mkL ((L b 4).length:Int) ((L b 4).length:Int) lW).bind fun h=>akO m a (L b 4) ((L b 4).length:Int) 0 c d e f g h) (WY m a c d e f g)
noncomputable def mH(m:Nat)(a:Dt->Option Dt):Nat->List Dt->Int->Int->Dt->Dt->Int->Int->ByteArray->List Dt->Option Dt
 |0,_,_,_,_,_,_,_,_,_=>none
 |j+1,k,b,c,d,e,f,g,h,i=>cond (c<b) (Ow m a (mH m a j) k b c d e f g h i) (wQ m a d e f g h i)
noncomputable def akP(m:Nat)(a:Dt->Option Dt)(b:List Dt)(c d:Int)(e f:Dt)(g h:Int)(i:ByteArray)(j:List Dt):Option Dt:=
 mH m a (succ m) b c d e f g h i j
noncomputable def Md(m:Nat)(b:Dt->Option Dt)(a:List Dt->Int->Int->Dt->Int->Int->ByteArray->List Dt->List Dt->Option Dt)(c:List Dt)(d e:Int)(f:Dt)(g h:Int)(i:ByteArray)(j k:List Dt):Option Dt:=
 a c d (wrap .i64 (e+1)) f g h i j k
noncomputable def Me(m:Nat)(a:Dt->Option Dt)(b:List Dt->Int->Int->Dt->Int->Int->ByteArray->List Dt->List Dt->Option Dt)(g:List Dt)(h c:Int)(i:Dt)(j k:Int)(l:ByteArray)(n e:List Dt):Option Dt:=
 (idx g c).bind fun d=>(a (fld d 1)).bind fun f=>(inL e c).bind fun o=>(e[c.toNat]?).bind fun p=>Md m a b g h c i j k l n (List.set e c.toNat (agg [str (S d 0),f]))
noncomputable def Mf(m:Nat)(a:Dt->Option Dt)(g:Dt)(b c:Int)(d:ByteArray)(e f:List Dt):Option Dt:=
 some (agg [int b,int c,str d,lst e,lst f])
noncomputable def rZ(m:Nat)(a:Dt->Option Dt):Nat->List Dt->Int->Int->Dt->Int->Int->ByteArray->List Dt->List Dt->Option Dt
 |0,_,_,_,_,_,_,_,_,_=>none
 |b+1,k,c,d,e,f,g,h,i,j=>cond (d<c) (Me m a (rZ m a b) k c d e f g h i j) (Mf m a e f g h i j)
noncomputable def WZ(m:Nat)(a:Dt->Option Dt)(b:List Dt)(c d:Int)(e:Dt)(f g:Int)(h:ByteArray)(i j:List Dt):Option Dt:=
 rZ m a (succ m) b c d e f g h i j
noncomputable def W9(m:Nat)(a:Dt->Option Dt)(c b:Dt):Option Dt:=
 some b
noncomputable def Xa(m:Nat)(a:Dt->Option Dt)(b e c:Dt):Option Dt:=
 cond (0<((L b 4).length:Int)) ((mkL ((L b 4).length:Int) ((L b 4).length:Int) lW).bind fun d=>WZ m a (L b 4) ((L b 4).length:Int) 0 e (I c 0) (I c 1) (S c 2) (L c 3) d) (W9 m a e c)
noncomputable def qG:Nat->Dt->Option Dt
 |0,_=>none
 |m+1,a=>cond (0<((L a 3).length:Int)) ((mkL ((L a 3).length:Int) ((L a 3).length:Int) bg).bind fun b=>akP m (qG m) (L a 3) ((L a 3).length:Int) 0 a bg (I a 0) (I a 1) (S a 2) b) (Xa m (qG m) a bg (agg [int (I a 0),int (I a 1),str (S a 2),lst [],lst []]))
noncomputable def akQ(m:Nat)(a:List Dt->Int->Int->Dt->Dt->Option Dt)(b:List Dt)(c d:Int)(e f:Dt):Option Dt:=
 a b c (wrap .i64 (d+1)) e f
noncomputable def Ce(m:Nat)(a:List Dt->Int->Int->Dt->Dt->Option Dt)(b:Int)(c:List Dt)(d e:Int)(f g:Dt):Option Dt:=
 cond (b<0) (some bg) (akQ m a c d e f g)
noncomputable def Xb(m:Nat)(a:List Dt->Int->Int->Dt->Dt->Option Dt)(h b:Int)(c:List Dt)(d e:Int)(i:Bool)(f g:Dt):Option Dt:=
 cond i ((idx (L f 3) b).bind fun j=>Ce m a b c d e j g) (Ce m a h c d e f g)
noncomputable def OA(m:Nat)(a:List Dt->Int->Int->Dt->Dt->Option Dt)(c:List Dt)(e d:Int)(b f:Dt):Option Dt:=
 (idx c d).bind fun i=>cond (I b 0==5) ((zH m (L b 4) (toStr i)).bind fun g=>cond (0<=g) ((idx (L b 4) g).bind fun j=>Ce m a g c e d (fld j 1) f) (Ce m a g c e d b f)) (cond (I b 0==6) ((zA m (toStr i)).bind fun h=>cond h.2 (Xb m a (-1) h.1 c e d (decide (h.1<((L b 3).length:Int))) b f) (Xb m a (-1) h.1 c e d false b f)) (Ce m a (-1) c e d b f))
noncomputable def akR(m:Nat)(a c:Dt):Option Dt:=
 (qG m a).bind fun b=>some b
noncomputable def pQ(m:Nat):Nat->List Dt->Int->Int->Dt->Dt->Option Dt
 |0,_,_,_,_,_=>none
 |e+1,f,a,b,c,d=>cond (b<a) (OA m (pQ m e) f a b c d) (akR m c d)
noncomputable def akS(m:Nat)(a:List Dt)(b c:Int)(d e:Dt):Option Dt:=
 pQ m (succ m) a b c d e
noncomputable def zJ:Nat->Dt->List Dt->Option Dt
 |0,_,_=>none
 |m+1,b,a=>akS m a (a.length:Int) 0 b bg
noncomputable def OB(m:Nat)(b:Dt->Option (Int×Int×ByteArray×List Dt×List Dt))(a:List Dt->Int->Int->Dt->Dt->Int->Int->ByteArray->List Dt->List Dt->Option (Int×Int×ByteArray×List Dt×List Dt))(c:List Dt)(d e:Int)(f g:Dt)(h i:Int)(j:ByteArray)(k l:List Dt):Option (Int×Int×ByteArray×List Dt×List Dt):=
 a c d (wrap .i64 (e+1)) f g h i j k l
noncomputable def OC(m:Nat)(a:Dt->Option (Int×Int×ByteArray×List Dt×List Dt))(b:List Dt->Int->Int->Dt->Dt->Int->Int->ByteArray->List Dt->List Dt->Option (Int×Int×ByteArray×List Dt×List Dt))(f:List Dt)(g c:Int)(h i:Dt)(j k:Int)(l:ByteArray)(e n:List Dt):Option (Int×Int×ByteArray×List Dt×List Dt):=
 (idx f c).bind fun o=>(a o).bind fun d=>(inL e c).bind fun p=>(e[c.toNat]?).bind fun q=>OB m a b f g c h i j k l (List.set e c.toNat (agg [int d.1,int d.2.1,str d.2.2.1,lst d.2.2.2.1,lst d.2.2.2.2])) n
noncomputable def OD(m:Nat)(b:Dt->Option (Int×Int×ByteArray×List Dt×List Dt))(a:List Dt->Int->Int->Dt->Int->Int->ByteArray->List Dt->List Dt->Option (Int×Int×ByteArray×List Dt×List Dt))(c:List Dt)(d e:Int)(f:Dt)(g h:Int)(i:ByteArray)(j k:List Dt):Option (Int×Int×ByteArray×List Dt×List Dt):=
 a c d (wrap .i64 (e+1)) f g h i j k
noncomputable def OE(m:Nat)(a:Dt->Option (Int×Int×ByteArray×List Dt×List Dt))(b:List Dt->Int->Int->Dt->Int->Int->ByteArray->List Dt->List Dt->Option (Int×Int×ByteArray×List Dt×List Dt))(f:List Dt)(h c:Int)(i:Dt)(j k:Int)(l:ByteArray)(n e:List Dt):Option (Int×Int×ByteArray×List Dt×List Dt):=
 (idx f c).bind fun g=>(a (fld g 1)).bind fun d=>(inL e c).bind fun o=>(e[c.toNat]?).bind fun p=>OD m a b f h c i j k l n (List.set e c.toNat (agg [str (S g 0),agg [int d.1,int d.2.1,str d.2.2.1,lst d.2.2.2.1,lst d.2.2.2.2]]))
noncomputable def GD(m:Nat)(a:Dt->Option (Int×Int×ByteArray×List Dt×List Dt))(g:Dt)(b c:Int)(d:ByteArray)(e f:List Dt):Option (Int×Int×ByteArray×List Dt×List Dt):=
 some (b,c,d,e,f)
noncomputable def uR(m:Nat)(a:Dt->Option (Int×Int×ByteArray×List Dt×List Dt)):Nat->List Dt->Int->Int->Dt->Int->Int->ByteArray->List Dt->List Dt->Option (Int×Int×ByteArray×List Dt×List Dt)
 |0,_,_,_,_,_,_,_,_,_=>none
 |j+1,k,b,c,d,e,f,g,h,i=>cond (c<b) (OE m a (uR m a j) k b c d e f g h i) (GD m a d e f g h i)
noncomputable def akT(m:Nat)(a:Dt->Option (Int×Int×ByteArray×List Dt×List Dt))(b:List Dt)(c d:Int)(e:Dt)(f g:Int)(h:ByteArray)(i j:List Dt):Option (Int×Int×ByteArray×List Dt×List Dt):=
 uR m a (succ m) b c d e f g h i j
noncomputable def kF(m:Nat)(a:Dt->Option (Int×Int×ByteArray×List Dt×List Dt))(b c:Dt)(d e:Int)(f:ByteArray)(g h:List Dt):Option (Int×Int×ByteArray×List Dt×List Dt):=
 cond (0<((L b 4).length:Int)) ((mkL ((L b 4).length:Int) ((L b 4).length:Int) lW).bind fun i=>akT m a (L b 4) ((L b 4).length:Int) 0 c d e f g i) (GD m a c d e f g h)
noncomputable def mI(m:Nat)(a:Dt->Option (Int×Int×ByteArray×List Dt×List Dt)):Nat->List Dt->Int->Int->Dt->Dt->Int->Int->ByteArray->List Dt->List Dt->Option (Int×Int×ByteArray×List Dt×List Dt)
 |0,_,_,_,_,_,_,_,_,_,_=>none
 |k+1,l,b,c,d,e,f,g,h,i,j=>cond (c<b) (OC m a (mI m a k) l b c d e f g h i j) (kF m a d e f g h i j)
noncomputable def akU(m:Nat)(a:Dt->Option (Int×Int×ByteArray×List Dt×List Dt))(b:List Dt)(c d:Int)(e f:Dt)(g h:Int)(i:ByteArray)(j k:List Dt):Option (Int×Int×ByteArray×List Dt×List Dt):=
 mI m a (succ m) b c d e f g h i j k
noncomputable def qJ:Nat->Dt->Option (Int×Int×ByteArray×List Dt×List Dt)
 |0,_=>none
 |m+1,a=>bif 0<((L a 3).length:Int)then(mkL ((L a 3).length:Int) ((L a 3).length:Int) bg).bind fun b=>akU m (qJ m) (L a 3) ((L a 3).length:Int) 0 a bg (I a 0) (I a 1) (S a 2) b []else kF m (qJ m) a bg (I a 0) (I a 1) (S a 2) [] []
noncomputable def akV(m:Nat)(a:ByteArray->Int->Int->Dt->Option Int)(b:ByteArray)(c d:Int)(e:Dt):Option Int:=
 a b c (wrap .i64 (d+1)) e
noncomputable def Xc(m:Nat)(a:ByteArray->Int->Int->Dt->Option Int)(c:ByteArray)(e b:Int)(d:Dt):Option Int:=
 (idx (L d 4) b).bind fun f=>cond ((S f 0).toList==c.toList) (some b) (akV m a c e b d)
noncomputable def akW(m:Nat):Option Int:=
 some (-1)
noncomputable def Cg(m:Nat):Nat->ByteArray->Int->Int->Dt->Option Int
 |0,_,_,_,_=>none
 |c+1,d,a,b,e=>cond (b<a) (Xc m (Cg m c) d a b e) (akW m)
noncomputable def akX(m:Nat)(a:ByteArray)(b c:Int)(d:Dt):Option Int:=
 Cg m (succ m) a b c d
noncomputable def akY(m:Nat)(b:ByteArray)(a:Dt):Option Int:=
 akX m b ((L a 4).length:Int) 0 a
noncomputable def zI:Nat->Dt->ByteArray->Option Int
 |0,_,_=>none
 |m+1,a,b=>cond (I a 0 !=5) (some (-1)) (akY m b a)
noncomputable def akZ(m:Nat)(b:ByteArray)(c j:Dt)(d e:Int)(f:ByteArray)(g h:List Dt):Option Dt:=
 (qJ m c).bind fun a=>(app h [agg [str b,agg [int a.1,int a.2.1,str a.2.2.1,lst a.2.2.2.1,lst a.2.2.2.2]]]).bind fun i=>some (agg [int d,int e,str f,lst g,lst i])
noncomputable def ak0(m:Nat)(h:ByteArray)(i j:Dt)(d e:Int)(f:ByteArray)(g a:List Dt):Option Dt:=
 (zI m (agg [int d,int e,str f,lst g,lst a]) h).bind fun c=>cond (0<=c) ((qJ m i).bind fun b=>(inL a c).bind fun l=>(a[c.toNat]?).bind fun k=>some (agg [int d,int e,str f,lst g,lst (List.set a c.toNat (agg [str (S k 0),agg [int b.1,int b.2.1,str b.2.2.1,lst b.2.2.2.1,lst b.2.2.2.2]]))])) (akZ m h i j d e f g a)
noncomputable def zY:Nat->Dt->ByteArray->Dt->Option Dt
 |0,_,_,_=>none
 |m+1,b,c,d=>(qJ m b).bind fun a=>cond (a.1 !=5) (some (agg [int a.1,int a.2.1,str a.2.2.1,lst a.2.2.2.1,lst a.2.2.2.2])) (ak0 m c d bg a.1 a.2.1 a.2.2.1 a.2.2.2.1 a.2.2.2.2)
noncomputable def ak1(m:Nat)(b:Int)(c e:Dt):Option (Dt×Bool):=
 (idx (L c 4) b).bind fun d=>(qJ m (fld d 1)).bind fun a=>some (agg [int a.1,int a.2.1,str a.2.2.1,lst a.2.2.2.1,lst a.2.2.2.2],true)
noncomputable def z8:Nat->Dt->ByteArray->Option (Dt×Bool)
 |0,_,_=>none
 |m+1,a,c=>(zI m a c).bind fun b=>cond (b<0) (some (bg,false)) (ak1 m b a bg)
noncomputable def zL:Nat->Dt->Option Dt
 |0,_=>none
 |m+1,a=>(z8 m a (ByteArray.mk (List.toArray [95,105,100]))).bind fun b=>some b.1
noncomputable def i26:Nat->Dt->Dt->Dt->List Dt->List Dt->List Dt->List Dt->Option (Dt×List Dt×List Dt×List Dt×List Dt)
 |0,_,_,_,_,_,_,_=>none
 |m+1,c,e,d,f,g,h,a=>(zL m c).bind fun i=>(qB m i).bind fun j=>(qB m c).bind fun k=>(qB m e).bind fun l=>(cond false (app a [pO]) (cond true (ite (a.length+1<=2147483648) (Option.some (a++[pO])) Option.none) Option.none)).bind fun b=>(inL b (a.length:Int)).bind fun n=>(b[(a.length:Int).toNat]?).bind fun o=>some (d,g,h,f,List.set b (a.length:Int).toNat (agg [int 2,str (S d 0),j,k,l,EK,EL,str (ByteArray.mk (List.toArray [])),int 0,lst [],lst [],bool false]))
noncomputable def wR(m:Nat)(a:ByteArray->Int->Option Bool)(b:ByteArray)(c:Int):Option Bool:=
 a b (wrap .i64 (c+1))
noncomputable def pR(m:Nat)(a:ByteArray->Int->Option Bool)(b:ByteArray)(c:Int)(d:Bool):Option Bool:=
 cond d (some false) (wR m a b c)
noncomputable def wS(m:Nat)(a:ByteArray->Int->Option Bool)(b:ByteArray)(c:Int):Option Bool:=
 (idxS b c).bind fun d=>cond (d<33) (pR m a b c true) ((idxS b c).bind fun e=>cond (126<e) (pR m a b c true) ((idxS b c).bind fun f=>pR m a b c (f==46)))
noncomputable def wT(m:Nat):Option Bool:=
 some true
noncomputable def wU(m:Nat):Nat->ByteArray->Int->Option Bool
 |0,_,_=>none
 |c+1,a,b=>cond (b<(a.size:Int)) (wS m (wU m c) a b) (wT m)
noncomputable def wV(m:Nat)(a:ByteArray)(b:Int):Option Bool:=
 wU m (succ m) a b
noncomputable def wW(m:Nat)(a:ByteArray):Option Bool:=
 wV m a 0
noncomputable def pU(m:Nat)(a:ByteArray)(b:Bool):Option Bool:=
 cond b (some false) (wW m a)
noncomputable def qS:Nat->ByteArray->Option Bool
 |0,_=>none
 |m+1,a=>cond ((a.size:Int)<1) (pU m a true) (cond (32<(a.size:Int)) (pU m a true) ((idxS a 0).bind fun b=>pU m a (b==36)))
noncomputable def ak2(m:Nat)(a:List Dt->Int->Option Bool)(b:List Dt)(c:Int):Option Bool:=
 a b (wrap .i64 (c+1))
noncomputable def ak3(m:Nat)(a:List Dt->Int->Option Bool)(b:List Dt)(c:Int):Option Bool:=
 (idx b c).bind fun d=>(qS m (toStr d)).bind fun e=>cond (!e) (some false) (ak2 m a b c)
noncomputable def ak4(m:Nat):Option Bool:=
 some true
noncomputable def uS(m:Nat):Nat->List Dt->Int->Option Bool
 |0,_,_=>none
 |c+1,a,b=>cond (b<(a.length:Int)) (ak3 m (uS m c) a b) (ak4 m)
noncomputable def ak5(m:Nat)(a:List Dt)(b:Int):Option Bool:=
 uS m (succ m) a b
noncomputable def ak6(m:Nat)(a:List Dt):Option Bool:=
 ak5 m a 0
noncomputable def Xd(m:Nat)(a:List Dt)(b:Bool):Option Bool:=
 cond b (some false) (ak6 m a)
noncomputable def zD:Nat->List Dt->Option Bool
 |0,_=>none
 |m+1,a=>cond ((a.length:Int)<1) (Xd m a true) (Xd m a (decide (16<(a.length:Int))))
noncomputable def zQ:Nat->List Dt->Option Bool
 |0,_=>none
 |m+1,a=>(zD m a).bind fun b=>some (!b)
noncomputable def Xe(m:Nat)(a:List Dt->Int->Int->Option Int)(b:List Dt)(c d:Int):Option Int:=
 a b c (wrap .i64 (d+1))
noncomputable def Xf(m:Nat)(a:List Dt->Int->Int->Option Int)(c:List Dt)(d b:Int):Option Int:=
 (idx c b).bind fun e=>(zQ m (toLst e)).bind fun f=>cond f (some b) (Xe m a c d b)
noncomputable def Xg(m:Nat):Option Int:=
 some (-1)
noncomputable def kG(m:Nat):Nat->List Dt->Int->Int->Option Int
 |0,_,_,_=>none
 |c+1,d,a,b=>cond (b<a) (Xf m (kG m c) d a b) (Xg m)
noncomputable def Xh(m:Nat)(a:List Dt)(b c:Int):Option Int:=
 kG m (succ m) a b c
noncomputable def i15:Nat->List Dt->Option Int
 |0,_=>none
 |m+1,a=>Xh m a (a.length:Int) 0
noncomputable def i14:Nat->List Dt->Option Bool
 |0,_=>none
 |m+1,a=>(i15 m a).bind fun b=>some (decide (0<=b))
noncomputable def zX:Nat->Int->Option Int
 |0,_=>none
 |m+1,a=>some (xorI IntKind.u64 (shlI IntKind.u64 (wrap IntKind.u64 a) 1) (wrap IntKind.u64 (shrI IntKind.i64 a 63)))
noncomputable def Mg(m:Nat)(a:Int->List Dt->Option (List Dt))(b:Int)(c:List Dt):Option (List Dt):=
 (app c [int (orI IntKind.u8 (wrap IntKind.u8 b) 128)]).bind fun d=>a (shrI IntKind.u64 b 7) d
noncomputable def Mh(m:Nat)(a:Int)(b:List Dt):Option (List Dt):=
 (app b [int (wrap IntKind.u8 a)]).bind fun c=>some c
noncomputable def r9(m:Nat):Nat->Int->List Dt->Option (List Dt)
 |0,_,_=>none
 |c+1,a,b=>cond (128<=a) (Mg m (r9 m c) a b) (Mh m a b)
noncomputable def Xi(m:Nat)(a:Int)(b:List Dt):Option (List Dt):=
 r9 m (succ m) a b
noncomputable def i60:Nat->Int->List Dt->Option (List Dt)
 |0,_,_=>none
 |m+1,a,b=>(zX m a).bind fun c=>Xi m c b
noncomputable def i62:Nat->ByteArray->List Dt->Option (List Dt)
 |0,_,_=>none
 |m+1,a,b=>(i60 m (a.size:Int) b).bind fun c=>(app c (bytesD a)).bind fun d=>some d
noncomputable def iW(m:Nat)(a:Dt->List Dt->Option (List Dt))(b:List Dt):Option (List Dt):=
 some b
noncomputable def Mi(m:Nat)(b:Dt->List Dt->Option (List Dt))(a:List Dt->Int->Int->List Dt->Option (List Dt))(c:List Dt)(d e:Int)(f:List Dt):Option (List Dt):=
 a c d (wrap .i64 (e+1)) f
noncomputable def Mj(m:Nat)(a:Dt->List Dt->Option (List Dt))(b:List Dt->Int->Int->List Dt->Option (List Dt))(c:List Dt)(e d:Int)(f:List Dt):Option (List Dt):=
 (idx c d).bind fun g=>(a g f).bind fun h=>Mi m a b c e d h
noncomputable def sj(m:Nat)(a:Dt->List Dt->Option (List Dt)):Nat->List Dt->Int->Int->List Dt->Option (List Dt)
 |0,_,_,_,_=>none
 |e+1,f,b,c,d=>cond (c<b) (Mj m a (sj m a e) f b c d) (iW m a d)
noncomputable def Xj(m:Nat)(a:Dt->List Dt->Option (List Dt))(b:List Dt)(c d:Int)(e:List Dt):Option (List Dt):=
 sj m a (succ m) b c d e
noncomputable def ER(m:Nat)(b:Dt->List Dt->Option (List Dt))(a:List Dt->Int->Int->List Dt->Option (List Dt))(c:List Dt)(d e:Int)(f:List Dt):Option (List Dt):=
 a c d (wrap .i64 (e+1)) f
noncomputable def Mk(m:Nat)(a:Dt->List Dt->Option (List Dt))(b:List Dt->Int->Int->List Dt->Option (List Dt))(e:List Dt)(h f:Int)(i:List Dt):Option (List Dt):=
 (idx e f).bind fun g=>(i62 m (S g 0) i).bind fun c=>(a (fld g 1) c).bind fun d=>ER m a b e h f d
noncomputable def su(m:Nat)(a:Dt->List Dt->Option (List Dt)):Nat->List Dt->Int->Int->List Dt->Option (List Dt)
 |0,_,_,_,_=>none
 |e+1,f,b,c,d=>cond (c<b) (Mk m a (su m a e) f b c d) (iW m a d)
noncomputable def Xk(m:Nat)(a:Dt->List Dt->Option (List Dt))(b:List Dt)(c d:Int)(e:List Dt):Option (List Dt):=
 su m a (succ m) b c d e
noncomputable def Ml(m:Nat)(a:Dt->List Dt->Option (List Dt))(d:Int)(e:Bool)(c:List Dt)(b:Dt):Option (List Dt):=
 cond e ((i62 m (S b 2) c).bind fun f=>iW m a f) (cond (d==8) ((app c (bytesD (S b 2))).bind fun g=>iW m a g) (cond (d==6) ((i60 m ((L b 3).length:Int) c).bind fun h=>Xj m a (L b 3) ((L b 3).length:Int) 0 h) (cond (d==5) ((i60 m ((L b 4).length:Int) c).bind fun i=>Xk m a (L b 4) ((L b 4).length:Int) 0 i) (iW m a c))))
noncomputable def Mq(m:Nat)(a:Dt->List Dt->Option (List Dt))(b:Int)(e:Bool)(c:List Dt)(d:Dt):Option (List Dt):=
 cond e ((i60 m (I d 1) c).bind fun f=>iW m a f) (cond (b==9) ((app c [int (wrap IntKind.u8 (I d 1))]).bind fun g=>iW m a g) (cond (b==4) (Ml m a b (b==4) c d) (Ml m a b (b==7) c d)))
noncomputable def i59:Nat->Dt->List Dt->Option (List Dt)
 |0,_,_=>none
 |m+1,a,c=>(app c [int (wrap IntKind.u8 (I a 0))]).bind fun b=>cond (I a 0==3) (Mq m (i59 m) (I a 0) (I a 0==3) b a) (Mq m (i59 m) (I a 0) (I a 0==10) b a)
noncomputable def Xl(m:Nat)(a:Dt->Int->Int->Option (Int×Int))(b:Dt)(c d:Int):Option Int:=
 (a b d c).bind fun e=>some e.1
noncomputable def sw(m:Nat)(b:Dt->Int->Int->Option (Bool×Int×Int))(a:List Dt->Int->Int->Int->Int->Option (Int×Int))(c:List Dt)(d e f g:Int):Option (Int×Int):=
 a c d (wrap .i64 (e+1)) f g
noncomputable def sD(m:Nat)(a:Dt->Int->Int->Option (Bool×Int×Int))(b:List Dt->Int->Int->Int->Int->Option (Int×Int))(d:List Dt)(f e g h:Int):Option (Int×Int):=
 (idx d e).bind fun i=>(a i g h).bind fun c=>cond (!c.1) (some (c.2.1,c.2.2)) (sw m a b d f e c.2.1 c.2.2)
noncomputable def oF(m:Nat)(a:Dt->Int->Int->Option (Bool×Int×Int)):Nat->List Dt->Int->Int->Int->Int->Option (Int×Int)
 |0,_,_,_,_,_=>none
 |f+1,g,b,c,d,e=>cond (c<b) (sD m a (oF m a f) g b c d e) (some (d,e))
noncomputable def sF(m:Nat)(a:Dt->Int->Int->Option (Bool×Int×Int))(b:List Dt)(c d e f:Int):Option (Int×Int):=
 oF m a (succ m) b c d e f
noncomputable def sG(m:Nat)(b:Dt->Int->Int->Option (Bool×Int×Int))(a:List Dt->Int->Int->Int->Int->Option (Int×Int))(c:List Dt)(d e f g:Int):Option (Int×Int):=
 a c d (wrap .i64 (e+1)) f g
noncomputable def sH(m:Nat)(a:Dt->Int->Int->Option (Bool×Int×Int))(b:List Dt->Int->Int->Int->Int->Option (Int×Int))(d:List Dt)(f e g h:Int):Option (Int×Int):=
 (idx d e).bind fun i=>(a (fld i 1) g h).bind fun c=>cond (!c.1) (some (c.2.1,c.2.2)) (sG m a b d f e c.2.1 c.2.2)
noncomputable def oG(m:Nat)(a:Dt->Int->Int->Option (Bool×Int×Int)):Nat->List Dt->Int->Int->Int->Int->Option (Int×Int)
 |0,_,_,_,_,_=>none
 |f+1,g,b,c,d,e=>cond (c<b) (sH m a (oG m a f) g b c d e) (some (d,e))
noncomputable def sI(m:Nat)(a:Dt->Int->Int->Option (Bool×Int×Int))(b:List Dt)(c d e f:Int):Option (Int×Int):=
 oG m a (succ m) b c d e f
mutual
noncomputable def zS:Nat->Dt->Int->Option Int
 |0,_,_=>none
 |m+1,b,a=>cond (1==a) (some 1) (Xl m (i84 m) b a 1)
noncomputable def i84:Nat->Dt->Int->Int->Option (Int×Int)
 |0,_,_,_=>none
 |m+1,a,b,c=>cond (I a 0==6) (sF m (i85 m) (L a 3) ((L a 3).length:Int) 0 b c) (cond (I a 0==5) (sI m (i85 m) (L a 4) ((L a 4).length:Int) 0 b c) (some (b,c)))
noncomputable def i85:Nat->Dt->Int->Int->Option (Bool×Int×Int)
 |0,_,_,_=>none
 |m+1,d,a,b=>(zS m d (wrap .i64 (b-a))).bind fun c=>some (decide (wrap .i64 (a+c)<b),wrap .i64 (a+c),b)
end
noncomputable def yC:Nat->Dt->Option Int
 |0,_=>none
 |m+1,a=>(zS m a 1025).bind fun b=>some b
noncomputable def Xm(m:Nat)(a:Dt->Int->Int->Option (Int×Int))(b:Dt)(c:Int):Option Int:=
 (a b 0 c).bind fun d=>some (wrap .i64 (1+d.1))
noncomputable def sJ(m:Nat)(b:Dt->Int->Int->Option (Bool×Int×Int))(a:List Dt->Int->Int->Int->Int->Option (Int×Int))(c:List Dt)(d e f g:Int):Option (Int×Int):=
 a c d (wrap .i64 (e+1)) f g
noncomputable def sK(m:Nat)(a:Dt->Int->Int->Option (Bool×Int×Int))(b:List Dt->Int->Int->Int->Int->Option (Int×Int))(d:List Dt)(f e g h:Int):Option (Int×Int):=
 (idx d e).bind fun i=>(a i g h).bind fun c=>cond (!c.1) (some (c.2.1,c.2.2)) (sJ m a b d f e c.2.1 c.2.2)
noncomputable def oH(m:Nat)(a:Dt->Int->Int->Option (Bool×Int×Int)):Nat->List Dt->Int->Int->Int->Int->Option (Int×Int)
 |0,_,_,_,_,_=>none
 |f+1,g,b,c,d,e=>cond (c<b) (sK m a (oH m a f) g b c d e) (some (d,e))
noncomputable def sM(m:Nat)(a:Dt->Int->Int->Option (Bool×Int×Int))(b:List Dt)(c d e f:Int):Option (Int×Int):=
 oH m a (succ m) b c d e f
noncomputable def sN(m:Nat)(b:Dt->Int->Int->Option (Bool×Int×Int))(a:List Dt->Int->Int->Int->Int->Option (Int×Int))(c:List Dt)(d e f g:Int):Option (Int×Int):=
 a c d (wrap .i64 (e+1)) f g
noncomputable def sO(m:Nat)(a:Dt->Int->Int->Option (Bool×Int×Int))(b:List Dt->Int->Int->Int->Int->Option (Int×Int))(d:List Dt)(f e g h:Int):Option (Int×Int):=
 (idx d e).bind fun i=>(a (fld i 1) g h).bind fun c=>cond (!c.1) (some (c.2.1,c.2.2)) (sN m a b d f e c.2.1 c.2.2)
noncomputable def oJ(m:Nat)(a:Dt->Int->Int->Option (Bool×Int×Int)):Nat->List Dt->Int->Int->Int->Int->Option (Int×Int)
 |0,_,_,_,_,_=>none
 |f+1,g,b,c,d,e=>cond (c<b) (sO m a (oJ m a f) g b c d e) (some (d,e))
noncomputable def sP(m:Nat)(a:Dt->Int->Int->Option (Bool×Int×Int))(b:List Dt)(c d e f:Int):Option (Int×Int):=
 oJ m a (succ m) b c d e f
mutual
noncomputable def zT:Nat->Dt->Int->Option Int
 |0,_,_=>none
 |m+1,b,a=>cond (a==1) (some 1) (Xm m (i86 m) b a)
noncomputable def i86:Nat->Dt->Int->Int->Option (Int×Int)
 |0,_,_,_=>none
 |m+1,a,b,c=>cond (I a 0==6) (sM m (i87 m) (L a 3) ((L a 3).length:Int) 0 b c) (cond (I a 0==5) (sP m (i87 m) (L a 4) ((L a 4).length:Int) 0 b c) (some (b,c)))
noncomputable def i87:Nat->Dt->Int->Int->Option (Bool×Int×Int)
 |0,_,_,_=>none
 |m+1,d,a,c=>(zT m d (wrap .i64 (c-1))).bind fun b=>some (decide (cond (a<b) b a<wrap .i64 (c-1)),cond (a<b) b a,c)
end
noncomputable def yD:Nat->Dt->Option Int
 |0,_=>none
 |m+1,a=>(zT m a 17).bind fun b=>some b
noncomputable def Xn(m:Nat)(a:Int->Int->Option Int)(b c:Int):Option Int:=
 a b (shrI IntKind.u64 c 7)
noncomputable def Xo(m:Nat)(a:Int->Int->Option Int)(b c:Int):Option Int:=
 Xn m a (wrap .i64 (b+1)) c
noncomputable def ak7(m:Nat)(a:Int):Option Int:=
 some a
noncomputable def wX(m:Nat):Nat->Int->Int->Option Int
 |0,_,_=>none
 |c+1,a,b=>cond (128<=b) (Xo m (wX m c) a b) (ak7 m a)
noncomputable def Xp(m:Nat)(a b:Int):Option Int:=
 wX m (succ m) a b
noncomputable def qX:Nat->Int->Option Int
 |0,_=>none
 |m+1,a=>(zX m a).bind fun b=>Xp m 1 b
noncomputable def jw(m:Nat)(a:Dt->Option Int)(b:Int):Option Int:=
 some b
noncomputable def wY(m:Nat)(b:Dt->Option Int)(a:Int->List Dt->Int->Int->Option Int)(c:Int)(d:List Dt)(e f:Int):Option Int:=
 a c d e (wrap .i64 (f+1))
noncomputable def wZ(m:Nat)(a:Dt->Option Int)(b:Int->List Dt->Int->Int->Option Int)(e:Int)(c:List Dt)(f d:Int):Option Int:=
 (idx c d).bind fun g=>(a g).bind fun h=>wY m a b (wrap .i64 (e+h)) c f d
noncomputable def Ch(m:Nat)(a:Dt->Option Int):Nat->Int->List Dt->Int->Int->Option Int
 |0,_,_,_,_=>none
 |e+1,b,f,c,d=>cond (d<c) (wZ m a (Ch m a e) b f c d) (jw m a b)
noncomputable def w9(m:Nat)(a:Dt->Option Int)(b:Int)(c:List Dt)(d e:Int):Option Int:=
 Ch m a (succ m) b c d e
noncomputable def oK(m:Nat)(b:Dt->Option Int)(a:Int->List Dt->Int->Int->Option Int)(c:Int)(d:List Dt)(e f:Int):Option Int:=
 a c d e (wrap .i64 (f+1))
noncomputable def xg(m:Nat)(a:Dt->Option Int)(b:Int->List Dt->Int->Int->Option Int)(f:Int)(d:List Dt)(g e:Int):Option Int:=
 (idx d e).bind fun c=>(qX m ((S c 0).size:Int)).bind fun h=>(a (fld c 1)).bind fun i=>oK m a b (wrap .i64 (f+wrap .i64 (wrap .i64 (h+((S c 0).size:Int))+i))) d g e
noncomputable def Ci(m:Nat)(a:Dt->Option Int):Nat->Int->List Dt->Int->Int->Option Int
 |0,_,_,_,_=>none
 |e+1,b,f,c,d=>cond (d<c) (xg m a (Ci m a e) b f c d) (jw m a b)
noncomputable def xk(m:Nat)(a:Dt->Option Int)(b:Int)(c:List Dt)(d e:Int):Option Int:=
 Ci m a (succ m) b c d e
noncomputable def uU(m:Nat)(a:Dt->Option Int)(c d:Int)(e:Bool)(b:Dt):Option Int:=
 cond e ((qX m ((S b 2).size:Int)).bind fun f=>jw m a (wrap .i64 (c+wrap .i64 (f+((S b 2).size:Int))))) (cond (d==8) (jw m a (wrap .i64 (c+((S b 2).size:Int)))) (cond (d==6) ((qX m ((L b 3).length:Int)).bind fun g=>w9 m a (wrap .i64 (c+g)) (L b 3) ((L b 3).length:Int) 0) (cond (d==5) ((qX m ((L b 4).length:Int)).bind fun h=>xk m a (wrap .i64 (c+h)) (L b 4) ((L b 4).length:Int) 0) (jw m a c))))
noncomputable def uV(m:Nat)(a:Dt->Option Int)(c b:Int)(e:Bool)(d:Dt):Option Int:=
 cond e ((qX m (I d 1)).bind fun f=>jw m a (wrap .i64 (c+f))) (cond (b==9) (jw m a (wrap .i64 (c+1))) (cond (b==4) (uU m a c b (b==4) d) (uU m a c b (b==7) d)))
noncomputable def qH:Nat->Dt->Option Int
 |0,_=>none
 |m+1,a=>cond (I a 0==3) (uV m (qH m) 1 (I a 0) (I a 0==3) a) (uV m (qH m) 1 (I a 0) (I a 0==10) a)
noncomputable def yF:Nat->Int->Option Bool
 |0,_=>none
 |m+1,a=>some (a !=a)
noncomputable def Xq(m:Nat):Option Int:=
 some (-1)
noncomputable def Xr(m:Nat):Option Int:=
 some 0
noncomputable def Xt(m:Nat)(a b:Int):Option Int:=
 cond (b<a) (some 1) (Xr m)
noncomputable def Xu(m:Nat)(a b:Int):Option Int:=
 cond (a<b) (some (-1)) (Xt m a b)
noncomputable def Xv(m:Nat)(a b:Int)(c:Bool):Option Int:=
 cond c (some 1) (Xu m a b)
noncomputable def zF:Nat->Int->Int->Option Int
 |0,_,_=>none
 |m+1,a,b=>(yF m a).bind fun d=>(yF m b).bind fun c=>cond d (cond c (some 0) (Xq m)) (Xv m a b c)
noncomputable def Xw(m:Nat)(b:Dt->Dt->Option Int)(a:Int->Int->Dt->Dt->Option Int)(c d:Int)(e f:Dt):Option Int:=
 a c (wrap .i64 (d+1)) e f
noncomputable def Xx(m:Nat)(a:Dt->Dt->Option Int)(b:Int->Int->Dt->Dt->Option Int)(g c:Int)(d e:Dt):Option Int:=
 (idx (L d 3) c).bind fun h=>(idx (L e 3) c).bind fun i=>(a h i).bind fun f=>cond (f !=0) (some f) (Xw m a b g c d e)
noncomputable def Xy(m:Nat)(a:Dt->Dt->Option Int)(b c:Dt):Option Int:=
 (zF m ((L b 3).length:Int) ((L c 3).length:Int)).bind fun d=>some d
noncomputable def Cj(m:Nat)(a:Dt->Dt->Option Int):Nat->Int->Int->Dt->Dt->Option Int
 |0,_,_,_,_=>none
 |f+1,b,c,d,e=>cond (c<b) (Xx m a (Cj m a f) b c d e) (Xy m a d e)
noncomputable def OG(m:Nat)(a:Dt->Dt->Option Int)(b c:Int)(d e:Dt):Option Int:=
 Cj m a (succ m) b c d e
noncomputable def Mr(m:Nat)(b:Dt->Dt->Option Int)(a:Int->Int->Dt->Dt->Option Int)(c d:Int)(e f:Dt):Option Int:=
 a c (wrap .i64 (d+1)) e f
noncomputable def Mt(m:Nat)(a:Dt->Dt->Option Int)(b:Int->Int->Dt->Dt->Option Int)(f i j:Int)(g h:Dt):Option Int:=
 (idx (L g 4) f).bind fun d=>(idx (L h 4) f).bind fun e=>(a (fld d 1) (fld e 1)).bind fun c=>cond (c !=0) (some c) (Mr m a b i j g h)
noncomputable def Mw(m:Nat)(a:Dt->Dt->Option Int)(b:Int->Int->Dt->Dt->Option Int)(g c:Int)(d e:Dt):Option Int:=
 (idx (L d 4) c).bind fun h=>(idx (L e 4) c).bind fun i=>(strings_Compare (S h 0) (S i 0)).bind fun f=>cond (f !=0) (some f) (Mt m a b c g c d e)
noncomputable def Mx(m:Nat)(a:Dt->Dt->Option Int)(c d:Dt):Option Int:=
 (zF m ((L c 4).length:Int) ((L d 4).length:Int)).bind fun b=>some b
noncomputable def Ck(m:Nat)(a:Dt->Dt->Option Int):Nat->Int->Int->Dt->Dt->Option Int
 |0,_,_,_,_=>none
 |f+1,b,c,d,e=>cond (c<b) (Mw m a (Ck m a f) b c d e) (Mx m a d e)
noncomputable def OH(m:Nat)(a:Dt->Dt->Option Int)(b c:Int)(d e:Dt):Option Int:=
 Ck m a (succ m) b c d e
noncomputable def MB(m:Nat)(a:Dt->Dt->Option Int):Option Int:=
 some 0
noncomputable def GH(m:Nat)(a:Dt->Dt->Option Int)(d:Int)(e:Bool)(b c:Dt):Option Int:=
 cond e ((strings_Compare (S b 2) (S c 2)).bind fun f=>some f) (cond (d==6) (OG m a (cond (((L c 3).length:Int)<((L b 3).length:Int)) ((L c 3).length:Int) ((L b 3).length:Int)) 0 b c) (cond (d==5) (OH m a (cond (((L c 4).length:Int)<((L b 4).length:Int)) ((L c 4).length:Int) ((L b 4).length:Int)) 0 b c) (MB m a)))
noncomputable def GI(m:Nat)(a:Dt->Dt->Option Int)(b:Int)(e:Bool)(c d:Dt):Option Int:=
 cond e ((zF m (I c 1) (I d 1)).bind fun f=>some f) (cond (b==4) (GH m a b (b==4) c d) (cond (b==7) (GH m a b (b==7) c d) (GH m a b (b==8) c d)))
noncomputable def GJ(m:Nat)(a:Dt->Dt->Option Int)(b c:Dt):Option Int:=
 cond (I b 0==3) (GI m a (I b 0) (I b 0==3) b c) (cond (I b 0==9) (GI m a (I b 0) (I b 0==9) b c) (GI m a (I b 0) (I b 0==10) b c))
noncomputable def qF:Nat->Dt->Dt->Option Int
 |0,_,_=>none
 |m+1,a,b=>cond (I a 0 !=I b 0) ((zF m (I a 0) (I b 0)).bind fun c=>some c) (GJ m (qF m) a b)
noncomputable def yB:Nat->Dt->Dt->Option Bool
 |0,_,_=>none
 |m+1,a,b=>(qF m a b).bind fun c=>some (c==0)
noncomputable def Xz(m:Nat)(a:Int->Dt->List Dt->Option (List Dt))(b:Int)(c:Dt)(d:List Dt):Option (List Dt):=
 a (wrap .i64 (b+1)) c d
noncomputable def XA(m:Nat)(a:Int->Dt->List Dt->Option (List Dt))(b:Int)(c:Dt)(d:List Dt):Option (List Dt):=
 (idx (L c 3) b).bind fun e=>(app d [e]).bind fun f=>Xz m a b c f
noncomputable def XB(m:Nat)(a:Int->Dt->List Dt->Option (List Dt))(b:Int)(c:Dt)(d:List Dt):Option (List Dt):=
 a (wrap .i64 (b+1)) c d
noncomputable def XC(m:Nat)(a:Int->Dt->List Dt->Option (List Dt))(b:Int)(c:Dt)(d:List Dt):Option (List Dt):=
 (idx (L c 4) b).bind fun e=>(app d [fld e 1]).bind fun f=>XB m a b c f
noncomputable def GK(m:Nat)(a:List Dt):Option (List Dt):=
 some a
noncomputable def xq(m:Nat):Nat->Int->Dt->List Dt->Option (List Dt)
 |0,_,_,_=>none
 |d+1,a,b,c=>cond (a<((L b 4).length:Int)) (XC m (xq m d) a b c) (GK m c)
noncomputable def XD(m:Nat)(a:Int)(b:Dt)(c:List Dt):Option (List Dt):=
 xq m (succ m) a b c
noncomputable def Cm(m:Nat)(a:Dt)(b:List Dt):Option (List Dt):=
 cond (I a 0==5) (XD m 0 a b) (GK m b)
noncomputable def xu(m:Nat):Nat->Int->Dt->List Dt->Option (List Dt)
 |0,_,_,_=>none
 |d+1,b,a,c=>cond (b<((L a 3).length:Int)) (XA m (xu m d) b a c) (Cm m a c)
noncomputable def XE(m:Nat)(a:Int)(b:Dt)(c:List Dt):Option (List Dt):=
 xu m (succ m) a b c
noncomputable def qQ:Nat->Dt->Option (List Dt)
 |0,_=>none
 |m+1,a=>cond (I a 0==6) (XE m 0 a []) (Cm m a [])
noncomputable def xw(m:Nat)(b:Dt->Int->Option Int)(a:Int->List Dt->Int->Int->Option Int)(c:Int)(d:List Dt)(e f:Int):Option Int:=
 a c d e (wrap .i64 (f+1))
noncomputable def xA(m:Nat)(a:Dt->Int->Option Int)(b:Int->List Dt->Int->Int->Option Int)(c:Int)(d:List Dt)(e f:Int):Option Int:=
 (idx d f).bind fun h=>(a h (wrap .i64 (c-1))).bind fun g=>xw m a b c d (cond (e<g) g e) f
noncomputable def xB(m:Nat)(a:Dt->Int->Option Int)(b:Int):Option Int:=
 some (wrap .i64 (b+1))
noncomputable def xC(m:Nat)(a:Dt->Int->Option Int):Nat->Int->List Dt->Int->Int->Option Int
 |0,_,_,_,_=>none
 |e+1,f,b,c,d=>cond (d<(b.length:Int)) (xA m a (xC m a e) f b c d) (xB m a c)
noncomputable def xD(m:Nat)(a:Dt->Int->Option Int)(b:Int)(c:List Dt)(d e:Int):Option Int:=
 xC m a (succ m) b c d e
noncomputable def xE(m:Nat)(a:Dt->Int->Option Int)(b:Int)(c:List Dt):Option Int:=
 xD m a b c 0 0
noncomputable def uW(m:Nat)(a:Dt->Int->Option Int)(b:Int)(c:List Dt)(d:Bool):Option Int:=
 cond d (some 1) (xE m a b c)
noncomputable def qN:Nat->Dt->Int->Option Int
 |0,_,_=>none
 |m+1,c,a=>(qQ m c).bind fun b=>cond (a<2) (uW m (qN m) a b true) (uW m (qN m) a b ((b.length:Int)==0))
noncomputable def yA:Nat->Dt->Option Int
 |0,_=>none
 |m+1,a=>(qN m a 17).bind fun b=>some b
noncomputable def XF(m:Nat)(b:Dt->Int->Option Int)(a:Int->Int->List Dt->Int->Option Int)(c d:Int)(e:List Dt)(f:Int):Option Int:=
 a c d e (wrap .i64 (f+1))
noncomputable def XG(m:Nat)(a:Dt->Int->Option Int)(b:Int->Int->List Dt->Int->Option Int)(c d:Int)(e:List Dt)(f:Int):Option Int:=
 (idx e f).bind fun g=>(a g (wrap .i64 (c-d))).bind fun h=>XF m a b c (wrap .i64 (d+h)) e f
noncomputable def Co(m:Nat)(a:Dt->Int->Option Int)(b:Int):Option Int:=
 some b
noncomputable def Cq(m:Nat)(a:Dt->Int->Option Int):Nat->Int->Int->List Dt->Int->Option Int
 |0,_,_,_,_=>none
 |f+1,c,b,d,e=>cond (e<(d.length:Int)) (cond (b<c) (XG m a (Cq m a f) c b d e) (Co m a b)) (Co m a b)
noncomputable def OI(m:Nat)(a:Dt->Int->Option Int)(b c:Int)(d:List Dt)(e:Int):Option Int:=
 Cq m a (succ m) b c d e
noncomputable def zB:Nat->Dt->Int->Option Int
 |0,_,_=>none
 |m+1,a,b=>(qQ m a).bind fun c=>OI m (zB m) b 1 c 0
noncomputable def yE:Nat->Dt->Option Int
 |0,_=>none
 |m+1,a=>(zB m a 1025).bind fun b=>some b
noncomputable def GL(m:Nat)(a:ByteArray->Int->Int->Int->Option Bool)(b:ByteArray)(c d e:Int):Option Bool:=
 a b c d (wrap .i64 (e+1))
noncomputable def Cr(m:Nat)(a:ByteArray->Int->Int->Int->Option Bool)(b:ByteArray)(c d e:Int)(f:Bool):Option Bool:=
 cond f (some false) (GL m a b c d e)
noncomputable def GN(m:Nat)(a:ByteArray->Int->Int->Int->Option Bool)(b:ByteArray)(c e d:Int):Option Bool:=
 (idxS b (wrap .i64 (c+d))).bind fun f=>cond (f<128) (Cr m a b c e d true) ((idxS b (wrap .i64 (c+d))).bind fun g=>Cr m a b c e d (decide (191<g)))
noncomputable def GQ(m:Nat):Option Bool:=
 some true
noncomputable def Ct(m:Nat):Nat->ByteArray->Int->Int->Int->Option Bool
 |0,_,_,_,_=>none
 |c+1,d,e,a,b=>cond (b<a) (GN m (Ct m c) d e a b) (GQ m)
noncomputable def GR(m:Nat)(a:ByteArray)(b c d:Int):Option Bool:=
 Ct m (succ m) a b c d
noncomputable def GU(m:Nat)(a:ByteArray)(b c:Int):Option Bool:=
 GR m a b c 0
noncomputable def qZ:Nat->ByteArray->Int->Int->Option Bool
 |0,_,_,_=>none
 |m+1,a,b,c=>cond ((a.size:Int)<wrap .i64 (b+c)) (some false) (GU m a b c)
noncomputable def XH(m:Nat)(a:ByteArray->Int->Option Bool)(b:ByteArray)(c d:Int):Option Bool:=
 a b (wrap .i64 (wrap .i64 (c+d)+1))
noncomputable def dU(m:Nat)(a:ByteArray->Int->Option Bool)(b:ByteArray)(c d:Int)(e:Bool):Option Bool:=
 cond e (some false) (XH m a b c d)
noncomputable def OJ(m:Nat)(a:ByteArray->Int->Option Bool)(b:ByteArray)(c e d:Int):Option Bool:=
 cond (e==224) ((idxS b (wrap .i64 (c+1))).bind fun n=>cond (n<160) (dU m a b c d true) (cond (e==237) ((idxS b (wrap .i64 (c+1))).bind fun o=>cond (159<o) (dU m a b c d true) (cond (e==240) ((idxS b (wrap .i64 (c+1))).bind fun p=>cond (p<144) (dU m a b c d true) (cond (e==244) ((idxS b (wrap .i64 (c+1))).bind fun q=>dU m a b c d (decide (143<q))) (dU m a b c d false))) (cond (e==244) ((idxS b (wrap .i64 (c+1))).bind fun r=>dU m a b c d (decide (143<r))) (dU m a b c d false)))) (cond (e==240) ((idxS b (wrap .i64 (c+1))).bind fun s=>cond (s<144) (dU m a b c d true) (cond (e==244) ((idxS b (wrap .i64 (c+1))).bind fun t=>dU m a b c d (decide (143<t))) (dU m a b c d false))) (cond (e==244) ((idxS b (wrap .i64 (c+1))).bind fun u=>dU m a b c d (decide (143<u))) (dU m a b c d false))))) (cond (e==237) ((idxS b (wrap .i64 (c+1))).bind fun f=>cond (159<f) (dU m a b c d true) (cond (e==240) ((idxS b (wrap .i64 (c+1))).bind fun g=>cond (g<144) (dU m a b c d true) (cond (e==244) ((idxS b (wrap .i64 (c+1))).bind fun h=>dU m a b c d (decide (143<h))) (dU m a b c d false))) (cond (e==244) ((idxS b (wrap .i64 (c+1))).bind fun i=>dU m a b c d (decide (143<i))) (dU m a b c d false)))) (cond (e==240) ((idxS b (wrap .i64 (c+1))).bind fun j=>cond (j<144) (dU m a b c d true) (cond (e==244) ((idxS b (wrap .i64 (c+1))).bind fun k=>dU m a b c d (decide (143<k))) (dU m a b c d false))) (cond (e==244) ((idxS b (wrap .i64 (c+1))).bind fun l=>dU m a b c d (decide (143<l))) (dU m a b c d false))))
noncomputable def xG(m:Nat)(a:ByteArray->Int->Option Bool)(b:ByteArray)(c e d:Int):Option Bool:=
 (qZ m b (wrap .i64 (c+1)) d).bind fun f=>cond (!f) (some false) (OJ m a b c e d)
noncomputable def OL(m:Nat)(a:ByteArray->Int->Option Bool)(b:ByteArray)(c d:Int)(e:Bool):Option Bool:=
 cond e (xG m a b c d 3) (some false)
noncomputable def OM(m:Nat)(a:ByteArray->Int->Option Bool)(c:ByteArray)(d b:Int)(e:Bool):Option Bool:=
 cond e (xG m a c d b 2) (cond (240<=b) (OL m a c d b (decide (b<=244))) (OL m a c d b false))
noncomputable def OO(m:Nat)(a:ByteArray->Int->Option Bool)(c:ByteArray)(d b:Int)(e:Bool):Option Bool:=
 cond e (xG m a c d b 1) (cond (224<=b) (OM m a c d b (decide (b<=239))) (OM m a c d b false))
noncomputable def OP(m:Nat)(a:ByteArray->Int->Option Bool)(c:ByteArray)(d:Int):Option Bool:=
 (idxS c d).bind fun b=>cond (b<128) (xG m a c d b 0) (cond (194<=b) (OO m a c d b (decide (b<=223))) (OO m a c d b false))
noncomputable def MC(m:Nat):Option Bool:=
 some true
noncomputable def xH(m:Nat):Nat->ByteArray->Int->Option Bool
 |0,_,_=>none
 |c+1,a,b=>cond (b<(a.size:Int)) (OP m (xH m c) a b) (MC m)
noncomputable def ak8(m:Nat)(a:ByteArray)(b:Int):Option Bool:=
 xH m (succ m) a b
noncomputable def qO:Nat->ByteArray->Option Bool
 |0,_=>none
 |m+1,a=>ak8 m a 0
noncomputable def xI(m:Nat)(a:ByteArray->Int->Option Bool)(b:ByteArray)(c:Int):Option Bool:=
 a b (wrap .i64 (c+1))
noncomputable def uX(m:Nat)(a:ByteArray->Int->Option Bool)(b:ByteArray)(c:Int)(d:Bool):Option Bool:=
 cond d (some false) (xI m a b c)
noncomputable def xJ(m:Nat)(a:ByteArray->Int->Option Bool)(b:ByteArray)(c:Int):Option Bool:=
 (idxS b c).bind fun d=>cond (d<32) (uX m a b c true) ((idxS b c).bind fun e=>uX m a b c (decide (126<e)))
noncomputable def xK(m:Nat):Option Bool:=
 some true
noncomputable def xL(m:Nat):Nat->ByteArray->Int->Option Bool
 |0,_,_=>none
 |c+1,a,b=>cond (b<(a.size:Int)) (xJ m (xL m c) a b) (xK m)
noncomputable def xM(m:Nat)(a:ByteArray)(b:Int):Option Bool:=
 xL m (succ m) a b
noncomputable def xO(m:Nat)(a:ByteArray):Option Bool:=
 xM m a 0
noncomputable def uY(m:Nat)(a:ByteArray)(b:Bool):Option Bool:=
 cond b (some false) (xO m a)
noncomputable def qU:Nat->ByteArray->Option Bool
 |0,_=>none
 |m+1,a=>cond ((a.size:Int)<1) (uY m a true) (uY m a (decide (128<(a.size:Int))))
noncomputable def ME(m:Nat)(b:Dt->Bool->Option Bool)(c:Dt->Bool->Option Bool)(a:Bool->Int->Dt->Option Bool)(d:Bool)(e:Int)(f:Dt):Option Bool:=
 a d (wrap .i64 (e+1)) f
noncomputable def XI(m:Nat)(a:Dt->Bool->Option Bool)(b:Dt->Bool->Option Bool)(c:Bool->Int->Dt->Option Bool)(d:Bool)(e:Int)(f:Dt):Option Bool:=
 (idx (L f 3) e).bind fun g=>(a g d).bind fun h=>cond (!h) (some false) (ME m a b c d e f)
noncomputable def MF(m:Nat)(b:Dt->Bool->Option Bool)(a:Dt->Bool->Option Bool)(c:Bool)(d:Dt):Option Bool:=
 (a d c).bind fun e=>some e
noncomputable def Cu(m:Nat)(a:Dt->Bool->Option Bool)(b:Dt->Bool->Option Bool):Nat->Bool->Int->Dt->Option Bool
 |0,_,_,_=>none
 |f+1,d,e,c=>cond (e<((L c 3).length:Int)) (XI m a b (Cu m a b f) d e c) (MF m a b d c)
noncomputable def ak9(m:Nat)(a:Dt->Bool->Option Bool)(b:Dt->Bool->Option Bool)(c:Bool)(d:Int)(e:Dt):Option Bool:=
 Cu m a b (succ m) c d e
noncomputable def XJ(m:Nat)(a:Dt->Bool->Option Bool)(b:Dt->Bool->Option Bool)(c:Bool)(d:Dt):Option Bool:=
 ak9 m a b c 0 d
noncomputable def GV(m:Nat)(b:Dt->Bool->Option Bool)(c:Dt->Bool->Option Bool)(d:Bool)(a:Dt):Option Bool:=
 cond (I a 0==9) (cond (I a 1==0) (some true) (some (I a 1==1))) (cond (I a 0==10) (some (decide (0<=I a 1))) (cond (I a 0==4) (cond (((S a 2).size:Int)<=4096) ((qO m (S a 2)).bind fun e=>some e) (some false)) (cond (I a 0==7) (some (decide (((S a 2).size:Int)<=4096))) (cond (I a 0==8) (some (((S a 2).size:Int)==12)) (XJ m b c d a)))))
noncomputable def jy(m:Nat)(a:Dt->Bool->Option Bool)(b:Dt->Bool->Option Bool)(c d:Bool)(e:Dt):Option Bool:=
 cond d (some false) (GV m a b c e)
noncomputable def xP(m:Nat)(a:Dt->Bool->Option Bool)(b:Dt->Bool->Option Bool)(d f e:Bool)(c:Dt):Option Bool:=
 cond (!f) (cond (!(S c 2).toList==[]) (jy m a b d true c) (cond (!e) (cond (I c 1 !=0) (jy m a b d true c) (cond (I c 0<1) (jy m a b d true c) (jy m a b d (decide (11<I c 0)) c))) (cond (I c 0<1) (jy m a b d true c) (jy m a b d (decide (11<I c 0)) c)))) (cond (!e) (cond (I c 1 !=0) (jy m a b d true c) (cond (I c 0<1) (jy m a b d true c) (jy m a b d (decide (11<I c 0)) c))) (cond (I c 0<1) (jy m a b d true c) (jy m a b d (decide (11<I c 0)) c)))
noncomputable def xQ(m:Nat)(a:Dt->Bool->Option Bool)(b:Dt->Bool->Option Bool)(d e:Bool)(c:Dt):Option Bool:=
 cond (I c 0==3) (xP m a b d e true c) (cond (I c 0==9) (xP m a b d e true c) (xP m a b d e (I c 0==10) c))
noncomputable def GX(m:Nat)(a:Dt->Bool->Option Bool)(b:Dt->Bool->Option Bool)(d:Bool)(c:Dt):Option Bool:=
 cond (I c 0==4) (xQ m a b d true c) (cond (I c 0==7) (xQ m a b d true c) (xQ m a b d (I c 0==8) c))
noncomputable def xR(m:Nat)(a:Dt->Bool->Option Bool)(b:Dt->Bool->Option Bool)(c d:Bool)(e:Dt):Option Bool:=
 cond d (some false) (GX m a b c e)
noncomputable def Cw(m:Nat)(b:Dt->Bool->Option Bool)(c:Bool->Int->Dt->Option Bool)(a:Bool->Int->Int->Dt->Dt->Option Bool)(d:Bool)(e f:Int)(g h:Dt):Option Bool:=
 a d e (wrap .i64 (f+1)) g h
noncomputable def Cx(m:Nat)(a:Dt->Bool->Option Bool)(b:Bool->Int->Dt->Option Bool)(c:Bool->Int->Int->Dt->Dt->Option Bool)(g:Bool)(h d:Int)(e f:Dt):Option Bool:=
 (idx (L e 4) d).bind fun i=>cond ((S i 0).toList==(S f 0).toList) (some false) (Cw m a b c g h d e f)
noncomputable def Cy(m:Nat)(b:Dt->Bool->Option Bool)(a:Bool->Int->Dt->Option Bool)(c:Bool)(d:Int)(e:Dt):Option Bool:=
 a c (wrap .i64 (d+1)) e
noncomputable def xS(m:Nat)(a:Dt->Bool->Option Bool)(b:Bool->Int->Dt->Option Bool):Nat->Bool->Int->Int->Dt->Dt->Option Bool
 |0,_,_,_,_,_=>none
 |g+1,d,c,e,f,h=>cond (e<c) (Cx m a b (xS m a b g) d c e f h) (Cy m a b d c f)
noncomputable def Cz(m:Nat)(a:Dt->Bool->Option Bool)(b:Bool->Int->Dt->Option Bool)(c:Bool)(d e:Int)(f g:Dt):Option Bool:=
 xS m a b (succ m) c d e f g
noncomputable def CB(m:Nat)(a:Dt->Bool->Option Bool)(b:Bool->Int->Dt->Option Bool)(c:Bool)(d:Int)(e f:Dt):Option Bool:=
 Cz m a b c d 0 e f
noncomputable def j5(m:Nat)(a:Dt->Bool->Option Bool)(b:Bool->Int->Dt->Option Bool)(c:Bool)(d:Int)(e:Bool)(f g:Dt):Option Bool:=
 cond e (some false) (CB m a b c d f g)
noncomputable def CG(m:Nat)(a:Dt->Bool->Option Bool)(b:Bool->Int->Dt->Option Bool)(c:Bool)(e:Int)(f:Dt):Option Bool:=
 (idx (L f 4) e).bind fun d=>cond c ((qS m (S d 0)).bind fun g=>cond (!g) (j5 m a b c e true f d) (bif !c then(qU m (S d 0)).bind fun h=>cond (!h) (j5 m a b c e true f d) ((a (fld d 1) c).bind fun i=>j5 m a b c e (!i) f d)else(a (fld d 1) c).bind fun j=>j5 m a b c e (!j) f d)) (bif !c then(qU m (S d 0)).bind fun k=>cond (!k) (j5 m a b c e true f d) ((a (fld d 1) c).bind fun l=>j5 m a b c e (!l) f d)else(a (fld d 1) c).bind fun n=>j5 m a b c e (!n) f d)
noncomputable def sQ(m:Nat)(a:Dt->Bool->Option Bool):Option Bool:=
 some true
noncomputable def uZ(m:Nat)(a:Dt->Bool->Option Bool):Nat->Bool->Int->Dt->Option Bool
 |0,_,_,_=>none
 |d+1,e,b,c=>cond (b<((L c 4).length:Int)) (CG m a (uZ m a d) e b c) (sQ m a)
noncomputable def xU(m:Nat)(a:Dt->Bool->Option Bool)(b:Bool)(c:Int)(d:Dt):Option Bool:=
 uZ m a (succ m) b c d
mutual
noncomputable def qE:Nat->Dt->Bool->Option Bool
 |0,_,_=>none
 |m+1,a,b=>cond (I a 0 !=6) (cond (0<((L a 3).length:Int)) (xR m (qE m) (qI m) b true a) (cond (I a 0 !=5) (xR m (qE m) (qI m) b (decide (0<((L a 4).length:Int))) a) (xR m (qE m) (qI m) b false a))) (cond (I a 0 !=5) (xR m (qE m) (qI m) b (decide (0<((L a 4).length:Int))) a) (xR m (qE m) (qI m) b false a))
noncomputable def qI:Nat->Dt->Bool->Option Bool
 |0,_,_=>none
 |m+1,a,b=>xU m (qE m) b 0 a
end
noncomputable def zV:Nat->Dt->Option Bool
 |0,_=>none
 |m+1,a=>(yA m a).bind fun b=>cond (b<=16) ((yE m a).bind fun c=>cond (c<=1024) ((qE m a true).bind fun d=>some d) (some false)) (some false)
noncomputable def XK(m:Nat)(b a:Dt):Option (Dt×Bool):=
 some (a,true)
noncomputable def CJ(m:Nat)(a:Bool)(b c:Dt):Option (Dt×Bool):=
 cond a (some (bg,false)) (XK m b c)
noncomputable def OQ(m:Nat)(c b:Dt):Option (Dt×Bool):=
 (idx (L c 4) 0).bind fun a=>cond (I (fld a 1) 0==6) (CJ m true b (fld a 1)) (cond (I (fld a 1) 0==1) (CJ m true b (fld a 1)) (CJ m (I (fld a 1) 0==11) b (fld a 1)))
noncomputable def xV(m:Nat)(a:Bool)(b c:Dt):Option (Dt×Bool):=
 cond a (some (bg,false)) (OQ m b c)
noncomputable def zN:Nat->Dt->Option (Dt×Bool)
 |0,_=>none
 |m+1,a=>(zV m a).bind fun b=>cond (!b) (xV m true a bg) (cond (((L a 4).length:Int)==0) (xV m true a bg) ((idx (L a 4) 0).bind fun c=>xV m (!(S c 0).toList==[95,105,100]) a bg))
noncomputable def zZ:Nat->Dt->Option Bool
 |0,_=>none
 |m+1,a=>cond (I a 0 !=5) (some true) ((zV m a).bind fun b=>some (!b))
noncomputable def MG(m:Nat)(a:List Dt->Int->Int->Option Int)(b:List Dt)(c d:Int):Option Int:=
 a b c (wrap .i64 (d+1))
noncomputable def MH(m:Nat)(a:List Dt->Int->Int->Option Int)(c:List Dt)(d b:Int):Option Int:=
 (idx c b).bind fun e=>(zZ m e).bind fun f=>cond f (some b) (MG m a c d b)
noncomputable def XL(m:Nat):Option Int:=
 some (-1)
noncomputable def sS(m:Nat):Nat->List Dt->Int->Int->Option Int
 |0,_,_,_=>none
 |c+1,d,a,b=>cond (b<a) (MH m (sS m c) d a b) (XL m)
noncomputable def XM(m:Nat)(a:List Dt)(b c:Int):Option Int:=
 sS m (succ m) a b c
noncomputable def i41:Nat->List Dt->Option Int
 |0,_=>none
 |m+1,a=>XM m a (a.length:Int) 0
noncomputable def i40:Nat->List Dt->Option Bool
 |0,_=>none
 |m+1,a=>(i41 m a).bind fun b=>some (decide (0<=b))
noncomputable def z6:Nat->List Dt->Option Bool
 |0,_=>none
 |m+1,a=>bif (a.length:Int)<=30 then(i40 m a).bind fun b=>some (!b)else some false
noncomputable def xW(m:Nat)(a:ByteArray->Int->Int->Option Bool)(b:ByteArray)(c d:Int):Option Bool:=
 a b c (wrap .i64 (d+1))
noncomputable def pV(m:Nat)(a:ByteArray->Int->Int->Option Bool)(b:ByteArray)(c d:Int)(e:Bool):Option Bool:=
 cond e (some false) (xW m a b c d)
noncomputable def xX(m:Nat)(a:ByteArray->Int->Int->Option Bool)(b:ByteArray)(d c:Int):Option Bool:=
 (idxS b c).bind fun e=>cond (e<33) (pV m a b d c true) ((idxS b c).bind fun f=>cond (126<f) (pV m a b d c true) ((idxS b c).bind fun g=>pV m a b d c (g==46)))
noncomputable def xY(m:Nat):Option Bool:=
 some true
noncomputable def xZ(m:Nat):Nat->ByteArray->Int->Int->Option Bool
 |0,_,_,_=>none
 |c+1,d,a,b=>cond (b<a) (xX m (xZ m c) d a b) (xY m)
noncomputable def yc(m:Nat)(a:ByteArray)(b c:Int):Option Bool:=
 xZ m (succ m) a b c
noncomputable def yg(m:Nat)(a:ByteArray):Option Bool:=
 yc m a (a.size:Int) 0
noncomputable def pW(m:Nat)(a:ByteArray)(b:Bool):Option Bool:=
 cond b (some false) (yg m a)
noncomputable def qM:Nat->ByteArray->Option Bool
 |0,_=>none
 |m+1,a=>cond ((a.size:Int)<1) (pW m a true) (cond (32<(a.size:Int)) (pW m a true) ((idxS a 0).bind fun b=>pW m a (b==36)))
noncomputable def ES(m:Nat)(b:Dt->Option Bool)(c:List Dt->Option Bool)(a:List Dt->Int->Int->Option Bool)(d:List Dt)(e f:Int):Option Bool:=
 a d e (wrap .i64 (f+1))
noncomputable def OT(m:Nat)(a:Dt->Option Bool)(b:List Dt->Option Bool)(c:List Dt->Int->Int->Option Bool)(d:List Dt)(f e:Int):Option Bool:=
 (idx d e).bind fun g=>(a g).bind fun h=>cond (!h) (some false) (ES m a b c d f e)
noncomputable def ET(m:Nat)(a:Dt->Option Bool)(b:List Dt->Option Bool):Option Bool:=
 some true
noncomputable def yh(m:Nat)(a:Dt->Option Bool)(b:List Dt->Option Bool):Nat->List Dt->Int->Int->Option Bool
 |0,_,_,_=>none
 |e+1,f,c,d=>cond (d<c) (OT m a b (yh m a b e) f c d) (ET m a b)
noncomputable def GY(m:Nat)(a:Dt->Option Bool)(b:List Dt->Option Bool)(c:List Dt)(d e:Int):Option Bool:=
 yh m a b (succ m) c d e
noncomputable def yj(m:Nat)(a:Dt->Option Bool)(b:List Dt->Option Bool):Option Bool:=
 some false
noncomputable def mJ(m:Nat)(b:Dt->Option Bool)(a:List Dt->Option Bool)(d:Int)(e:Bool)(c:Dt):Option Bool:=
 cond e (some true) (cond (d==9) (cond (I c 1==0) (some true) (some (I c 1==1))) (cond (d==10) (some (decide (0<=I c 1))) (cond (d==4) (cond (((S c 2).size:Int)<=4096) ((utf8_ValidString (S c 2)).bind fun f=>some f) (some false)) (cond (d==7) (some (decide (((S c 2).size:Int)<=4096))) (cond (d==8) (some (((S c 2).size:Int)==12)) (cond (d==6) (GY m b a (L c 3) ((L c 3).length:Int) 0) (cond (d==5) ((a (L c 4)).bind fun g=>some g) (yj m b a))))))))
noncomputable def yt(m:Nat)(a:Dt->Option Bool)(b:List Dt->Option Bool)(c:Dt):Option Bool:=
 cond (I c 0==1) (mJ m a b (I c 0) (I c 0==1) c) (cond (I c 0==2) (mJ m a b (I c 0) (I c 0==2) c) (cond (I c 0==11) (mJ m a b (I c 0) (I c 0==11) c) (mJ m a b (I c 0) (I c 0==3) c)))
noncomputable def pX(m:Nat)(a:Dt->Option Bool)(b:List Dt->Option Bool)(c:Bool)(d:Dt):Option Bool:=
 cond c (some false) (yt m a b d)
noncomputable def yu(m:Nat)(a:Dt->Option Bool)(b:List Dt->Option Bool)(c:Dt):Option Bool:=
 cond (I c 0 !=6) (cond (0<((L c 3).length:Int)) (pX m a b true c) (cond (I c 0 !=5) (pX m a b (decide (0<((L c 4).length:Int))) c) (pX m a b false c))) (cond (I c 0 !=5) (pX m a b (decide (0<((L c 4).length:Int))) c) (pX m a b false c))
noncomputable def pY(m:Nat)(a:Dt->Option Bool)(b:List Dt->Option Bool)(c:Bool)(d:Dt):Option Bool:=
 cond c (some false) (yu m a b d)
noncomputable def p8(m:Nat)(a:Dt->Option Bool)(b:List Dt->Option Bool)(e d:Bool)(c:Dt):Option Bool:=
 cond (!e) (cond (I c 1 !=0) (pY m a b true c) (cond (!d) (pY m a b (!(S c 2).toList==[]) c) (pY m a b false c))) (cond (!d) (pY m a b (!(S c 2).toList==[]) c) (pY m a b false c))
noncomputable def p9(m:Nat)(a:Dt->Option Bool)(b:List Dt->Option Bool)(d:Bool)(c:Dt):Option Bool:=
 cond (I c 0==4) (p8 m a b d true c) (cond (I c 0==7) (p8 m a b d true c) (p8 m a b d (I c 0==8) c))
noncomputable def GZ(m:Nat)(b:Dt->Option Bool)(a:List Dt->Int->Int->List Dt->Option Bool)(c:List Dt)(d e:Int)(f:List Dt):Option Bool:=
 a c d (wrap .i64 (e+1)) f
noncomputable def G5(m:Nat)(a:Dt->Option Bool)(b:List Dt->Int->Int->List Dt->Option Bool)(c:List Dt)(d e:Int)(f:List Dt)(g:Dt):Option Bool:=
 GZ m a b c d e (mput f (S g 0) (bool true))
noncomputable def yw(m:Nat)(a:Dt->Option Bool)(b:List Dt->Int->Int->List Dt->Option Bool)(c:List Dt)(d e:Int)(f:Bool)(g:List Dt)(h:Dt):Option Bool:=
 cond f (some false) (G5 m a b c d e g h)
noncomputable def G6(m:Nat)(a:Dt->Option Bool)(b:List Dt->Int->Int->List Dt->Option Bool)(d:List Dt)(g e:Int)(f:List Dt):Option Bool:=
 (idx d e).bind fun c=>(qM m (S c 0)).bind fun h=>cond (!h) (yw m a b d g e true f c) (cond (Dt.toBool (mgetD f (S c 0) (bool false))) (yw m a b d g e true f c) ((a (fld c 1)).bind fun i=>yw m a b d g e (!i) f c))
noncomputable def G7(m:Nat)(a:Dt->Option Bool):Option Bool:=
 some true
noncomputable def CK(m:Nat)(a:Dt->Option Bool):Nat->List Dt->Int->Int->List Dt->Option Bool
 |0,_,_,_,_=>none
 |d+1,e,b,c,f=>cond (c<b) (G6 m a (CK m a d) e b c f) (G7 m a)
noncomputable def G8(m:Nat)(a:Dt->Option Bool)(b:List Dt)(c d:Int)(e:List Dt):Option Bool:=
 CK m a (succ m) b c d e
mutual
noncomputable def qD:Nat->Dt->Option Bool
 |0,_=>none
 |m+1,a=>cond (I a 0==3) (p9 m (qD m) (qK m) true a) (cond (I a 0==9) (p9 m (qD m) (qK m) true a) (p9 m (qD m) (qK m) (I a 0==10) a))
noncomputable def qK:Nat->List Dt->Option Bool
 |0,_=>none
 |m+1,a=>G8 m (qD m) a (a.length:Int) 0 []
end
noncomputable def zW:Nat->Dt->Option Bool
 |0,_=>none
 |m+1,a=>(yC m a).bind fun b=>cond (b<=1024) ((yD m a).bind fun c=>cond (c<=16) ((qD m a).bind fun d=>some d) (some false)) (some false)
noncomputable def XP(m:Nat)(b:Dt):Option (ByteArray×Int):=
 (i59 m b []).bind fun a=>(cond (Nat.ble a.length 137438953472) (Option.some (strOfNums (List.map toInt a))) Option.none).bind fun c=>some (c,0)
noncomputable def zP:Nat->Dt->Option (ByteArray×Int)
 |0,_=>none
 |m+1,a=>(zW m a).bind fun b=>cond (!b) (some (ByteArray.mk (List.toArray []),8)) (XP m a)
noncomputable def ala(m:Nat)(a:ByteArray->List Dt->Int->Int->Option ByteArray)(b:ByteArray)(c:List Dt)(d e:Int):Option ByteArray:=
 a b c d (wrap .i64 (e+1))
noncomputable def G9(m:Nat)(a:ByteArray->List Dt->Int->Int->Option ByteArray)(b c:ByteArray)(d:List Dt)(e f:Int):Option ByteArray:=
 cond (Nat.ble (b.size+c.size) 1152921504606846976) (ala m a (b++c) d e f) none
noncomputable def OU(m:Nat)(a:ByteArray->List Dt->Int->Int->Option ByteArray)(d:ByteArray)(b:List Dt)(e c:Int):Option ByteArray:=
 (idx b c).bind fun g=>(zP m g).bind fun f=>cond (f.2 !=0) (G9 m a d (ByteArray.mk (List.toArray [63])) b e c) (G9 m a d f.1 b e c)
noncomputable def alb(m:Nat)(a:ByteArray):Option ByteArray:=
 some a
noncomputable def yx(m:Nat):Nat->ByteArray->List Dt->Int->Int->Option ByteArray
 |0,_,_,_,_=>none
 |d+1,a,e,b,c=>cond (c<b) (OU m (yx m d) a e b c) (alb m a)
noncomputable def alc(m:Nat)(a:ByteArray)(b:List Dt)(c d:Int):Option ByteArray:=
 yx m (succ m) a b c d
noncomputable def qY:Nat->List Dt->Option ByteArray
 |0,_=>none
 |m+1,a=>alc m (ByteArray.mk (List.toArray [])) a (a.length:Int) 0
noncomputable def EU(m:Nat)(a:List Dt->Int->Int->Dt->List Dt->Option ByteArray)(b:List Dt)(c d:Int)(e:Dt)(f:List Dt):Option ByteArray:=
 a b c (wrap .i64 (d+1)) e f
noncomputable def EW(m:Nat)(b:List Dt->Int->Int->Dt->List Dt->Option ByteArray)(e:List Dt)(g a:Int)(f:Dt)(c:List Dt):Option ByteArray:=
 (idx e a).bind fun h=>(zJ m f (toLst h)).bind fun d=>(inL c a).bind fun j=>(c[a.toNat]?).bind fun k=>(inL (List.set c a.toNat d) a).bind fun l=>((List.set c a.toNat d)[a.toNat]?).bind fun i=>cond (I i 0==0) ((inL (List.set c a.toNat d) a).bind fun n=>((List.set c a.toNat d)[a.toNat]?).bind fun o=>EU m b e g a f (List.set (List.set c a.toNat d) a.toNat Om)) (EU m b e g a f (List.set c a.toNat d))
noncomputable def XQ(m:Nat)(a:List Dt):Option ByteArray:=
 (qY m a).bind fun b=>some b
noncomputable def iX(m:Nat):Nat->List Dt->Int->Int->Dt->List Dt->Option ByteArray
 |0,_,_,_,_,_=>none
 |d+1,e,a,b,f,c=>cond (b<a) (EW m (iX m d) e a b f c) (XQ m c)
noncomputable def XR(m:Nat)(a:List Dt)(b c:Int)(d:Dt)(e:List Dt):Option ByteArray:=
 iX m (succ m) a b c d e
noncomputable def i19:Nat->Dt->Dt->Option ByteArray
 |0,_,_=>none
 |m+1,a,b=>(mkL ((L (fld a 0) 1).length:Int) ((L (fld a 0) 1).length:Int) bg).bind fun c=>XR m (L (fld a 0) 1) ((L (fld a 0) 1).length:Int) 0 b c
noncomputable def i18:Nat->Dt->Dt->List Dt->List Dt->List Dt->List Dt->Option (Dt×List Dt×List Dt×List Dt×List Dt)
 |0,_,_,_,_,_,_=>none
 |m+1,b,d,a,e,g,f=>(i19 m (agg [d,lst a,lst [],lst [],lst f]) b).bind fun c=>(app a [agg [b,str c]]).bind fun h=>cond (mhas e c) none ((zL m b).bind fun i=>(qY m [i]).bind fun j=>some (d,mput e c (lst [int (a.length:Int)]),mput g j (int (a.length:Int)),h,f))
noncomputable def yG(m:Nat)(c:ByteArray)(d:Dt)(e f a g:List Dt)(b:Int)(h:Dt):Option (Dt×List Dt×List Dt×List Dt×List Dt):=
 (inL a b).bind fun i=>(a[b.toNat]?).bind fun j=>some (d,e,f,List.set a b.toNat (agg [h,str c]),g)
noncomputable def i29:Nat->Int->Dt->Dt->List Dt->List Dt->List Dt->List Dt->Option (Dt×List Dt×List Dt×List Dt×List Dt)
 |0,_,_,_,_,_,_,_=>none
 |m+1,e,f,g,d,b,k,h=>(inL d e).bind fun l=>(d[e.toNat]?).bind fun c=>(i19 m (agg [g,lst d,lst [],lst [],lst h]) f).bind fun a=>cond (!(S c 1).toList==a.toList) (bif mhas b (S c 1)then(i30 m (toLst (mgetD b (S c 1) (lst []))) e).bind fun i=>cond (mhas (mput b (S c 1) (lst i.1)) a) none (yG m a g (mput (mput b (S c 1) (lst i.1)) a (lst [int i.2])) k d h i.2 f)else(i33 m [] e).bind fun j=>cond (mhas (mput b (S c 1) (lst j.1)) a) none (yG m a g (mput (mput b (S c 1) (lst j.1)) a (lst [int j.2])) k d h j.2 f)) (yG m a g b k d h e f)
noncomputable def XT(m:Nat)(a:Dt):Option (Int×Int):=
 (qH m a).bind fun b=>some (b,0)
noncomputable def zR:Nat->Dt->Option (Int×Int)
 |0,_=>none
 |m+1,a=>(zW m a).bind fun b=>cond (!b) (some (0,8)) (XT m a)
noncomputable def ald(m:Nat):Option Int:=
 some 0
noncomputable def OV(m:Nat)(a:Int):Option Int:=
 cond (16384<a) (some 2) (ald m)
noncomputable def XU(m:Nat)(b:Dt):Option Int:=
 (zR m b).bind fun a=>cond (a.2 !=0) (some a.2) (OV m a.1)
noncomputable def CO(m:Nat)(a:Bool)(b:Dt):Option Int:=
 cond a (some 8) (XU m b)
noncomputable def XV(m:Nat)(b:Dt):Option Int:=
 (idx (L b 4) 0).bind fun a=>cond (I (fld a 1) 0==6) (CO m (I (fld a 1) 0==6) b) (cond (I (fld a 1) 0==1) (CO m (I (fld a 1) 0==1) b) (CO m (I (fld a 1) 0==11) b))
noncomputable def yH(m:Nat)(a:Bool)(b:Dt):Option Int:=
 cond a (some 8) (XV m b)
noncomputable def qT:Nat->Dt->Option Int
 |0,_=>none
 |m+1,a=>(zW m a).bind fun b=>cond (!b) (yH m true a) (cond (I a 0 !=5) (yH m true a) (cond (((L a 4).length:Int)==0) (yH m true a) ((idx (L a 4) 0).bind fun c=>yH m (!(S c 0).toList==[95,105,100]) a)))
noncomputable def MI(m:Nat)(a:Dt)(b c d e:List Dt):Option (Int×Dt×List Dt×List Dt×List Dt×List Dt):=
 some (0,a,b,c,d,e)
noncomputable def MJ(m:Nat)(d:Dt)(e f g h:List Dt)(c:Dt):Option (Int×Dt×List Dt×List Dt×List Dt×List Dt):=
 (i26 m c bg d g e f h).bind fun a=>(qB m c).bind fun i=>(i18 m i a.1 a.2.2.2.1 a.2.1 a.2.2.1 a.2.2.2.2).bind fun b=>MI m b.1 b.2.1 b.2.2.1 b.2.2.2.1 b.2.2.2.2
noncomputable def EX(m:Nat)(b:Dt)(c a d e:List Dt)(f:Dt):Option (Int×Dt×List Dt×List Dt×List Dt×List Dt):=
 (zL m f).bind fun g=>(qY m [g]).bind fun h=>cond (mhas a h) (some (16,b,c,a,d,e)) (MJ m b c a d e f)
noncomputable def i24:Nat->Dt->Dt->List Dt->List Dt->List Dt->List Dt->Option (Int×Dt×List Dt×List Dt×List Dt×List Dt)
 |0,_,_,_,_,_,_=>none
 |m+1,f,a,b,c,d,e=>cond (I a 3==4) (some (15,a,c,d,b,e)) (cond (I a 3==5) ((qT m f).bind fun g=>cond (g !=0) (some (g,a,c,d,b,e)) (EX m a c d b e f)) (MI m a c d b e))
noncomputable def yI(m:Nat)(a:Int->List Dt->Int->Int->Dt->List Dt->List Dt->List Dt->List Dt->Dt->Int->Int->ByteArray->List Dt->List Dt->Option (Int×Dt×List Dt×List Dt×List Dt×List Dt))(g:Int)(h:List Dt)(i j:Int)(k:Dt)(l n o p:List Dt)(q:Dt)(b c:Int)(d:ByteArray)(e f:List Dt):Option (Int×Dt×List Dt×List Dt×List Dt×List Dt):=
 a g h i (wrap .i64 (j+1)) k l n o p q b c d e f
noncomputable def EY(m:Nat)(a:Int->List Dt->Int->Int->Dt->List Dt->List Dt->List Dt->List Dt->Dt->Int->Int->ByteArray->List Dt->List Dt->Option (Int×Dt×List Dt×List Dt×List Dt×List Dt))(j:Int)(g:List Dt)(k h:Int)(l:Dt)(n o p q:List Dt)(r:Dt)(b c:Int)(d:ByteArray)(e f:List Dt):Option (Int×Dt×List Dt×List Dt×List Dt×List Dt):=
 (idx g h).bind fun i=>cond (!(S i 0).toList==[95,105,100]) ((qB m (fld i 1)).bind fun s=>(app f [agg [str (S i 0),s]]).bind fun t=>yI m a j g k h l n o p q r b c d e t) (yI m a j g k h l n o p q r b c d e f)
noncomputable def yJ(m:Nat)(a:Dt)(b c d e:List Dt):Option (Int×Dt×List Dt×List Dt×List Dt×List Dt):=
 some (0,a,b,c,d,e)
noncomputable def EZ(m:Nat)(o:Int)(h:Dt)(i j k l:List Dt)(n:Dt)(e f:Int)(g:ByteArray)(b c:List Dt):Option (Int×Dt×List Dt×List Dt×List Dt×List Dt):=
 (yB m (agg [int e,int f,str g,lst b,lst c]) n).bind fun p=>cond (!p) ((i26 m (agg [int e,int f,str g,lst b,lst c]) n h k i j l).bind fun d=>(i29 m o (agg [int e,int f,str g,lst b,lst c]) d.1 d.2.2.2.1 d.2.1 d.2.2.1 d.2.2.2.2).bind fun a=>yJ m a.1 a.2.1 a.2.2.1 a.2.2.2.1 a.2.2.2.2) (yJ m h i j k l)
noncomputable def E8(m:Nat)(l:Int)(c:Dt)(d e f g:List Dt)(n:Dt)(h i:Int)(j:ByteArray)(a b:List Dt):Option (Int×Dt×List Dt×List Dt×List Dt×List Dt):=
 (qT m (agg [int h,int i,str j,lst a,lst b])).bind fun k=>cond (k !=0) (some (k,c,d,e,f,g)) (EZ m l c d e f g n h i j a b)
noncomputable def kH(m:Nat):Nat->Int->List Dt->Int->Int->Dt->List Dt->List Dt->List Dt->List Dt->Dt->Int->Int->ByteArray->List Dt->List Dt->Option (Int×Dt×List Dt×List Dt×List Dt×List Dt)
 |0,_,_,_,_,_,_,_,_,_,_,_,_,_,_,_=>none
 |p+1,f,q,g,h,i,j,k,l,n,o,a,b,c,d,e=>cond (h<g) (EY m (kH m p) f q g h i j k l n o a b c d e) (E8 m f i j k l n o a b c d e)
noncomputable def XW(m:Nat)(f:Int)(g:List Dt)(h i:Int)(j:Dt)(k l n o:List Dt)(p:Dt)(a b:Int)(c:ByteArray)(d e:List Dt):Option (Int×Dt×List Dt×List Dt×List Dt×List Dt):=
 kH m (succ m) f g h i j k l n o p a b c d e
noncomputable def E9(m:Nat)(a:Int->List Dt->Int->Int->Dt->List Dt->List Dt->List Dt->List Dt->Dt->Dt->Option (Int×Dt×List Dt×List Dt×List Dt×List Dt))(c:Int)(d:List Dt)(e f:Int)(g:Dt)(h i j k:List Dt)(l b:Dt):Option (Int×Dt×List Dt×List Dt×List Dt×List Dt):=
 a c d e (wrap .i64 (f+1)) g h i j k l b
noncomputable def XY(m:Nat)(a:Int->List Dt->Int->Int->Dt->List Dt->List Dt->List Dt->List Dt->Dt->Dt->Option (Int×Dt×List Dt×List Dt×List Dt×List Dt))(g:Int)(d:List Dt)(h e:Int)(i:Dt)(j k l n:List Dt)(o c:Dt):Option (Int×Dt×List Dt×List Dt×List Dt×List Dt):=
 (idx d e).bind fun b=>cond (!(S b 0).toList==[95,105,100]) ((zY m c (S b 0) (fld b 1)).bind fun f=>E9 m a g d h e i j k l n o f) (E9 m a g d h e i j k l n o c)
noncomputable def OW(m:Nat)(k:Int)(e:Dt)(f g h i:List Dt)(j c:Dt):Option (Int×Dt×List Dt×List Dt×List Dt×List Dt):=
 (yB m c j).bind fun d=>cond (!d) ((i26 m c j e h f g i).bind fun a=>(i29 m k c a.1 a.2.2.2.1 a.2.1 a.2.2.1 a.2.2.2.2).bind fun b=>yJ m b.1 b.2.1 b.2.2.1 b.2.2.2.1 b.2.2.2.2) (yJ m e f g h i)
noncomputable def OX(m:Nat)(h:Int)(b:Dt)(c d e f:List Dt)(i g:Dt):Option (Int×Dt×List Dt×List Dt×List Dt×List Dt):=
 (qT m g).bind fun a=>cond (a !=0) (some (a,b,c,d,e,f)) (OW m h b c d e f i g)
noncomputable def Fa(m:Nat):Nat->Int->List Dt->Int->Int->Dt->List Dt->List Dt->List Dt->List Dt->Dt->Dt->Option (Int×Dt×List Dt×List Dt×List Dt×List Dt)
 |0,_,_,_,_,_,_,_,_,_,_,_=>none
 |k+1,b,l,c,d,e,f,g,h,i,j,a=>cond (d<c) (XY m (Fa m k) b l c d e f g h i j a) (OX m b e f g h i j a)
noncomputable def XZ(m:Nat)(b:Int)(c:List Dt)(d e:Int)(f:Dt)(g h i j:List Dt)(k a:Dt):Option (Int×Dt×List Dt×List Dt×List Dt×List Dt):=
 Fa m (succ m) b c d e f g h i j k a
noncomputable def i27:Nat->Int->Dt->Dt->List Dt->List Dt->List Dt->List Dt->Option (Int×Dt×List Dt×List Dt×List Dt×List Dt)
 |0,_,_,_,_,_,_,_=>none
 |m+1,c,d,a,b,e,f,g=>(inL b c).bind fun l=>(b[c.toNat]?).bind fun h=>cond (I a 2==1) ((zL m (fld h 0)).bind fun j=>(qB m j).bind fun k=>XW m c (L d 4) ((L d 4).length:Int) 0 a e f b g (fld h 0) 5 0 (ByteArray.mk (List.toArray [])) [] [agg [str (ByteArray.mk (List.toArray [95,105,100])),k]]) (cond (I a 2==2) ((qB m (fld h 0)).bind fun i=>XZ m c (L d 4) ((L d 4).length:Int) 0 a e f b g (fld h 0) i) (cond (I a 2==4) (some (16,a,e,f,b,g)) (some (0,a,e,f,b,g))))
noncomputable def X0(m:Nat)(a:Dt)(b c d e:List Dt):Option (Int×Dt×List Dt×List Dt×List Dt×List Dt):=
 some (14,a,b,c,d,e)
noncomputable def i23:Nat->Dt->Dt->List Dt->List Dt->List Dt->List Dt->Option (Int×Dt×List Dt×List Dt×List Dt×List Dt)
 |0,_,_,_,_,_,_=>none
 |m+1,h,e,f,a,i,g=>(i19 m (agg [e,lst f,lst [],lst [],lst g]) h).bind fun j=>cond (mhas a j) (bif ((toLst (mgetD a j (lst []))).length:Int)==0 then(i24 m h e f a i g).bind fun b=>some (b.1,b.2.1,b.2.2.1,b.2.2.2.1,b.2.2.2.2.1,b.2.2.2.2.2)else bif ((toLst (mgetD a j (lst []))).length:Int)==1 then(idx (toLst (mgetD a j (lst []))) 0).bind fun k=>(i27 m (toInt k) h e f a i g).bind fun c=>some (c.1,c.2.1,c.2.2.1,c.2.2.2.1,c.2.2.2.2.1,c.2.2.2.2.2)else X0 m e a i f g) ((i24 m h e f a i g).bind fun d=>some (d.1,d.2.1,d.2.2.1,d.2.2.2.1,d.2.2.2.2.1,d.2.2.2.2.2))
noncomputable def ale(m:Nat)(a:List Dt->List Dt->Int->Int->Dt->List Dt->List Dt->List Dt->List Dt->Option (List Dt×Int))(b c:List Dt)(d e:Int)(f:Dt)(g h i j:List Dt):Option (List Dt×Int):=
 a b c d (wrap .i64 (e+1)) f g h i j
noncomputable def X3(m:Nat)(a:List Dt->List Dt->Int->Int->Dt->List Dt->List Dt->List Dt->List Dt->Option (List Dt×Int))(e c:List Dt)(f d:Int)(g:Dt)(h i j k:List Dt):Option (List Dt×Int):=
 (idx c d).bind fun l=>(qB m l).bind fun n=>(i18 m n g h i j k).bind fun b=>ale m a e c f d b.1 b.2.2.2.1 b.2.1 b.2.2.1 b.2.2.2.2
noncomputable def alf(m:Nat)(a:List Dt->Int->Int->Dt->List Dt->List Dt->List Dt->List Dt->Option (List Dt×Int))(b:List Dt)(c d:Int)(e:Dt)(f g h i:List Dt):Option (List Dt×Int):=
 a b c (wrap .i64 (d+1)) e f g h i
noncomputable def X4(m:Nat)(b:List Dt->Int->Int->Dt->List Dt->List Dt->List Dt->List Dt->Option (List Dt×Int))(c:List Dt)(e d:Int)(f:Dt)(g h i j:List Dt):Option (List Dt×Int):=
 (idx c d).bind fun k=>(i23 m k f g h i j).bind fun a=>cond (a.1 !=0) (some ([],a.1)) (alf m b c e d a.2.1 a.2.2.2.2.1 a.2.2.1 a.2.2.2.1 a.2.2.2.2.2)
noncomputable def alg(m:Nat)(b:Dt)(c d e a:List Dt):Option (List Dt×Int):=
 some (a,0)
noncomputable def yK(m:Nat):Nat->List Dt->Int->Int->Dt->List Dt->List Dt->List Dt->List Dt->Option (List Dt×Int)
 |0,_,_,_,_,_,_,_,_=>none
 |h+1,i,a,b,c,d,e,f,g=>cond (b<a) (X4 m (yK m h) i a b c d e f g) (alg m c d e f g)
noncomputable def alh(m:Nat)(a:List Dt)(b c:Int)(d:Dt)(e f g h:List Dt):Option (List Dt×Int):=
 yK m (succ m) a b c d e f g h
noncomputable def OY(m:Nat)(a:List Dt)(b:Dt)(c d e f:List Dt):Option (List Dt×Int):=
 alh m a (a.length:Int) 0 b c d e f
noncomputable def yL(m:Nat):Nat->List Dt->List Dt->Int->Int->Dt->List Dt->List Dt->List Dt->List Dt->Option (List Dt×Int)
 |0,_,_,_,_,_,_,_,_,_=>none
 |i+1,a,j,b,c,d,e,f,g,h=>cond (c<b) (X3 m (yL m i) a j b c d e f g h) (OY m a d e f g h)
noncomputable def ali(m:Nat)(a b:List Dt)(c d:Int)(e:Dt)(f g h i:List Dt):Option (List Dt×Int):=
 yL m (succ m) a b c d e f g h i
noncomputable def qP:Nat->Dt->List Dt->List Dt->Option (List Dt×Int)
 |0,_,_,_=>none
 |m+1,b,a,c=>ali m c a (a.length:Int) 0 b [] [] [] []
noncomputable def He(m:Nat)(a:Int->ByteArray->Int->Option ByteArray)(b:Int)(c:ByteArray)(d:Int):Option ByteArray:=
 a b c (wrap .i64 (d+1))
noncomputable def Hf(m:Nat)(a:Int->ByteArray->Int->Option ByteArray)(b:Int)(c:ByteArray)(d:Int):Option ByteArray:=
 cond (Nat.ble (c.size+(strOfNums [orI IntKind.u8 (wrap IntKind.u8 (Int.tmod b 128)) 128]).size) 1152921504606846976) (He m a (wrap IntKind.u64 (Int.tdiv b 128)) (c++strOfNums [orI IntKind.u8 (wrap IntKind.u8 (Int.tmod b 128)) 128]) d) none
noncomputable def CP(m:Nat)(a:Int)(b:ByteArray):Option ByteArray:=
 cond (Nat.ble (b.size+(strOfNums [wrap IntKind.u8 a]).size) 1152921504606846976) (some (b++strOfNums [wrap IntKind.u8 a])) none
noncomputable def u6(m:Nat):Nat->Int->ByteArray->Int->Option ByteArray
 |0,_,_,_=>none
 |d+1,a,b,c=>cond (c<10) (cond (128<=a) (Hf m (u6 m d) a b c) (CP m a b)) (CP m a b)
noncomputable def Hg(m:Nat)(a:Int)(b:ByteArray)(c:Int):Option ByteArray:=
 u6 m (succ m) a b c
noncomputable def CQ(m:Nat)(a:Int):Option ByteArray:=
 Hg m a (ByteArray.mk (List.toArray [])) 0
noncomputable def zC:Nat->Int->Option ByteArray
 |0,_=>none
 |m+1,a=>cond (a<0) (CQ m (complI IntKind.u64 (shlI IntKind.u64 (wrap IntKind.u64 a) 1))) (CQ m (shlI IntKind.u64 (wrap IntKind.u64 a) 1))
noncomputable def jA(m:Nat)(a:Dt->Option ByteArray)(b:ByteArray):Option ByteArray:=
 some b
noncomputable def yM(m:Nat)(b:Dt->Option ByteArray)(a:ByteArray->Int->Dt->Option ByteArray)(c:ByteArray)(d:Int)(e:Dt):Option ByteArray:=
 a c (wrap .i64 (d+1)) e
noncomputable def yN(m:Nat)(a:Dt->Option ByteArray)(b:ByteArray->Int->Dt->Option ByteArray)(c:ByteArray)(d:Int)(e:Dt):Option ByteArray:=
 (idx (L e 3) d).bind fun g=>(a g).bind fun f=>cond (Nat.ble (c.size+f.size) 1152921504606846976) (yM m a b (c++f) d e) none
noncomputable def CS(m:Nat)(a:Dt->Option ByteArray):Nat->ByteArray->Int->Dt->Option ByteArray
 |0,_,_,_=>none
 |e+1,b,c,d=>cond (c<((L d 3).length:Int)) (yN m a (CS m a e) b c d) (jA m a b)
noncomputable def yO(m:Nat)(a:Dt->Option ByteArray)(b:ByteArray)(c:Int)(d:Dt):Option ByteArray:=
 CS m a (succ m) b c d
noncomputable def oL(m:Nat)(b:Dt->Option ByteArray)(a:ByteArray->Int->Dt->Option ByteArray)(c:ByteArray)(d:Int)(e:Dt):Option ByteArray:=
 a c (wrap .i64 (d+1)) e
noncomputable def yP(m:Nat)(a:Dt->Option ByteArray)(b:ByteArray->Int->Dt->Option ByteArray)(d:ByteArray)(e:Int)(f:Dt):Option ByteArray:=
 (idx (L f 4) e).bind fun i=>(zC m ((S i 0).size:Int)).bind fun g=>cond (Nat.ble (d.size+g.size) 1152921504606846976) ((idx (L f 4) e).bind fun h=>cond (Nat.ble ((d++g).size+(S h 0).size) 1152921504606846976) ((idx (L f 4) e).bind fun j=>(a (fld j 1)).bind fun c=>cond (Nat.ble ((d++g++S h 0).size+c.size) 1152921504606846976) (oL m a b (d++g++S h 0++c) e f) none) none) none
noncomputable def CU(m:Nat)(a:Dt->Option ByteArray):Nat->ByteArray->Int->Dt->Option ByteArray
 |0,_,_,_=>none
 |e+1,b,c,d=>cond (c<((L d 4).length:Int)) (yP m a (CU m a e) b c d) (jA m a b)
noncomputable def yQ(m:Nat)(a:Dt->Option ByteArray)(b:ByteArray)(c:Int)(d:Dt):Option ByteArray:=
 CU m a (succ m) b c d
noncomputable def u7(m:Nat)(a:Dt->Option ByteArray)(b:ByteArray)(d:Int)(h:Bool)(c:Dt):Option ByteArray:=
 cond h ((zC m ((S c 2).size:Int)).bind fun e=>cond (Nat.ble (b.size+e.size) 1152921504606846976) (cond (Nat.ble ((b++e).size+(S c 2).size) 1152921504606846976) (jA m a (b++e++S c 2)) none) none) (cond (d==8) (cond (Nat.ble (b.size+(S c 2).size) 1152921504606846976) (jA m a (b++S c 2)) none) (cond (d==6) ((zC m ((L c 3).length:Int)).bind fun f=>cond (Nat.ble (b.size+f.size) 1152921504606846976) (yO m a (b++f) 0 c) none) (cond (d==5) ((zC m ((L c 4).length:Int)).bind fun g=>cond (Nat.ble (b.size+g.size) 1152921504606846976) (yQ m a (b++g) 0 c) none) (jA m a b))))
noncomputable def vg(m:Nat)(a:Dt->Option ByteArray)(b:ByteArray)(c:Int)(f:Bool)(d:Dt):Option ByteArray:=
 cond f ((zC m (I d 1)).bind fun e=>cond (Nat.ble (b.size+e.size) 1152921504606846976) (jA m a (b++e)) none) (cond (c==9) (cond (Nat.ble (b.size+(strOfNums [wrap IntKind.u8 (I d 1)]).size) 1152921504606846976) (jA m a (b++strOfNums [wrap IntKind.u8 (I d 1)])) none) (cond (c==4) (u7 m a b c (c==4) d) (u7 m a b c (c==7) d)))
noncomputable def qL:Nat->Dt->Option ByteArray
 |0,_=>none
 |m+1,a=>cond (I a 0==3) (vg m (qL m) (strOfNums [wrap IntKind.u8 (I a 0)]) (I a 0) (I a 0==3) a) (vg m (qL m) (strOfNums [wrap IntKind.u8 (I a 0)]) (I a 0) (I a 0==10) a)
noncomputable def X5(m:Nat)(a:Dt):Option (ByteArray×Int):=
 (qL m a).bind fun b=>some (b,0)
noncomputable def zU:Nat->Dt->Option (ByteArray×Int)
 |0,_=>none
 |m+1,a=>(zV m a).bind fun b=>cond (!b) (some (ByteArray.mk (List.toArray []),8)) (X5 m a)
noncomputable def z7:Nat->Dt->Option (Int×Int)
 |0,_=>none
 |m+1,b=>(zU m b).bind fun a=>some (((a.1).size:Int),a.2)
noncomputable def alj(m:Nat):Option Int:=
 some 0
noncomputable def OZ(m:Nat)(a:Int):Option Int:=
 cond (16384<a) (some 2) (alj m)
noncomputable def O0(m:Nat)(b:Dt):Option Int:=
 (z7 m b).bind fun a=>cond (a.2 !=0) (some a.2) (OZ m a.1)
noncomputable def zK:Nat->Dt->Option Int
 |0,_=>none
 |m+1,a=>(zN m a).bind fun b=>cond (!b.2) (some 8) (O0 m a)
noncomputable def zO:Nat->Dt->Option Bool
 |0,_=>none
 |m+1,a=>(zK m a).bind fun b=>some (b !=0)
noncomputable def MK(m:Nat)(a:List Dt->Int->Int->Option Int)(b:List Dt)(c d:Int):Option Int:=
 a b c (wrap .i64 (d+1))
noncomputable def ML(m:Nat)(a:List Dt->Int->Int->Option Int)(c:List Dt)(d b:Int):Option Int:=
 (idx c b).bind fun e=>(zO m e).bind fun f=>cond f (some b) (MK m a c d b)
noncomputable def X6(m:Nat):Option Int:=
 some (-1)
noncomputable def sU(m:Nat):Nat->List Dt->Int->Int->Option Int
 |0,_,_,_=>none
 |c+1,d,a,b=>cond (b<a) (ML m (sU m c) d a b) (X6 m)
noncomputable def X7(m:Nat)(a:List Dt)(b c:Int):Option Int:=
 sU m (succ m) a b c
noncomputable def i10:Nat->List Dt->Option Int
 |0,_=>none
 |m+1,a=>X7 m a (a.length:Int) 0
noncomputable def i9:Nat->List Dt->Option Bool
 |0,_=>none
 |m+1,a=>(i10 m a).bind fun b=>some (decide (0<=b))
noncomputable def X8(m:Nat)(b:List Dt->Int->Int->Option Bool)(a:List Dt->Int->Int->Int->Int->Int->Option Bool)(c:List Dt)(d e f g h:Int):Option Bool:=
 a c d e f g (wrap .i64 (h+1))
noncomputable def X9(m:Nat)(a:List Dt->Int->Int->Option Bool)(b:List Dt->Int->Int->Int->Int->Int->Option Bool)(c:List Dt)(d f g h e:Int):Option Bool:=
 (idx c e).bind fun i=>(idx (L i 4) 0).bind fun j=>(idx c d).bind fun k=>(idx (L k 4) 0).bind fun l=>(qC m (fld j 1) (fld l 1)).bind fun n=>cond (n==0) (some false) (X8 m a b c d f g h e)
noncomputable def Ya(m:Nat)(a:List Dt->Int->Int->Option Bool)(b:List Dt)(c d:Int):Option Bool:=
 a b c (wrap .i64 (d+1))
noncomputable def CV(m:Nat)(a:List Dt->Int->Int->Option Bool):Nat->List Dt->Int->Int->Int->Int->Int->Option Bool
 |0,_,_,_,_,_,_=>none
 |g+1,b,h,c,d,e,f=>cond (f<e) (X9 m a (CV m a g) b h c d e f) (Ya m a b c d)
noncomputable def alk(m:Nat)(a:List Dt->Int->Int->Option Bool)(b:List Dt)(c d e f g:Int):Option Bool:=
 CV m a (succ m) b c d e f g
noncomputable def alm(m:Nat)(a:List Dt->Int->Int->Option Bool)(c:List Dt)(b d e:Int):Option Bool:=
 alk m a c b d e b 0
noncomputable def Yb(m:Nat)(a:List Dt->Int->Int->Option Bool)(c:List Dt)(d b:Int):Option Bool:=
 (idx c b).bind fun e=>(zK m e).bind fun f=>cond (f !=0) (some false) (alm m a c b d b)
noncomputable def aln(m:Nat):Option Bool:=
 some true
noncomputable def yR(m:Nat):Nat->List Dt->Int->Int->Option Bool
 |0,_,_,_=>none
 |c+1,d,a,b=>cond (b<a) (Yb m (yR m c) d a b) (aln m)
noncomputable def alo(m:Nat)(a:List Dt)(b c:Int):Option Bool:=
 yR m (succ m) a b c
noncomputable def qV:Nat->List Dt->Option Bool
 |0,_=>none
 |m+1,a=>alo m a (a.length:Int) 0
noncomputable def Yc(m:Nat)(a b:List Dt):Option Bool:=
 (z6 m a).bind fun c=>cond c ((z6 m b).bind fun d=>cond d ((qV m a).bind fun e=>some e) (some false)) (some false)
noncomputable def qb(m:Nat)(a b:List Dt)(c:Bool):Option Bool:=
 cond c (some false) (Yc m a b)
noncomputable def zG:Nat->Dt->List Dt->List Dt->Option Bool
 |0,_,_,_=>none
 |m+1,a,b,c=>cond (I a 2<1) (qb m b c true) (cond (4<I a 2) (qb m b c true) (cond (I a 3<4) (qb m b c true) (cond (6<I a 3) (qb m b c true) (cond (8<((L a 1).length:Int)) (qb m b c true) ((i14 m (L a 1)).bind fun d=>qb m b c d)))))
noncomputable def Yd(m:Nat)(a:List Dt->List Dt->List Dt->Int->Int->List Dt->Option Bool)(b c d:List Dt)(e f:Int)(g:List Dt):Option Bool:=
 a b c d e (wrap .i64 (f+1)) g
noncomputable def O1(m:Nat)(a:List Dt->List Dt->List Dt->Int->Int->List Dt->Option Bool)(b c d:List Dt)(e f:Int)(g:List Dt)(h:Dt):Option Bool:=
 (i6 m (fld h 3) g).bind fun i=>Yd m a b c d e f i
noncomputable def Ye(m:Nat)(a:List Dt->List Dt->List Dt->Int->Int->List Dt->Option Bool)(b c d:List Dt)(e f:Int)(g:Bool)(h:List Dt)(i:Dt):Option Bool:=
 cond g (some false) (O1 m a b c d e f h i)
noncomputable def Yf(m:Nat)(a:List Dt->List Dt->List Dt->Int->Int->List Dt->Option Bool)(e f c:List Dt)(g d:Int)(h:List Dt):Option Bool:=
 (idx c d).bind fun b=>(zN m (fld b 3)).bind fun i=>cond (!i.2) (Ye m a e f c g d true h b) (Ye m a e f c g d (I b 0 !=2) h b)
noncomputable def MN(m:Nat)(a:List Dt->Int->Int->List Dt->List Dt->Option Bool)(b:List Dt)(c d:Int)(e f:List Dt):Option Bool:=
 a b c (wrap .i64 (d+1)) e f
noncomputable def MO(m:Nat)(a:List Dt->Int->Int->List Dt->List Dt->Option Bool)(b:List Dt)(d c:Int)(e f:List Dt):Option Bool:=
 (idx b c).bind fun g=>(i6 m g f).bind fun h=>MN m a b d c e h
noncomputable def Fb(m:Nat)(c d:List Dt):Option Bool:=
 (qR m c d).bind fun a=>cond a ((o9).bind fun b=>some b) (some false)
noncomputable def sV(m:Nat):Nat->List Dt->Int->Int->List Dt->List Dt->Option Bool
 |0,_,_,_,_,_=>none
 |a+1,f,b,c,d,e=>cond (c<b) (MO m (sV m a) f b c d e) (Fb m d e)
noncomputable def MP(m:Nat)(a:List Dt)(b c:Int)(d e:List Dt):Option Bool:=
 sV m (succ m) a b c d e
noncomputable def O3(m:Nat)(b a c:List Dt):Option Bool:=
 (slices_Clone b).bind fun d=>MP m a (a.length:Int) 0 c d
noncomputable def CX(m:Nat):Nat->List Dt->List Dt->List Dt->Int->Int->List Dt->Option Bool
 |0,_,_,_,_,_,_=>none
 |f+1,a,b,g,c,d,e=>cond (d<c) (Yf m (CX m f) a b g c d e) (O3 m a b e)
noncomputable def Yg(m:Nat)(a b c:List Dt)(d e:Int)(f:List Dt):Option Bool:=
 CX m (succ m) a b c d e f
noncomputable def O4(m:Nat)(a c b:List Dt):Option Bool:=
 (slices_Clone a).bind fun d=>Yg m a c b (b.length:Int) 0 d
noncomputable def Yh(m:Nat)(a b:List Dt)(d:ByteArray)(e f:Int)(g:List Dt):Option Bool:=
 (qP m (agg [str d,lst g,int e,int f]) a b).bind fun c=>cond (c.2 !=0) (some false) (O4 m a b c.1)
noncomputable def CY(m:Nat)(a b:List Dt)(c:Bool)(d:ByteArray)(e f:Int)(g:List Dt):Option Bool:=
 cond c ((o9).bind fun h=>some h) (Yh m a b d e f g)
noncomputable def qA:Nat->List Dt->List Dt->Option Bool
 |0,_,_=>none
 |m+1,b,a=>(zG m jP b a).bind fun d=>cond (!d) (CY m b a true (ByteArray.mk (List.toArray [115])) 1 5 [lst [str (ByteArray.mk (List.toArray [95,105,100]))]]) ((i9 m a).bind fun c=>CY m b a c (ByteArray.mk (List.toArray [115])) 1 5 [lst [str (ByteArray.mk (List.toArray [95,105,100]))]])
