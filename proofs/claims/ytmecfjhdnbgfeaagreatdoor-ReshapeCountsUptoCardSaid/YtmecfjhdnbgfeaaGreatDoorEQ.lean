/- Generated: the functions as contracts for their callers.
Generated:each function's run in the abstract machine is its shallow function.
Generated:each function's run in the abstract machine is its shallow function.
Generated:each function's run in the abstract machine is its shallow function.
Generated:the contracts. -/
import Derived.Test.YtmecfjhdnbgfeaaGreatDoorSh
import Derived.Test.YtmecfjhdnbgfeaaGreatDoorA3
import Derived.Test.YtmecfjhdnbgfeaaGreatDoorProg
import Derived.KernelRfl
import Derived.Test.YtmecfjhdnbgfeaaGreatDoorAmEnv
set_option linter.all false
noncomputable section
namespace Go.Proofs.YtmecfjhdnbgfeaaGreatDoor
open Go.Am
def ae8:List SA:=[.d 29 .a,.d 23 .l,.d 23 .l]
def Ym:List SA:=[.d 23 .l]
def ajK:List SA:=[]
def qO:List SA:=[.d 26 .a]
def L9:List SA:=[.d 26 .a,.d 26 .a]
def ae9:List SA:=[.d 29 .a,.d 23 .l]
def SG:List SA:=[.d 29 .a]
def afa:List SA:=[.d 23 .l,.f 33]
def afb:List SA:=[.d 26 .a,.d 4 .b]
def Ma:List SA:=[.d 3 .i,.d 3 .i]
def Z6:List SA:=[.d 9 .s,.d 9 .s]
def afc:List SA:=[.d 29 .a,.d 26 .a]
def AA:List SA:=[.d 3 .i]
def Mc:List SA:=[.d 26 .a,.d 9 .s]
def afd:List SA:=[.d 23 .l,.d 26 .a,.f 45]
def afe:List SA:=[.d 29 .a,.d 3 .i,.d 3 .i]
def EZ:List SA:=[.d 26 .a,.d 3 .i]
def wG:List SA:=[.d 9 .s]
def Md:List SA:=[.d 29 .a,.d 26 .a,.d 160 .a]
def aff:List SA:=[.d 9 .s,.d 3 .i,.d 3 .i]
def E8:List SA:=[.d 22 .l]
def afg:List SA:=[.d 26 .a,.d 22 .l]
def I8:List SA:=[.d 3 .i,.d 23 .l]
def VK:List SA:=[.d 22 .l,.f 198]
def afh:List SA:=[.d 4 .b]
def afi:List SA:=[.d 23 .l,.d 26 .a]
def afj:List SA:=[.d 26 .a,.d 9 .s,.d 26 .a]
def afk:List SA:=[.d 24 .l]
def jY:SR:= .d 3 .i
def res1:SR:= .d 26 .a
def res2:SR:= .t [(26,.a),(4,.b)]
def VL:SR:= .d 23 .l
def gB:SR:= .d 4 .b
def ajL:SR:= .t [(3,.i),(4,.b)]
def Om:SR:= .d 31 .i
def ajM:SR:= .t [(3,.i),(31,.i)]
theorem Z7:oksA Tryz.prog ae8:=⟨trivial,⟨_,Tryz.underlying23⟩,⟨_,Tryz.underlying23⟩,trivial⟩
theorem SH:oksA Tryz.prog Ym:=⟨⟨_,Tryz.underlying23⟩,trivial⟩
theorem Z8:oksA Tryz.prog ajK:=trivial
theorem nX:oksA Tryz.prog qO:=⟨trivial,trivial⟩
theorem E9:oksA Tryz.prog L9:=⟨trivial,trivial,trivial⟩
theorem Z9:oksA Tryz.prog ae9:=⟨trivial,⟨_,Tryz.underlying23⟩,trivial⟩
theorem Kn:oksA Tryz.prog SG:=⟨trivial,trivial⟩
theorem aac:oksA Tryz.prog afa:=⟨⟨_,Tryz.underlying23⟩,trivial⟩
theorem aad:oksA Tryz.prog afb:=⟨trivial,Tryz.underlying4,trivial⟩
theorem Fa:oksA Tryz.prog Ma:=⟨⟨_,Tryz.underlying3⟩,⟨_,Tryz.underlying3⟩,trivial⟩
theorem VN:oksA Tryz.prog Z6:=⟨Tryz.underlying9,Tryz.underlying9,trivial⟩
theorem afl:oksA Tryz.prog afc:=⟨trivial,trivial,trivial⟩
theorem AJ:oksA Tryz.prog AA:=⟨⟨_,Tryz.underlying3⟩,trivial⟩
theorem Me:oksA Tryz.prog Mc:=⟨trivial,Tryz.underlying9,trivial⟩
theorem afm:oksA Tryz.prog afd:=⟨⟨_,Tryz.underlying23⟩,trivial,trivial⟩
theorem afn:oksA Tryz.prog afe:=⟨trivial,⟨_,Tryz.underlying3⟩,⟨_,Tryz.underlying3⟩,trivial⟩
theorem Fb:oksA Tryz.prog EZ:=⟨trivial,⟨_,Tryz.underlying3⟩,trivial⟩
theorem vg:oksA Tryz.prog wG:=⟨Tryz.underlying9,trivial⟩
theorem Mf:oksA Tryz.prog Md:=⟨trivial,trivial,trivial,trivial⟩
theorem afo:oksA Tryz.prog aff:=⟨Tryz.underlying9,⟨_,Tryz.underlying3⟩,⟨_,Tryz.underlying3⟩,trivial⟩
theorem Fe:oksA Tryz.prog E8:=⟨⟨_,Tryz.underlying22⟩,trivial⟩
theorem afp:oksA Tryz.prog afg:=⟨trivial,⟨_,Tryz.underlying22⟩,trivial⟩
theorem Fg:oksA Tryz.prog I8:=⟨⟨_,Tryz.underlying3⟩,⟨_,Tryz.underlying23⟩,trivial⟩
theorem VO:oksA Tryz.prog VK:=⟨⟨_,Tryz.underlying22⟩,trivial⟩
theorem afq:oksA Tryz.prog afh:=⟨Tryz.underlying4,trivial⟩
theorem afr:oksA Tryz.prog afi:=⟨⟨_,Tryz.underlying23⟩,trivial,trivial⟩
theorem afs:oksA Tryz.prog afj:=⟨trivial,Tryz.underlying9,trivial,trivial⟩
theorem aft:oksA Tryz.prog afk:=⟨⟨_,Tryz.underlying24⟩,trivial⟩
theorem gQ:jY.ok Tryz.prog:=⟨_,Tryz.underlying3⟩
theorem iY:res1.ok Tryz.prog:=trivial
theorem ajN:res2.ok Tryz.prog:=⟨trivial,Tryz.underlying4,trivial⟩
theorem SI:VL.ok Tryz.prog:=⟨_,Tryz.underlying23⟩
theorem eU:gB.ok Tryz.prog:=Tryz.underlying4
theorem aae:ajL.ok Tryz.prog:=⟨⟨_,Tryz.underlying3⟩,Tryz.underlying4,trivial⟩
theorem Ko:Om.ok Tryz.prog:=⟨_,Tryz.underlying31⟩
theorem ajO:ajM.ok Tryz.prog:=⟨⟨_,Tryz.underlying3⟩,⟨_,Tryz.underlying31⟩,trivial⟩
def d15:Res->Option (Int):=SR.g jY
def d23:Res->Option (Dt):=SR.g res1
def d31:Res->Option (Dt×Bool):=SR.g res2
def d46:Res->Option (List Dt):=SR.g VL
def d47:Res->Option (Bool):=SR.g gB
def d18:Res->Option (Int×Bool):=SR.g ajL
def d45:Res->Option (Int):=SR.g Om
def d34:Res->Option (Int×Int):=SR.g ajM
def Xr(args:List AV)(objs:List Ob):Option Dt:=match args,objs with
 | [.dat T0 a],[]=>bif Nat.beq T0 26 then some a else none
 |_,_=>none
theorem RI{args:List AV}{objs:List Ob}{l:Dt}(h:Xr args objs=some l):CnA Tryz.prog args [.dat 26 l]∧CnOL Tryz.prog objs []:=by
 unfold Xr at h;split at h
 ·obtain⟨hc,a⟩:=aN h;cases a;have e0:=beq_eq hc;subst e0;exact⟨(.cons (.of .same rfl rfl) .nil),.nil⟩
 ·cases h
def afu(args:List AV)(objs:List Ob):Option (List Dt×Dt×Dt):=match args,objs with
 | [.dat T0 a,.dat T1 b,.fn T2 [.rptr T3 c]],[]=>bif (Nat.beq T0 75&&(Nat.beq T1 26&&(Nat.beq T2 44&&Nat.beq T3 23)))then some (a.toLst,b,c)else none
 |_,_=>none
theorem afv{args:List AV}{objs:List Ob}{l:List Dt×Dt×Dt}(h:afu args objs=some l):CnA Tryz.prog args [.dat 75 (.lst l.1),.dat 26 l.2.1,.fn 44 [.rptr 23 l.2.2]]∧CnOL Tryz.prog objs []:=by
 unfold afu at h;split at h
 ·obtain⟨hc,a⟩:=aN h;cases a;have e0:=beq_eq (bg hc);have hc:=aO hc;have e1:=beq_eq (bg hc);have hc:=aO hc;have e2:=beq_eq (bg hc);have hc:=aO hc;have e3:=beq_eq hc;subst e0 e1 e2 e3;exact⟨(.cons (.of (.dat (.lst Tryz.underlying75)) rfl rfl) (.cons (.of .same rfl rfl) (.cons (.of (.fn (.cons .same .nil)) rfl rfl) .nil))),.nil⟩
 ·cases h
def afw(args:List AV)(objs:List Ob):Option (Int×Dt×Dt):=match args,objs with
 | [.dat T0 a,.dat T1 b,.rptr T2 c],[]=>bif (Nat.beq T0 3&&(Nat.beq T1 26&&Nat.beq T2 23))then some (a.toInt,b,c)else none
 |_,_=>none
theorem afx{args:List AV}{objs:List Ob}{l:Int×Dt×Dt}(h:afw args objs=some l):CnA Tryz.prog args [.dat 3 (.int l.1),.dat 26 l.2.1,.rptr 23 l.2.2]∧CnOL Tryz.prog objs []:=by
 unfold afw at h;split at h
 ·obtain⟨hc,a⟩:=aN h;cases a;have e0:=beq_eq (bg hc);have hc:=aO hc;have e1:=beq_eq (bg hc);have hc:=aO hc;have e2:=beq_eq hc;subst e0 e1 e2;exact⟨(.cons (.of (.dat (.int Tryz.underlying3)) rfl rfl) (.cons (.of .same rfl rfl) (.cons (.of .same rfl rfl) .nil))),.nil⟩
 ·cases h
def afy(args:List AV)(objs:List Ob):Option (Int×List Dt×List Dt):=match args,objs with
 | [.row n0,.dat T1 a,.row n2],[.row T3 b,.row T4 c]=>bif (Nat.beq n0 0&&(Nat.beq T1 3&&(Nat.beq n2 1&&(Nat.beq T3 75&&Nat.beq T4 75))))then some (a.toInt,b,c)else none
 |_,_=>none
theorem afz{args:List AV}{objs:List Ob}{l:Int×List Dt×List Dt}(h:afy args objs=some l):CnA Tryz.prog args [.row 0,.dat 3 (.int l.1),.row 1]∧CnOL Tryz.prog objs [.row 75 l.2.1,.row 75 l.2.2]:=by
 unfold afy at h;split at h
 ·obtain⟨hc,a⟩:=aN h;cases a;have e0:=beq_eq (bg hc);have hc:=aO hc;have e1:=beq_eq (bg hc);have hc:=aO hc;have e2:=beq_eq (bg hc);have hc:=aO hc;have e3:=beq_eq (bg hc);have hc:=aO hc;have e4:=beq_eq hc;subst e0 e1 e2 e3 e4;exact⟨(.cons (.of .same rfl rfl) (.cons (.of (.dat (.int Tryz.underlying3)) rfl rfl) (.cons (.of .same rfl rfl) .nil))),(.cons .same (.cons .same .nil))⟩
 ·cases h
def afA(args:List AV)(objs:List Ob):Option (Dt×Int):=match args,objs with
 | [.dat T0 a,.dat T1 b],[]=>bif (Nat.beq T0 26&&Nat.beq T1 3)then some (a,b.toInt)else none
 |_,_=>none
theorem afB{args:List AV}{objs:List Ob}{l:Dt×Int}(h:afA args objs=some l):CnA Tryz.prog args [.dat 26 l.1,.dat 3 (.int l.2)]∧CnOL Tryz.prog objs []:=by
 unfold afA at h;split at h
 ·obtain⟨hc,a⟩:=aN h;cases a;have e0:=beq_eq (bg hc);have hc:=aO hc;have e1:=beq_eq hc;subst e0 e1;exact⟨(.cons (.of .same rfl rfl) (.cons (.of (.dat (.int Tryz.underlying3)) rfl rfl) .nil)),.nil⟩
 ·cases h
def afC(args:List AV)(objs:List Ob):Option (List Dt):=match args,objs with
 | [.row n0,.fn T1 []],[.row T2 a]=>bif (Nat.beq n0 0&&(Nat.beq T1 50&&Nat.beq T2 23))then some a else none
 |_,_=>none
theorem afD{args:List AV}{objs:List Ob}{l:List Dt}(h:afC args objs=some l):CnA Tryz.prog args [.row 0,.fn 50 []]∧CnOL Tryz.prog objs [.row 23 l]:=by
 unfold afC at h;split at h
 ·obtain⟨hc,a⟩:=aN h;cases a;have e0:=beq_eq (bg hc);have hc:=aO hc;have e1:=beq_eq (bg hc);have hc:=aO hc;have e2:=beq_eq hc;subst e0 e1 e2;exact⟨(.cons (.of .same rfl rfl) (.cons (.of (.fn .nil) rfl rfl) .nil)),(.cons .same .nil)⟩
 ·cases h
def afE(args:List AV)(objs:List Ob):Option (Int×List Dt):=match args,objs with
 | [.row n0,.dat T1 a,.fn T2 []],[.row T3 b]=>bif (Nat.beq n0 0&&(Nat.beq T1 3&&(Nat.beq T2 50&&Nat.beq T3 23)))then some (a.toInt,b)else none
 |_,_=>none
theorem afF{args:List AV}{objs:List Ob}{l:Int×List Dt}(h:afE args objs=some l):CnA Tryz.prog args [.row 0,.dat 3 (.int l.1),.fn 50 []]∧CnOL Tryz.prog objs [.row 23 l.2]:=by
 unfold afE at h;split at h
 ·obtain⟨hc,a⟩:=aN h;cases a;have e0:=beq_eq (bg hc);have hc:=aO hc;have e1:=beq_eq (bg hc);have hc:=aO hc;have e2:=beq_eq (bg hc);have hc:=aO hc;have e3:=beq_eq hc;subst e0 e1 e2 e3;exact⟨(.cons (.of .same rfl rfl) (.cons (.of (.dat (.int Tryz.underlying3)) rfl rfl) (.cons (.of (.fn .nil) rfl rfl) .nil))),(.cons .same .nil)⟩
 ·cases h
def afG(args:List AV)(objs:List Ob):Option (Int×Int×List Dt):=match args,objs with
 | [.row n0,.dat T1 a,.dat T2 b,.fn T3 []],[.row T4 c]=>bif (Nat.beq n0 0&&(Nat.beq T1 3&&(Nat.beq T2 3&&(Nat.beq T3 50&&Nat.beq T4 23))))then some (a.toInt,b.toInt,c)else none
 |_,_=>none
theorem afH{args:List AV}{objs:List Ob}{l:Int×Int×List Dt}(h:afG args objs=some l):CnA Tryz.prog args [.row 0,.dat 3 (.int l.1),.dat 3 (.int l.2.1),.fn 50 []]∧CnOL Tryz.prog objs [.row 23 l.2.2]:=by
 unfold afG at h;split at h
 ·obtain⟨hc,a⟩:=aN h;cases a;have e0:=beq_eq (bg hc);have hc:=aO hc;have e1:=beq_eq (bg hc);have hc:=aO hc;have e2:=beq_eq (bg hc);have hc:=aO hc;have e3:=beq_eq (bg hc);have hc:=aO hc;have e4:=beq_eq hc;subst e0 e1 e2 e3 e4;exact⟨(.cons (.of .same rfl rfl) (.cons (.of (.dat (.int Tryz.underlying3)) rfl rfl) (.cons (.of (.dat (.int Tryz.underlying3)) rfl rfl) (.cons (.of (.fn .nil) rfl rfl) .nil)))),(.cons .same .nil)⟩
 ·cases h
def VP(args:List AV)(objs:List Ob):Option (Int×Int×Int×List Dt):=match args,objs with
 | [.row n0,.dat T1 a,.dat T2 b,.dat T3 c,.fn T4 []],[.row T5 d]=>bif (Nat.beq n0 0&&(Nat.beq T1 3&&(Nat.beq T2 3&&(Nat.beq T3 3&&(Nat.beq T4 50&&Nat.beq T5 23)))))then some (a.toInt,b.toInt,c.toInt,d)else none
 |_,_=>none
theorem Mg{args:List AV}{objs:List Ob}{l:Int×Int×Int×List Dt}(h:VP args objs=some l):CnA Tryz.prog args [.row 0,.dat 3 (.int l.1),.dat 3 (.int l.2.1),.dat 3 (.int l.2.2.1),.fn 50 []]∧CnOL Tryz.prog objs [.row 23 l.2.2.2]:=by
 unfold VP at h;split at h
 ·obtain⟨hc,a⟩:=aN h;cases a;have e0:=beq_eq (bg hc);have hc:=aO hc;have e1:=beq_eq (bg hc);have hc:=aO hc;have e2:=beq_eq (bg hc);have hc:=aO hc;have e3:=beq_eq (bg hc);have hc:=aO hc;have e4:=beq_eq (bg hc);have hc:=aO hc;have e5:=beq_eq hc;subst e0 e1 e2 e3 e4 e5;exact⟨(.cons (.of .same rfl rfl) (.cons (.of (.dat (.int Tryz.underlying3)) rfl rfl) (.cons (.of (.dat (.int Tryz.underlying3)) rfl rfl) (.cons (.of (.dat (.int Tryz.underlying3)) rfl rfl) (.cons (.of (.fn .nil) rfl rfl) .nil))))),(.cons .same .nil)⟩
 ·cases h
def afI(args:List AV)(objs:List Ob):Option (Dt×Int×Int):=match args,objs with
 | [.dat T0 a,.dat T1 b,.ptr n2 p2 o2],[.box T3 (.dat T4 c)]=>bif (Nat.beq T0 29&&(Nat.beq T1 3&&(Nat.beq n2 0&&(natsB p2 []&&(Nat.beq o2 0&&(Nat.beq T3 3&&Nat.beq T4 3))))))then some (a,b.toInt,c.toInt)else none
 |_,_=>none
theorem afJ{args:List AV}{objs:List Ob}{l:Dt×Int×Int}(h:afI args objs=some l):CnA Tryz.prog args [.dat 29 l.1,.dat 3 (.int l.2.1),.ptr 0 [] 0]∧CnOL Tryz.prog objs [.box 3 (.dat 3 (.int l.2.2))]:=by
 unfold afI at h;split at h
 ·obtain⟨hc,a⟩:=aN h;cases a;have e0:=beq_eq (bg hc);have hc:=aO hc;have e1:=beq_eq (bg hc);have hc:=aO hc;have e2:=beq_eq (bg hc);have hc:=aO hc;have e3:=sW (bg hc);have hc:=aO hc;have e4:=beq_eq (bg hc);have hc:=aO hc;have e5:=beq_eq (bg hc);have hc:=aO hc;have e6:=beq_eq hc;subst e0 e1 e2 e3 e4 e5 e6;exact⟨(.cons (.of .same rfl rfl) (.cons (.of (.dat (.int Tryz.underlying3)) rfl rfl) (.cons (.of .same rfl rfl) .nil))),(.cons (.box (.dat (.int Tryz.underlying3))) .nil)⟩
 ·cases h
def afK(args:List AV)(objs:List Ob):Option (Dt×Int×Int):=match args,objs with
 | [.dat T0 a,.fn T1 [.ptr n2 p2 o2,.ptr n3 p3 o3]],[.box T4 (.dat T5 b),.box T6 (.dat T7 c)]=>bif (Nat.beq T0 26&&(Nat.beq T1 235&&(Nat.beq n2 0&&(natsB p2 []&&(Nat.beq o2 0&&(Nat.beq n3 1&&(natsB p3 []&&(Nat.beq o3 0&&(Nat.beq T4 3&&(Nat.beq T5 3&&(Nat.beq T6 3&&Nat.beq T7 3)))))))))))then some (a,b.toInt,c.toInt)else none
 |_,_=>none
theorem afL{args:List AV}{objs:List Ob}{l:Dt×Int×Int}(h:afK args objs=some l):CnA Tryz.prog args [.dat 26 l.1,(.fn 235 [.ptr 0 [] 0,.ptr 1 [] 0])]∧CnOL Tryz.prog objs [.box 3 (.dat 3 (.int l.2.1)),.box 3 (.dat 3 (.int l.2.2))]:=by
 unfold afK at h;split at h
 ·obtain⟨hc,a⟩:=aN h;cases a;have e0:=beq_eq (bg hc);have hc:=aO hc;have e1:=beq_eq (bg hc);have hc:=aO hc;have e2:=beq_eq (bg hc);have hc:=aO hc;have e3:=sW (bg hc);have hc:=aO hc;have e4:=beq_eq (bg hc);have hc:=aO hc;have e5:=beq_eq (bg hc);have hc:=aO hc;have e6:=sW (bg hc);have hc:=aO hc;have e7:=beq_eq (bg hc);have hc:=aO hc;have e8:=beq_eq (bg hc);have hc:=aO hc;have e9:=beq_eq (bg hc);have hc:=aO hc;have e10:=beq_eq (bg hc);have hc:=aO hc;have e11:=beq_eq hc;subst e0 e1 e2 e3 e4 e5 e6 e7 e8 e9 e10 e11;exact⟨(.cons (.of .same rfl rfl) (.cons (.of (.fn (.cons .same (.cons .same .nil))) rfl rfl) .nil)),(.cons (.box (.dat (.int Tryz.underlying3))) (.cons (.box (.dat (.int Tryz.underlying3))) .nil))⟩
 ·cases h
def aaf(args:List AV)(objs:List Ob):Option (Dt×Int×Int):=match args,objs with
 | [.dat T0 a,.ptr n1 p1 o1,.ptr n2 p2 o2],[.box T3 (.dat T4 b),.box T5 (.dat T6 c)]=>bif (Nat.beq T0 26&&(Nat.beq n1 0&&(natsB p1 []&&(Nat.beq o1 0&&(Nat.beq n2 1&&(natsB p2 []&&(Nat.beq o2 0&&(Nat.beq T3 3&&(Nat.beq T4 3&&(Nat.beq T5 3&&Nat.beq T6 3))))))))))then some (a,b.toInt,c.toInt)else none
 |_,_=>none
theorem VQ{args:List AV}{objs:List Ob}{l:Dt×Int×Int}(h:aaf args objs=some l):CnA Tryz.prog args [.dat 26 l.1,.ptr 0 [] 0,.ptr 1 [] 0]∧CnOL Tryz.prog objs [.box 3 (.dat 3 (.int l.2.1)),.box 3 (.dat 3 (.int l.2.2))]:=by
 unfold aaf at h;split at h
 ·obtain⟨hc,a⟩:=aN h;cases a;have e0:=beq_eq (bg hc);have hc:=aO hc;have e1:=beq_eq (bg hc);have hc:=aO hc;have e2:=sW (bg hc);have hc:=aO hc;have e3:=beq_eq (bg hc);have hc:=aO hc;have e4:=beq_eq (bg hc);have hc:=aO hc;have e5:=sW (bg hc);have hc:=aO hc;have e6:=beq_eq (bg hc);have hc:=aO hc;have e7:=beq_eq (bg hc);have hc:=aO hc;have e8:=beq_eq (bg hc);have hc:=aO hc;have e9:=beq_eq (bg hc);have hc:=aO hc;have e10:=beq_eq hc;subst e0 e1 e2 e3 e4 e5 e6 e7 e8 e9 e10;exact⟨(.cons (.of .same rfl rfl) (.cons (.of .same rfl rfl) (.cons (.of .same rfl rfl) .nil))),(.cons (.box (.dat (.int Tryz.underlying3))) (.cons (.box (.dat (.int Tryz.underlying3))) .nil))⟩
 ·cases h
def afM(args:List AV)(objs:List Ob):Option (Dt×Int×Int):=match args,objs with
 | [.dat T0 a,.fn T1 [.ptr n2 p2 o2,.ptr n3 p3 o3]],[.box T4 (.dat T5 b),.box T6 (.dat T7 c)]=>bif (Nat.beq T0 26&&(Nat.beq T1 236&&(Nat.beq n2 0&&(natsB p2 []&&(Nat.beq o2 0&&(Nat.beq n3 1&&(natsB p3 []&&(Nat.beq o3 0&&(Nat.beq T4 3&&(Nat.beq T5 3&&(Nat.beq T6 3&&Nat.beq T7 3)))))))))))then some (a,b.toInt,c.toInt)else none
 |_,_=>none
theorem afN{args:List AV}{objs:List Ob}{l:Dt×Int×Int}(h:afM args objs=some l):CnA Tryz.prog args [.dat 26 l.1,(.fn 236 [.ptr 0 [] 0,.ptr 1 [] 0])]∧CnOL Tryz.prog objs [.box 3 (.dat 3 (.int l.2.1)),.box 3 (.dat 3 (.int l.2.2))]:=by
 unfold afM at h;split at h
 ·obtain⟨hc,a⟩:=aN h;cases a;have e0:=beq_eq (bg hc);have hc:=aO hc;have e1:=beq_eq (bg hc);have hc:=aO hc;have e2:=beq_eq (bg hc);have hc:=aO hc;have e3:=sW (bg hc);have hc:=aO hc;have e4:=beq_eq (bg hc);have hc:=aO hc;have e5:=beq_eq (bg hc);have hc:=aO hc;have e6:=sW (bg hc);have hc:=aO hc;have e7:=beq_eq (bg hc);have hc:=aO hc;have e8:=beq_eq (bg hc);have hc:=aO hc;have e9:=beq_eq (bg hc);have hc:=aO hc;have e10:=beq_eq (bg hc);have hc:=aO hc;have e11:=beq_eq hc;subst e0 e1 e2 e3 e4 e5 e6 e7 e8 e9 e10 e11;exact⟨(.cons (.of .same rfl rfl) (.cons (.of (.fn (.cons .same (.cons .same .nil))) rfl rfl) .nil)),(.cons (.box (.dat (.int Tryz.underlying3))) (.cons (.box (.dat (.int Tryz.underlying3))) .nil))⟩
 ·cases h
section
variable{R:Type}(m:Nat)(args:List AV)(objs:List Ob)(K:Res->Option R)
def amg:Option R:=match afu args objs with
 |some l=>(i18 m l.1 l.2.1 l.2.2).bind fun r=>K ((.tup [.dat 3 (.int r.1),.dat 4 (.bool r.2)]),[])
 |none=>none
def amh:Option R:=match afw args objs with
 |some l=>(i19 m l.1 l.2.1 l.2.2).bind fun r=>K ((.dat 3 (.int r)),[])
 |none=>none
def ami{R:Type}(m:Nat)(args:List AV)(objs:List Ob)(K:Res->Option R):Option R:=match afy args objs with
 |some l=>(kS l.1 l.2.1 l.2.2).bind fun r=>K ((.row 2),[.gone,.gone,.row 75 r])
 |none=>none
def amj:Option R:=match afA args objs with
 |some l=>(eD m l.1 l.2).bind fun r=>K ((.agg 26 [.dat 3 (.int r.1),.dat 3 (.int r.2.1),.dat 9 (.str r.2.2.1),.row 0,.row 1]),[.row 23 r.2.2.2.1,.row 24 r.2.2.2.2])
 |none=>none
def amk:Option R:=match afC args objs with
 |some l=>(i24 m l).bind fun r=>K ((.tup []),[.row 23 r])
 |none=>none
def aml:Option R:=match afE args objs with
 |some l=>(i25 m l.1 l.2).bind fun r=>K ((.tup []),[.row 23 r])
 |none=>none
def afO:Option R:=match afG args objs with
 |some l=>(i26 m l.1 l.2.1 l.2.2).bind fun r=>K ((.tup []),[.row 23 r])
 |none=>none
def afP:Option R:=match VP args objs with
 |some l=>(i28 m l.1 l.2.1 l.2.2.1 l.2.2.2).bind fun r=>K ((.tup []),[.row 23 r])
 |none=>none
def afQ:Option R:=match VP args objs with
 |some l=>(i29 m l.1 l.2.1 l.2.2.1 l.2.2.2).bind fun r=>K ((.tup []),[.row 23 r])
 |none=>none
def afR:Option R:=match VP args objs with
 |some l=>(i30 m l.1 l.2.1 l.2.2.1 l.2.2.2).bind fun r=>K ((.tup []),[.row 23 r])
 |none=>none
def afS:Option R:=match afI args objs with
 |some l=>(i50 m l.1 l.2.1 l.2.2).bind fun r=>K ((.dat 31 (.int r.1)),[.box 3 (.dat 3 (.int r.2))])
 |none=>none
def afT:Option R:=match Xr args objs with
 |some l=>(dx m l).bind fun r=>K ((.agg 26 [.dat 3 (.int r.1),.dat 3 (.int r.2.1),.dat 9 (.str r.2.2.1),.row 0,.row 1]),[.row 23 r.2.2.2.1,.row 24 r.2.2.2.2])
 |none=>none
def afU:Option R:=match afK args objs with
 |some l=>(i95 m l.1 l.2.1 l.2.2).bind fun r=>K ((.tup []),[.box 3 (.dat 3 (.int r.1)),.box 3 (.dat 3 (.int r.2))])
 |none=>match afM args objs with
 |some l=>(i97 m l.1 l.2.1 l.2.2).bind fun r=>K ((.tup []),[.box 3 (.dat 3 (.int r.1)),.box 3 (.dat 3 (.int r.2))])
 |none=>none
def afV:Option R:=match aaf args objs with
 |some l=>(i96 m l.1 l.2.1 l.2.2).bind fun r=>K ((.dat 4 (.bool r.1)),[.box 3 (.dat 3 (.int r.2.1)),.box 3 (.dat 3 (.int r.2.2))])
 |none=>none
def afW:Option R:=match aaf args objs with
 |some l=>(i98 m l.1 l.2.1 l.2.2).bind fun r=>K ((.dat 4 (.bool r.1)),[.box 3 (.dat 3 (.int r.2.1)),.box 3 (.dat 3 (.int r.2.2))])
 |none=>none
end
def d22(q:Res):Option (Int×Int×ByteArray×List Dt×List Dt):=match q with
 |(.agg T0 [.dat T1 a,.dat T2 b,.dat T3 c,.row n4,.row n5],[.row T6 d,.row T7 e])=>bif (Nat.beq T0 26&&(Nat.beq T1 3&&(Nat.beq T2 3&&(Nat.beq T3 9&&(Nat.beq n4 0&&(Nat.beq n5 1&&(Nat.beq T6 23&&Nat.beq T7 24)))))))then some (a.toInt,b.toInt,c.toStr,d,e)else none
 |_=>none
theorem aag{b:Res}{r:Int×Int×ByteArray×List Dt×List Dt}(h:d22 b=some r):Sim Tryz.prog b ((.agg 26 [.dat 3 (.int r.1),.dat 3 (.int r.2.1),.dat 9 (.str r.2.2.1),.row 0,.row 1]),[.row 23 r.2.2.2.1,.row 24 r.2.2.2.2]):=by
 unfold d22 at h;split at h
 ·obtain⟨hc,a⟩:=aN h;cases a;have e0:=beq_eq (bg hc);have hc:=aO hc;have e1:=beq_eq (bg hc);have hc:=aO hc;have e2:=beq_eq (bg hc);have hc:=aO hc;have e3:=beq_eq (bg hc);have hc:=aO hc;have e4:=beq_eq (bg hc);have hc:=aO hc;have e5:=beq_eq (bg hc);have hc:=aO hc;have e6:=beq_eq (bg hc);have hc:=aO hc;have e7:=beq_eq hc;subst e0 e1 e2 e3 e4 e5 e6 e7;exact Sim.of (.of (.agg (.cons (.dat (.int Tryz.underlying3)) (.cons (.dat (.int Tryz.underlying3)) (.cons (.dat (.str Tryz.underlying9)) (.cons .same (.cons .same .nil)))))) rfl rfl) (.cons .same (.cons .same .nil))
 ·cases h
def d30(q:Res):Option (List Dt):=match q with
 |(.tup [],[.row T0 a])=>bif Nat.beq T0 23 then some a else none
 |_=>none
theorem BM{b:Res}{r:List Dt}(h:d30 b=some r):Sim Tryz.prog b ((.tup []),[.row 23 r]):=by
 unfold d30 at h;split at h
 ·obtain⟨hc,a⟩:=aN h;cases a;have e0:=beq_eq hc;subst e0;exact Sim.of (.tup .nil) (.cons .same .nil)
 ·cases h
def d95(q:Res):Option (Int×Int):=match q with
 |(.tup [],[.box T0 (.dat T1 a),.box T2 (.dat T3 b)])=>bif (Nat.beq T0 3&&(Nat.beq T1 3&&(Nat.beq T2 3&&Nat.beq T3 3)))then some (a.toInt,b.toInt)else none
 |_=>none
theorem aah{b:Res}{r:Int×Int}(h:d95 b=some r):Sim Tryz.prog b ((.tup []),[.box 3 (.dat 3 (.int r.1)),.box 3 (.dat 3 (.int r.2))]):=by
 unfold d95 at h;split at h
 ·obtain⟨hc,a⟩:=aN h;cases a;have e0:=beq_eq (bg hc);have hc:=aO hc;have e1:=beq_eq (bg hc);have hc:=aO hc;have e2:=beq_eq (bg hc);have hc:=aO hc;have e3:=beq_eq hc;subst e0 e1 e2 e3;exact Sim.of (.tup .nil) (.cons (.box (.dat (.int Tryz.underlying3))) (.cons (.box (.dat (.int Tryz.underlying3))) .nil))
 ·cases h
def d96(q:Res):Option (Bool×Int×Int):=match q with
 |(.dat T0 a,[.box T1 (.dat T2 b),.box T3 (.dat T4 c)])=>bif (Nat.beq T0 4&&(Nat.beq T1 3&&(Nat.beq T2 3&&(Nat.beq T3 3&&Nat.beq T4 3))))then some (a.toBool,b.toInt,c.toInt)else none
 |_=>none
theorem aai{b:Res}{r:Bool×Int×Int}(h:d96 b=some r):Sim Tryz.prog b ((.dat 4 (.bool r.1)),[.box 3 (.dat 3 (.int r.2.1)),.box 3 (.dat 3 (.int r.2.2))]):=by
 unfold d96 at h;split at h
 ·obtain⟨hc,a⟩:=aN h;cases a;have e0:=beq_eq (bg hc);have hc:=aO hc;have e1:=beq_eq (bg hc);have hc:=aO hc;have e2:=beq_eq (bg hc);have hc:=aO hc;have e3:=beq_eq (bg hc);have hc:=aO hc;have e4:=beq_eq hc;subst e0 e1 e2 e3 e4;exact Sim.of (.of (.dat (.bool Tryz.underlying4)) rfl rfl) (.cons (.box (.dat (.int Tryz.underlying3))) (.cons (.box (.dat (.int Tryz.underlying3))) .nil))
 ·cases h
def d50(q:Res):Option (Int×Int):=match q with
 |(.dat T0 a,[.box T1 (.dat T2 b)])=>bif (Nat.beq T0 31&&(Nat.beq T1 3&&Nat.beq T2 3))then some (a.toInt,b.toInt)else none
 |_=>none
theorem ajP{b:Res}{r:Int×Int}(h:d50 b=some r):Sim Tryz.prog b ((.dat 31 (.int r.1)),[.box 3 (.dat 3 (.int r.2))]):=by
 unfold d50 at h;split at h
 ·obtain⟨hc,a⟩:=aN h;cases a;have e0:=beq_eq (bg hc);have hc:=aO hc;have e1:=beq_eq (bg hc);have hc:=aO hc;have e2:=beq_eq hc;subst e0 e1 e2;exact Sim.of (.of (.dat (.int Tryz.underlying31)) rfl rfl) (.cons (.box (.dat (.int Tryz.underlying3))) .nil)
 ·cases h
def ctE(m:Nat)(f:FuncId):Option Ent:=
 bif Nat.beq f 5 then some ⟨ae8,gB,jo m⟩else
 bif Nat.beq f 8 then some ⟨Ym,gB,iN m⟩else
 bif Nat.beq f 10 then some ⟨ajK,gB,xI⟩else
 bif Nat.beq f 18 then some ⟨qO,gB,fF m⟩else
 bif Nat.beq f 21 then some ⟨L9,jY,bP m⟩else
 bif Nat.beq f 14 then some ⟨ae9,VL,jF m⟩else
 bif Nat.beq f 22 then some ⟨Ym,jY,cO m⟩else
 bif Nat.beq f 19 then some ⟨ae8,VL,iP m⟩else
 bif Nat.beq f 9 then some ⟨SG,Om,kC m⟩else
 bif Nat.beq f 16 then some ⟨afa,gB,i9 m⟩else
 bif Nat.beq f 53 then some ⟨afa,jY,i10 m⟩else
 bif Nat.beq f 33 then some ⟨qO,gB,iF m⟩else
 bif Nat.beq f 54 then some ⟨qO,jY,mH m⟩else
 bif Nat.beq f 55 then some ⟨qO,jY,mI m⟩else
 bif Nat.beq f 56 then some ⟨afb,gB,bF m⟩else
 bif Nat.beq f 60 then some ⟨Ma,jY,dQ m⟩else
 bif Nat.beq f 61 then some ⟨Z6,jY,jw m⟩else
 bif Nat.beq f 40 then some ⟨afc,res1,gT m⟩else
 bif Nat.beq f 45 then some ⟨L9,jY,aW m⟩else
 bif Nat.beq f 48 then some ⟨AA,res1,gU m⟩else
 bif Nat.beq f 50 then some ⟨L9,jY,dB m⟩else
 bif Nat.beq f 23 then some ⟨Mc,res2,uJ m⟩else
 bif Nat.beq f 57 then some ⟨afd,ajL,i32 m⟩else
 bif Nat.beq f 58 then some ⟨qO,res1,bR m⟩else
 bif Nat.beq f 34 then some ⟨afe,ajM,fG m⟩else
 bif Nat.beq f 92 then some ⟨EZ,jY,eO m⟩else
 bif Nat.beq f 93 then some ⟨EZ,jY,iM m⟩else
 bif Nat.beq f 94 then some ⟨wG,gB,p9 m⟩else
 bif Nat.beq f 95 then some ⟨afb,gB,dz m⟩else
 bif Nat.beq f 82 then some ⟨SG,Om,qh m⟩else
 bif Nat.beq f 84 then some ⟨Md,res1,bU m⟩else
 bif Nat.beq f 83 then some ⟨qO,res1,bO m⟩else
 bif Nat.beq f 86 then some ⟨Ma,jY,eX m⟩else
 bif Nat.beq f 87 then some ⟨Z6,jY,strings_Compare⟩else
 bif Nat.beq f 62 then some ⟨Mc,jY,zR m⟩else
 bif Nat.beq f 75 then some ⟨SG,Om,qb m⟩else
 bif Nat.beq f 133 then some ⟨qO,VL,ku m⟩else
 bif Nat.beq f 134 then some ⟨aff,gB,p8 m⟩else
 bif Nat.beq f 97 then some ⟨wG,gB,gY m⟩else
 bif Nat.beq f 135 then some ⟨wG,gB,mQ m⟩else
 bif Nat.beq f 158 then some ⟨SG,Om,jR m⟩else
 bif Nat.beq f 121 then some ⟨Md,res1,dA m⟩else
 bif Nat.beq f 122 then some ⟨qO,gB,kH m⟩else
 bif Nat.beq f 123 then some ⟨ajK,res1,cB m⟩else
 bif Nat.beq f 128 then some ⟨AA,gB,qw m⟩else
 bif Nat.beq f 65 then some ⟨E8,gB,iO m⟩else
 bif Nat.beq f 108 then some ⟨L9,gB,bH m⟩else
 bif Nat.beq f 107 then some ⟨E8,gB,mJ m⟩else
 bif Nat.beq f 106 then some ⟨AA,jY,ow m⟩else
 bif Nat.beq f 147 then some ⟨E8,gB,mU m⟩else
 bif Nat.beq f 206 then some ⟨wG,gB,kD m⟩else
 bif Nat.beq f 208 then some ⟨qO,gB,oz m⟩else
 bif Nat.beq f 207 then some ⟨E8,gB,eY m⟩else
 bif Nat.beq f 205 then some ⟨AA,jY,oC m⟩else
 bif Nat.beq f 204 then some ⟨Ma,gB,oN m⟩else
 bif Nat.beq f 159 then some ⟨afg,res1,bY m⟩else
 bif Nat.beq f 160 then some ⟨Md,res1,dF m⟩else
 bif Nat.beq f 161 then some ⟨I8,res1,dX m⟩else
 bif Nat.beq f 162 then some ⟨Ma,res1,jg m⟩else
 bif Nat.beq f 163 then some ⟨I8,res1,gH m⟩else
 bif Nat.beq f 164 then some ⟨I8,res1,dZ⟩else
 bif Nat.beq f 165 then some ⟨I8,res1,dM m⟩else
 bif Nat.beq f 166 then some ⟨AA,res1,bS m⟩else
 bif Nat.beq f 167 then some ⟨Ym,res1,oF m⟩else
 bif Nat.beq f 168 then some ⟨ae9,res1,eF m⟩else
 bif Nat.beq f 169 then some ⟨qO,jY,mK m⟩else
 bif Nat.beq f 170 then some ⟨qO,jY,mM m⟩else
 bif Nat.beq f 171 then some ⟨qO,gB,bM m⟩else
 bif Nat.beq f 197 then some ⟨VK,gB,i79 m⟩else
 bif Nat.beq f 230 then some ⟨VK,jY,i80 m⟩else
 bif Nat.beq f 198 then some ⟨wG,gB,mR m⟩else
 bif Nat.beq f 209 then some ⟨qO,res1,gW m⟩else
 bif Nat.beq f 210 then some ⟨qO,gB,eu m⟩else
 bif Nat.beq f 211 then some ⟨Ma,jY,iJ m⟩else
 bif Nat.beq f 212 then some ⟨afh,res1,bW m⟩else
 bif Nat.beq f 141 then some ⟨L9,gB,jE m⟩else
 bif Nat.beq f 217 then some ⟨afi,res1,kE m⟩else
 bif Nat.beq f 119 then some ⟨afj,res1,rJ m⟩else
 bif Nat.beq f 218 then some ⟨EZ,jY,kF m⟩else
 bif Nat.beq f 219 then some ⟨EZ,jY,kG m⟩else
 bif Nat.beq f 220 then some ⟨wG,gB,utf8_ValidString⟩else
 bif Nat.beq f 221 then some ⟨afk,gB,bK m⟩else
 bif Nat.beq f 157 then some ⟨Mc,jY,qc m⟩else
 bif Nat.beq f 238 then some ⟨wG,gB,mW m⟩else
 none
def ctX{R:Type}(m:Nat)(f:FuncId)(args:List AV)(objs:List Ob)(K:Res->Option R):Option R:=
 bif Nat.beq f 43 then amg m args objs K else
 bif Nat.beq f 44 then amh m args objs K else
 bif Nat.beq f 46 then ami m args objs K else
 bif Nat.beq f 47 then amj m args objs K else
 bif Nat.beq f 49 then amk m args objs K else
 bif Nat.beq f 90 then aml m args objs K else
 bif Nat.beq f 131 then afO m args objs K else
 bif Nat.beq f 132 then afP m args objs K else
 bif Nat.beq f 190 then afQ m args objs K else
 bif Nat.beq f 225 then afR m args objs K else
 bif Nat.beq f 120 then afS m args objs K else
 bif Nat.beq f 156 then afT m args objs K else
 bif Nat.beq f 234 then afU m args objs K else
 bif Nat.beq f 235 then afV m args objs K else
 bif Nat.beq f 236 then afW m args objs K else
 none
def ct{R:Type}(m:Nat)(f:FuncId)(args:List AV)(objs:List Ob)(K:Res->Option R):Option R:=match ctE m f with
 |some e=>e.run args objs K
 |none=>ctX m f args objs K
section
variable{R:Type}{P:Program}{E:Env}{call:FuncId->List AV->List Ob->(Res->Option R)->Option R}{m n M:Nat}{f:FuncId}{fn:Func}{dec:Res->Option R}{p ms:List Nat}{σ:St}{g:(Nat->Nat->Nat->St->Option R->Option R)->Option R}{r:Option R}
theorem tq(e:g jn=r)(h:∀J,evAt P E call J m f n fn dec p ms σ=g J:=by intro J;kernel_rfl):evAt P E call jn m f n fn dec p ms σ=r:=(h jn).trans e
theorem tl(e:g jn=r)(h:∀J,loopAt P E call J m f n fn dec p ms M σ=g J:=by intro J;kernel_rfl):loopAt P E call jn m f n fn dec p ms M σ=r:=(h jn).trans e
end
end Go.Proofs.YtmecfjhdnbgfeaaGreatDoor
noncomputable section
namespace Go.Proofs.YtmecfjhdnbgfeaaGreatDoor
open Nat (succ)
open IntKind (wrap)
open Go.Am Dt
set_option maxRecDepth 100000
def e15(J:Q1)(m:Nat):=evAt Tryz.prog env (ct m) J (m+1) 60 11 Tryz.f60 d15
theorem Oo m a b:e15 jn m [] [] ⟨[.dat 3 (.int a),.dat 3 (.int b)],[],0⟩=dQ (m+1) a b:=
 tq (g:=fun J=>cond (a<b) (some (-1)) (cond (b<a) (some 1) (some 0))) (by rfl)
def e16(J:Q1)(m:Nat):=evAt Tryz.prog env (ct m) J (m+1) 61 39 Tryz.f61 d15
def l16(J:Q1)(m:Nat):=loopAt Tryz.prog env (ct m) J (m+1) 61 39 Tryz.f61 d15
def afX(a b:ByteArray)(c:Int):St:=⟨tsOf [(0,.dat 9 (.str a)),(1,.dat 9 (.str b)),(5,.dat 3 (.int c))],[],0⟩
theorem wH m:∀d b c a,l16 jn m [1,0,1,0] [] d (afX b c a)=oo m d b c a
 |0,_,_,_=>rfl
 |d+1,b,c,a=>
  tl (g:=fun J=>cond (a<(b.size:Int)) (bif a<(c.size:Int)then(idxS b a).bind fun f=>(idxS c a).bind fun h=>cond (f !=h) ((idxS b a).bind fun i=>(idxS c a).bind fun j=>(dQ m (wrap .i64 i) (wrap .i64 j)).bind fun k=>some k) (jj J 1 2 d (afX b c (wrap .i64 (a+1))) (l16 J m [1,0,1,0] [] d))else(dQ m (b.size:Int) (c.size:Int)).bind fun e=>some e) ((dQ m (b.size:Int) (c.size:Int)).bind fun e=>some e)) (by simp only[aT,(wH m d)];rfl)
theorem Mh m a b:e16 jn m [] [] ⟨[.dat 9 (.str a),.dat 9 (.str b)],[],0⟩=jw (m+1) a b:=
 tq (g:=fun J=>jj J 1 2 (succ m) (afX a b 0) (l16 J m [1,0,1,0] [] (succ m))) (by simp only[aT,wH m];rfl)
def VR:List Nat:=[1,1,0,1,0,1]
def I9:List Nat:=VR++[1,1]
def amm:List Nat:=I9++[1,1,0,1]
def aqu:List Nat:=I9++[1,1,0,0,1]
def amn:List Nat:=aqu++[0]
def amo:List Nat:=I9++[1,1,1,1,0,1]
def aoJ:List Nat:=I9++[1,1,1,1,0,0,1]
def afY:List Nat:=aoJ++[0]
def aqv:List Nat:=afY++[0,1]
def amq:List Nat:=aqv++[0,0,1,1]
def e4(J:Q1)(m:Nat):=evAt Tryz.prog env (ct m) J (m+1) 21 130 Tryz.f21 d15
def l4(J:Q1)(m:Nat):=loopAt Tryz.prog env (ct m) J (m+1) 21 130 Tryz.f21 d15
def amr(a:Int)(b c:Dt):St:=⟨tsOf [(2,.ptr 0 [] 0),(3,.ptr 1 [] 0),(5,.dat 3 (.int a))],[.box 26 (.dat 26 b),.box 26 (.dat 26 c)],0⟩
def acP(a b:Dt):St:=⟨tsOf [(2,.ptr 0 [] 0),(3,.ptr 1 [] 0)],[.box 26 (.dat 26 a),.box 26 (.dat 26 b)],0⟩
def aaj(a:Int)(b c:Dt):St:=⟨tsOf [(2,.ptr 0 [] 0),(3,.ptr 1 [] 0),(7,.dat 3 (.int a))],[.box 26 (.dat 26 b),.box 26 (.dat 26 c)],0⟩
def afZ(a b:Int)(c d:Dt):St:=⟨tsOf [(2,.ptr 0 [] 0),(3,.ptr 1 [] 0),(7,.dat 3 (.int a)),(8,.dat 3 (.int b))],[.box 26 (.dat 26 c),.box 26 (.dat 26 d)],0⟩
def ajQ(a:Int)(b:Bool)(c d:Dt):St:=⟨tsOf [(2,.ptr 0 [] 0),(3,.ptr 1 [] 0),(20,.dat 3 (.int a)),(30,.dat 4 (.bool b))],[.box 26 (.dat 26 c),.box 26 (.dat 26 d)],0⟩
def ajR(a:Int)(b:Bool)(c d:Dt):St:=⟨tsOf [(2,.ptr 0 [] 0),(3,.ptr 1 [] 0),(20,.dat 3 (.int a)),(21,.dat 4 (.bool b))],[.box 26 (.dat 26 c),.box 26 (.dat 26 d)],0⟩
theorem BU m a b:e4 jn m amm [] (acP a b)=lg m (bP m) a b:=
 tq (g:=fun J=>(dQ m ((L a 3).length:Int) ((L b 3).length:Int)).bind fun c=>some c) (by rfl)
theorem ug m:∀d a b c,l4 jn m amn [] d (amr a b c)=lC m (bP m) d a b c
 |0,_,_,_=>rfl
 |d+1,a,b,c=>
  tl (g:=fun J=>cond (a<((L b 3).length:Int)) (bif a<((L c 3).length:Int)then(idx (L b 3) a).bind fun f=>(idx (L c 3) a).bind fun h=>(bP m f h).bind fun e=>cond (e !=0) (some e) (jj J 1 14 d (amr (wrap .i64 (a+1)) b c) (l4 J m amn [] d))else jj J 0 19 0 (acP b c) (e4 J m amm [])) (jj J 0 19 0 (acP b c) (e4 J m amm []))) (by simp only[aT,(ug m d),BU m];rfl)
abbrev aqw(m e:Nat)(a:Q30):Prop:=∀b c d,l4 jn m afY [] e (aaj b c d)=a b c d
theorem AL m b a(h:aqw m b a) d c e f:e4 jn m amq [b] (afZ d c e f)=nS m (bP m) a d c e f:=
 tq (g:=fun J=>cond (c !=0) (some c) (jj J 1 22 b (aaj (wrap .i64 (d+1)) e f) (l4 J m afY [] b))) (by simp only[aT,h];rfl)
theorem AO m a b:e4 jn m amo [] (acP a b)=kr m (bP m) a b:=
 tq (g:=fun J=>(dQ m ((L a 4).length:Int) ((L b 4).length:Int)).bind fun c=>some c) (by rfl)
theorem uh m:∀d a b c,l4 jn m afY [] d (aaj a b c)=gX m (bP m) d a b c
 |0,_,_,_=>rfl
 |d+1,a,b,c=>
  tl (g:=fun J=>cond (a<((L b 4).length:Int)) (bif a<((L c 4).length:Int)then(idx (L b 4) a).bind fun j=>(idx (L c 4) a).bind fun k=>(jw m (S j 0) (S k 0)).bind fun i=>cond (i==0) ((idx (L b 4) a).bind fun e=>(idx (L c 4) a).bind fun f=>(bP m (fld e 1) (fld f 1)).bind fun h=>jj J 0 27 0 (afZ a h b c) (e4 J m amq [d])) (jj J 0 27 0 (afZ a i b c) (e4 J m amq [d]))else jj J 0 29 0 (acP b c) (e4 J m amo [])) (jj J 0 29 0 (acP b c) (e4 J m amo []))) (by simp only[aT,AL m d (gX m (bP m) d) (uh m d),AO m];rfl)
theorem BX m c d a b:e4 jn m I9 [] (ajQ c d a b)=lD m (bP m) c d a b:=
 tq (g:=fun J=>cond d ((jw m (S a 2) (S b 2)).bind fun e=>some e) (cond (c==6) (jj J 1 14 (succ m) (amr 0 a b) (l4 J m amn [] (succ m))) (cond (c==5) (jj J 1 22 (succ m) (aaj 0 a b) (l4 J m afY [] (succ m))) (some 0)))) (by simp only[aT,ug m,uh m];rfl)
theorem BZ m a d b c:e4 jn m VR [] (ajR a d b c)=lF m (bP m) a d b c:=
 tq (g:=fun J=>cond d ((dQ m (I b 1) (I c 1)).bind fun e=>some e) (cond (a==4) (jj J 0 11 0 (ajQ a (a==4) b c) (e4 J m I9 [])) (cond (a==7) (jj J 0 11 0 (ajQ a (a==7) b c) (e4 J m I9 [])) (jj J 0 11 0 (ajQ a (a==8) b c) (e4 J m I9 []))))) (by simp only[aT,BX m];rfl)
theorem GZ m a b:e4 jn m [] [] ⟨[.dat 26 a,.dat 26 b],[],0⟩=bP (m+1) a b:=
 tq (g:=fun J=>cond (I a 0 !=I b 0) ((dQ m (I a 0) (I b 0)).bind fun c=>some c) (cond (I a 0==3) (jj J 0 7 0 (ajR (I a 0) (I a 0==3) a b) (e4 J m VR [])) (cond (I a 0==9) (jj J 0 7 0 (ajR (I a 0) (I a 0==9) a b) (e4 J m VR [])) (jj J 0 7 0 (ajR (I a 0) (I a 0==10) a b) (e4 J m VR []))))) (by simp only[aT,BZ m];rfl)
def e23(J:Q4)(m:Nat):=evAt Tryz.prog env (ct m) J (m+1) 48 5 Tryz.f48 d23
theorem Dv m a:e23 jn m [] [] ⟨[.dat 3 (.int a)],[],0⟩=gU (m+1) a:=
 tq (g:=fun J=>some (agg [int 3,int a,str (ByteArray.mk (List.toArray [])),lst [],lst []])) (by rfl)
def e22(J:Q46)(m:Nat):=evAt Tryz.prog env (ct m) J (m+1) 47 12 Tryz.f47 d22
theorem Dw m a b:e22 jn m [] [] ⟨[.dat 26 a,.dat 3 (.int b)],[],0⟩=eD (m+1) a b:=
 tq (g:=fun J=>(gU m b).bind fun c=>some (5,0,ByteArray.mk (List.toArray []),[],[agg [str (ByteArray.mk (List.toArray [95,105,100])),a],agg [str (ByteArray.mk (List.toArray [99,111,117,110,116])),c]])) (by rfl)
def e30(J:Q10)(m:Nat):=evAt Tryz.prog env (ct m) J (m+1) 225 38 Tryz.f225 d30
def l30(J:Q10)(m:Nat):=loopAt Tryz.prog env (ct m) J (m+1) 225 38 Tryz.f225 d30
def af0(a b c d:Int)(e:List Dt):St:=⟨tsOf [(0,.row 0),(1,.dat 3 (.int a)),(2,.dat 3 (.int b)),(3,.dat 3 (.int c)),(10,.dat 3 (.int d))],[.row 23 e],1⟩
theorem P5 m:∀e c d f a b,l30 jn m [1,0] [] e (af0 c d f a b)=FV m e c d f a b
 |0,_,_,_,_,_=>rfl
 |e+1,c,d,f,a,b=>
  tl (g:=fun J=>cond (a<f) ((inL b (wrap .i64 (d+a))).bind fun j=>(b[(wrap .i64 (d+a)).toNat]?).bind fun h=>(inL b (wrap .i64 (c+a))).bind fun k=>(b[(wrap .i64 (c+a)).toNat]?).bind fun i=>(inL b (wrap .i64 (c+a))).bind fun l=>(b[(wrap .i64 (c+a)).toNat]?).bind fun n=>(inL (List.set b (wrap .i64 (c+a)).toNat h) (wrap .i64 (d+a))).bind fun o=>((List.set b (wrap .i64 (c+a)).toNat h)[(wrap .i64 (d+a)).toNat]?).bind fun p=>jj J 1 1 e (af0 c d f (wrap .i64 (a+1)) (List.set (List.set b (wrap .i64 (c+a)).toNat h) (wrap .i64 (d+a)).toNat i)) (l30 J m [1,0] [] e)) (some b)) (by simp only[aT,(P5 m e)];rfl)
theorem ams m a b c d:e30 jn m [] [] ⟨[.row 0,.dat 3 (.int a),.dat 3 (.int b),.dat 3 (.int c),.fn 50 []],[.row 23 d],1⟩=i30 (m+1) a b c d:=
 tq (g:=fun J=>jj J 1 1 (succ m) (af0 a b c 0 d) (l30 J m [1,0] [] (succ m))) (by simp only[aT,P5 m];rfl)
def e29(J:Q10)(m:Nat):=evAt Tryz.prog env (ct m) J (m+1) 190 58 Tryz.f190 d30
def l29(J:Q10)(m:Nat):=loopAt Tryz.prog env (ct m) J (m+1) 190 58 Tryz.f190 d30
def aak(a b c:Int)(d:List Dt):St:=⟨tsOf [(0,.row 0),(2,.dat 3 (.int a)),(4,.fn 50 []),(10,.dat 3 (.int b)),(11,.dat 3 (.int c))],[.row 23 d],1⟩
theorem P6 m:∀d b a c e,l29 jn m [1,1,0,0] [] d (aak b a c e)=zM m d b a c e
 |0,_,_,_,_=>rfl
 |d+1,b,a,c,e=>
  tl (g:=fun J=>cond (a !=c) (bif c<a then(i30 m (wrap .i64 (b-a)) b c e).bind fun f=>jj J 1 2 d (aak b (wrap .i64 (a-c)) c f) (l29 J m [1,1,0,0] [] d)else(i30 m (wrap .i64 (b-a)) (wrap .i64 (wrap .i64 (b+c)-a)) a e).bind fun h=>jj J 1 2 d (aak b a (wrap .i64 (c-a)) h) (l29 J m [1,1,0,0] [] d)) ((i30 m (wrap .i64 (b-a)) b a e).bind fun i=>some i)) (by simp only[aT,(P6 m d)];rfl)
theorem amt m b a c d:e29 jn m [] [] ⟨[.row 0,.dat 3 (.int b),.dat 3 (.int a),.dat 3 (.int c),.fn 50 []],[.row 23 d],1⟩=i29 (m+1) b a c d:=
 tq (g:=fun J=>jj J 1 2 (succ m) (aak a (wrap .i64 (a-b)) (wrap .i64 (c-a)) d) (l29 J m [1,1,0,0] [] (succ m))) (by simp only[aT,P6 m];rfl)
def af2:List Nat:=[1,1,1,0,1,0]
def aoK:List Nat:=[1,1,1,1,0,1]
def af3:List Nat:=aoK++[0]
def e33(J:Q4)(m:Nat):=evAt Tryz.prog env (ct m) J (m+1) 58 46 Tryz.f58 d23
def l33(J:Q4)(m:Nat):=loopAt Tryz.prog env (ct m) J (m+1) 58 46 Tryz.f58 d23
def af4(a:List Dt)(b c:Int)(d e:Dt)(f g:Int)(h:ByteArray)(i j:List Dt):St:=⟨tsOf [(1,.ptr 0 [] 0),(2,.ptr 1 [] 0),(3,.ptr 2 [] 0),(12,.dat 23 (.lst a)),(13,.dat 3 (.int b)),(14,.dat 3 (.int c))],[.box 26 (.dat 26 d),.box 26 (.dat 26 e),.box 26 (.agg 26 [.dat 3 (.int f),.dat 3 (.int g),.dat 9 (.str h),.row 3,.row 4]),.row 23 i,.row 24 j],0⟩
def af5(a:List Dt)(b c:Int)(d:Dt)(e f:Int)(g:ByteArray)(h i:List Dt):St:=⟨tsOf [(2,.ptr 0 [] 0),(3,.ptr 1 [] 0),(27,.dat 24 (.lst a)),(28,.dat 3 (.int b)),(29,.dat 3 (.int c))],[.box 26 (.dat 26 d),.box 26 (.agg 26 [.dat 3 (.int e),.dat 3 (.int f),.dat 9 (.str g),.row 2,.row 3]),.row 23 h,.row 24 i],0⟩
theorem qz m:∀a c d b k e f h i j,l33 jn m af3 [] a (af5 c d b k e f h i j)=iL m (bR m) a c d b k e f h i j
 |0,_,_,_,_,_,_,_,_,_=>rfl
 |a+1,c,d,b,k,e,f,h,i,j=>
  tl (g:=fun J=>cond (b<d) ((idx c b).bind fun l=>(bR m (fld l 1)).bind fun n=>(app j [agg [str (S l 0),n]]).bind fun o=>jj J 1 9 a (af5 c d (wrap .i64 (b+1)) k e f h i o) (l33 J m af3 [] a)) (some (agg [int e,int f,str h,lst i,lst j]))) (by simp only[aT,(qz m a)];rfl)
theorem qA m:∀a d e b c f h i j k l,l33 jn m af2 [] a (af4 d e b c f h i j k l)=fV m (bR m) a d e b c f h i j k l
 |0,_,_,_,_,_,_,_,_,_,_=>rfl
 |a+1,d,e,b,c,f,h,i,j,k,l=>
  tl (g:=fun J=>cond (b<e) ((idx d b).bind fun n=>(bR m n).bind fun o=>(app k [o]).bind fun p=>jj J 1 4 a (af4 d e (wrap .i64 (b+1)) c f h i j p l) (l33 J m af2 [] a)) (jj J 1 9 (succ m) (af5 (L c 4) ((L c 4).length:Int) 0 f h i j k l) (l33 J m af3 [] (succ m)))) (by simp only[aT,(qA m a),qz m];rfl)
theorem AP m a:e33 jn m [] [] ⟨[.dat 26 a],[],0⟩=bR (m+1) a:=
 tq (g:=fun J=>jj J 1 4 (succ m) (af4 (L a 3) ((L a 3).length:Int) 0 a aC (I a 0) (I a 1) (S a 2) [] []) (l33 J m af2 [] (succ m))) (by simp only[aT,qA m];rfl)
def aoL:List Nat:=[1,1,0,1,0,1,1]
def VU:List Nat:=aoL++[0]
def aoM:List Nat:=[1,1,1,0,1,0,1,1]
def Fh:List Nat:=aoM++[0]
def af6:List Nat:=VU++[0,1,1]
def akJ:List Nat:=af6++[1]
def VW:List Nat:=Fh++[0,1,1]
def aal:List Nat:=VW++[1]
def e41(J:Q4)(m:Nat):=evAt Tryz.prog env (ct m) J (m+1) 83 68 Tryz.f83 d23
def l41(J:Q4)(m:Nat):=loopAt Tryz.prog env (ct m) J (m+1) 83 68 Tryz.f83 d23
def Ja(a:List Dt)(b c:Int)(d e:Dt)(f g:Int)(h:ByteArray)(i:List Dt):St:=⟨tsOf [(1,.ptr 0 [] 0),(2,.ptr 1 [] 0),(3,.ptr 2 [] 0),(25,.dat 23 (.lst a)),(26,.dat 3 (.int b)),(27,.dat 3 (.int c))],[.box 26 (.dat 26 d),.box 26 (.dat 26 e),.box 26 (.agg 26 [.dat 3 (.int f),.dat 3 (.int g),.dat 9 (.str h),.row 3,.nils 24]),.row 23 i],0⟩
def Jb(a:List Dt)(b c:Int)(d:Dt)(e f:Int)(g:ByteArray)(h i:List Dt):St:=⟨tsOf [(2,.ptr 0 [] 0),(3,.ptr 1 [] 0),(49,.dat 24 (.lst a)),(50,.dat 3 (.int b)),(51,.dat 3 (.int c))],[.box 26 (.dat 26 d),.box 26 (.agg 26 [.dat 3 (.int e),.dat 3 (.int f),.dat 9 (.str g),.row 2,.row 3]),.row 23 h,.row 24 i],0⟩
def akK(a:Dt)(b c:Int)(d:ByteArray)(e f:List Dt):St:=⟨tsOf [(2,.ptr 0 [] 0),(3,.ptr 1 [] 0)],[.box 26 (.dat 26 a),.box 26 (.agg 26 [.dat 3 (.int b),.dat 3 (.int c),.dat 9 (.str d),.row 2,.row 3]),.row 23 e,.row 24 f],0⟩
def af7(a:Dt)(b c:Int)(d:ByteArray)(e:List Dt):St:=⟨tsOf [(2,.ptr 0 [] 0),(3,.ptr 1 [] 0)],[.box 26 (.dat 26 a),.box 26 (.agg 26 [.dat 3 (.int b),.dat 3 (.int c),.dat 9 (.str d),.row 2,.nils 24]),.row 23 e],0⟩
def akL(a b:Dt)(c d:Int)(e:ByteArray)(f:List Dt):St:=⟨tsOf [(1,.ptr 0 [] 0),(2,.ptr 1 [] 0),(3,.ptr 2 [] 0)],[.box 26 (.dat 26 a),.box 26 (.dat 26 b),.box 26 (.agg 26 [.dat 3 (.int c),.dat 3 (.int d),.dat 9 (.str e),.row 3,.nils 24]),.row 23 f],0⟩
def AQ(a:List Dt)(b c:Int)(d:Dt)(e f:Int)(g:ByteArray)(h i:List Dt):St:=⟨tsOf [(2,.ptr 0 [] 0),(3,.ptr 1 [] 0),(49,.dat 24 (.lst a)),(50,.dat 3 (.int b)),(51,.dat 3 (.int c))],[.box 26 (.dat 26 d),.box 26 (.agg 26 [.dat 3 (.int e),.dat 3 (.int f),.dat 9 (.str g),.dat 23 (.lst h),.row 2]),.row 24 i],0⟩
def af8(a:Dt)(b c:Int)(d:ByteArray)(e f:List Dt):St:=⟨tsOf [(2,.ptr 0 [] 0),(3,.ptr 1 [] 0)],[.box 26 (.dat 26 a),.box 26 (.agg 26 [.dat 3 (.int b),.dat 3 (.int c),.dat 9 (.str d),.dat 23 (.lst e),.row 2]),.row 24 f],0⟩
def af9(a b:Dt):St:=⟨tsOf [(2,.ptr 0 [] 0),(3,.ptr 1 [] 0)],[.box 26 (.dat 26 a),.box 26 (.dat 26 b)],0⟩
def aga(a b c:Dt):St:=⟨tsOf [(1,.ptr 0 [] 0),(2,.ptr 1 [] 0),(3,.ptr 2 [] 0)],[.box 26 (.dat 26 a),.box 26 (.dat 26 b),.box 26 (.dat 26 c)],0⟩
abbrev akM(m k:Nat)(a:Q50):Prop:=∀b c d e f g h i j,l41 jn m VU [] k (Ja b c d e f g h i j)=a b c d e f g h i j
theorem G5 m b a(n:akM m b a) c d e f h i j k l:e41 jn m akJ [b] (Ja c d e f h i j k l)=wX m (bO m) a c d e f h i j k l:=
 tq (g:=fun J=>jj J 1 5 b (Ja c d (wrap .i64 (e+1)) f h i j k l) (l41 J m VU [] b)) (by simp only[aT,n];rfl)
theorem G6 m d a(n:akM m d a) e f b h i j k l c:e41 jn m af6 [d] (Ja e f b h i j k l c)=wY m (bO m) a e f b h i j k l c:=
 tq (g:=fun J=>(idx e b).bind fun o=>(bO m o).bind fun p=>(inL c b).bind fun q=>(c[b.toNat]?).bind fun r=>jj J 0 8 0 (Ja e f b h i j k l (List.set c b.toNat p)) (e41 J m akJ [d])) (by simp only[aT,G5 m d a n];rfl)
abbrev akN(m k:Nat)(a:Q16):Prop:=∀b c d e f g h i j,l41 jn m Fh [] k (Jb b c d e f g h i j)=a b c d e f g h i j
theorem G7 m b a(n:akN m b a) c d e f h i j k l:e41 jn m aal [b] (Jb c d e f h i j k l)=wZ m (bO m) a c d e f h i j k l:=
 tq (g:=fun J=>jj J 1 12 b (Jb c d (wrap .i64 (e+1)) f h i j k l) (l41 J m Fh [] b)) (by simp only[aT,n];rfl)
theorem G8 m d a(o:akN m d a) e f b h i j k l c:e41 jn m VW [d] (Jb e f b h i j k l c)=w9 m (bO m) a e f b h i j k l c:=
 tq (g:=fun J=>(idx e b).bind fun n=>(bO m (fld n 1)).bind fun p=>(inL c b).bind fun q=>(c[b.toNat]?).bind fun r=>jj J 0 15 0 (Jb e f b h i j k l (List.set c b.toNat (agg [str (S n 0),p]))) (e41 J m aal [d])) (by simp only[aT,G7 m d a o];rfl)
theorem G9 m f a b c d e:e41 jn m [1,1,1,1] [] (akK f a b c d e)=xg m (bO m) f a b c d e:=
 tq (g:=fun J=>some (agg [int a,int b,str c,lst d,lst e])) (by rfl)
theorem yu m:∀a k b c d e f h i j,l41 jn m Fh [] a (Jb k b c d e f h i j)=nL m (bO m) a k b c d e f h i j
 |0,_,_,_,_,_,_,_,_,_=>rfl
 |a+1,k,b,c,d,e,f,h,i,j=>
  tl (g:=fun J=>cond (c<b) (jj J 0 13 0 (Jb k b c d e f h i j) (e41 J m VW [a])) (jj J 0 16 0 (akK d e f h i j) (e41 J m [1,1,1,1] []))) (by simp only[aT,G8 m a (nL m (bO m) a) (yu m a),G9 m];rfl)
theorem Fj m e a b c d:e41 jn m [1,1,1,1] [] (af7 e a b c d)=zN m (bO m) e a b c d:=
 tq (g:=fun J=>some (agg [int a,int b,str c,lst d,lst []])) (by rfl)
theorem He m a b c d e f:e41 jn m [1,1,1] [] (akL a b c d e f)=xk m (bO m) a b c d e f:=
 tq (g:=fun J=>bif 0<((L a 4).length:Int)then(mkL ((L a 4).length:Int) ((L a 4).length:Int) Bq).bind fun h=>jj J 1 12 (succ m) (Jb (L a 4) ((L a 4).length:Int) 0 b c d e f h) (l41 J m Fh [] (succ m))else jj J 0 16 0 (af7 b c d e f) (e41 J m [1,1,1,1] [])) (by simp only[aT,yu m,Fj m];rfl)
theorem yw m:∀a k b c d e f h i j,l41 jn m VU [] a (Ja k b c d e f h i j)=kU m (bO m) a k b c d e f h i j
 |0,_,_,_,_,_,_,_,_,_=>rfl
 |a+1,k,b,c,d,e,f,h,i,j=>
  tl (g:=fun J=>cond (c<b) (jj J 0 6 0 (Ja k b c d e f h i j) (e41 J m af6 [a])) (jj J 0 9 0 (akL d e f h i j) (e41 J m [1,1,1] []))) (by simp only[aT,G6 m a (kU m (bO m) a) (yw m a),He m];rfl)
abbrev agb(m b:Nat)(a:Q16):Prop:=∀c d e f g h i j k,l41 jn m Fh [] b (AQ c d e f g h i j k)=a c d e f g h i j k
theorem Fp m b a(c:agb m b a) d e f h i j k l n:e41 jn m aal [b] (AQ d e f h i j k l n)=uL m (bO m) a d e f h i j k l n:=
 tq (g:=fun J=>jj J 1 12 b (AQ d e (wrap .i64 (f+1)) h i j k l n) (l41 J m Fh [] b)) (by simp only[aT,c];rfl)
theorem Fq m b a(h:agb m b a) f i c j k l n o d:e41 jn m VW [b] (AQ f i c j k l n o d)=uM m (bO m) a f i c j k l n o d:=
 tq (g:=fun J=>(idx f c).bind fun e=>(bO m (fld e 1)).bind fun p=>(inL d c).bind fun q=>(d[c.toNat]?).bind fun r=>jj J 0 15 0 (AQ f i c j k l n o (List.set d c.toNat (agg [str (S e 0),p]))) (e41 J m aal [b])) (by simp only[aT,Fp m b a h];rfl)
theorem Fu m f a b c d e:e41 jn m [1,1,1,1] [] (af8 f a b c d e)=uN m (bO m) f a b c d e:=
 tq (g:=fun J=>some (agg [int a,int b,str c,lst d,lst e])) (by rfl)
theorem wI m:∀a k b c d e f h i j,l41 jn m Fh [] a (AQ k b c d e f h i j)=lG m (bO m) a k b c d e f h i j
 |0,_,_,_,_,_,_,_,_,_=>rfl
 |a+1,k,b,c,d,e,f,h,i,j=>
  tl (g:=fun J=>cond (c<b) (jj J 0 13 0 (AQ k b c d e f h i j) (e41 J m VW [a])) (jj J 0 16 0 (af8 d e f h i j) (e41 J m [1,1,1,1] []))) (by simp only[aT,Fq m a (lG m (bO m) a) (wI m a),Fu m];rfl)
theorem Fv m b a:e41 jn m [1,1,1,1] [] (af9 b a)=zO m (bO m) b a:=
 tq (g:=fun J=>some a) (by rfl)
theorem Fw m a c b:e41 jn m [1,1,1] [] (aga a c b)=zP m (bO m) a c b:=
 tq (g:=fun J=>bif 0<((L a 4).length:Int)then(mkL ((L a 4).length:Int) ((L a 4).length:Int) Bq).bind fun d=>jj J 1 12 (succ m) (AQ (L a 4) ((L a 4).length:Int) 0 c (I b 0) (I b 1) (S b 2) (L b 3) d) (l41 J m Fh [] (succ m))else jj J 0 16 0 (af9 c b) (e41 J m [1,1,1,1] [])) (by simp only[aT,wI m,Fv m];rfl)
theorem Oq m a:e41 jn m [] [] ⟨[.dat 26 a],[],0⟩=bO (m+1) a:=
 tq (g:=fun J=>bif 0<((L a 3).length:Int)then(mkL ((L a 3).length:Int) ((L a 3).length:Int) aC).bind fun b=>jj J 1 5 (succ m) (Ja (L a 3) ((L a 3).length:Int) 0 a aC (I a 0) (I a 1) (S a 2) b) (l41 J m VU [] (succ m))else jj J 0 9 0 (aga a aC (agg [int (I a 0),int (I a 1),str (S a 2),lst [],lst []])) (e41 J m [1,1,1] [])) (by simp only[aT,yw m,Fw m];rfl)
def agc:List Nat:=[1,1,0,1,0]
def e44(J:Q1)(m:Nat):=evAt Tryz.prog env (ct m) J (m+1) 62 25 Tryz.f62 d15
def l44(J:Q1)(m:Nat):=loopAt Tryz.prog env (ct m) J (m+1) 62 25 Tryz.f62 d15
def agd(a:ByteArray)(b:Int)(c:Dt):St:=⟨tsOf [(1,.dat 9 (.str a)),(2,.ptr 0 [] 0),(5,.dat 3 (.int b))],[.box 26 (.dat 26 c)],0⟩
theorem AR m:∀b d a c,l44 jn m agc [] b (agd d a c)=zQ m b d a c
 |0,_,_,_=>rfl
 |b+1,d,a,c=>
  tl (g:=fun J=>bif a<((L c 4).length:Int)then(idx (L c 4) a).bind fun e=>cond ((S e 0).toList==d.toList) (some a) (jj J 1 4 b (agd d (wrap .i64 (a+1)) c) (l44 J m agc [] b))else some (-1)) (by simp only[aT,(AR m b)];rfl)
theorem VX m a b:e44 jn m [] [] ⟨[.dat 26 a,.dat 9 (.str b)],[],0⟩=zR (m+1) a b:=
 tq (g:=fun J=>cond (I a 0 !=5) (some (-1)) (jj J 1 4 (succ m) (agd b 0 a) (l44 J m agc [] (succ m)))) (by simp only[aT,AR m];rfl)
def e31(J:Q70)(m:Nat):=evAt Tryz.prog env (ct m) J (m+1) 23 19 Tryz.f23 d31
theorem SN m a b:e31 jn m [] [] ⟨[.dat 26 a,.dat 9 (.str b)],[],0⟩=uJ (m+1) a b:=
 tq (g:=fun J=>(zR m a b).bind fun c=>cond (c<0) (some (aC,false)) ((idx (L a 4) c).bind fun d=>some (fld d 1,true))) (by rfl)
def ajS:List Nat:=[1,1,0,1,0]
def aqx:List Nat:=[1,1,0,1,0,0,1,1]
def amu:List Nat:=aqx++[0,0,1,1,0,1]
def e6(J:Q1)(m:Nat):=evAt Tryz.prog env (ct m) J (m+1) 22 32 Tryz.f22 d15
def l6(J:Q1)(m:Nat):=loopAt Tryz.prog env (ct m) J (m+1) 22 32 Tryz.f22 d15
def ajT(a:Int)(b:List Dt)(c d:Int):St:=⟨tsOf [(3,.dat 3 (.int a)),(8,.dat 23 (.lst b)),(9,.dat 3 (.int c)),(10,.dat 3 (.int d))],[],0⟩
def amv(a:Int)(b:List Dt)(c d:Int)(e:Bool)(f:Dt):St:=⟨tsOf [(3,.dat 3 (.int a)),(6,.ptr 0 [] 0),(8,.dat 23 (.lst b)),(9,.dat 3 (.int c)),(10,.dat 3 (.int d)),(25,.dat 4 (.bool e))],[.box 26 (.dat 26 f)],0⟩
abbrev aqy(m f:Nat)(a:Q27):Prop:=∀b c d e,l6 jn m ajS [] f (ajT b c d e)=a b c d e
theorem uF m b a(j:aqy m b a) c d e f h i:e6 jn m amu [b] (amv c d e f h i)=fI m a c d e f h i:=
 tq (g:=fun J=>cond h (some (-1)) (jj J 1 3 b (ajT (wrap .i64 (c+I i 1)) d e (wrap .i64 (f+1))) (l6 J m ajS [] b))) (by simp only[aT,j];rfl)
theorem nY m:∀a c d e b,l6 jn m ajS [] a (ajT c d e b)=dR m a c d e b
 |0,_,_,_,_=>rfl
 |a+1,c,d,e,b=>
  tl (g:=fun J=>cond (b<e) ((idx d b).bind fun h=>(uJ m h (ByteArray.mk (List.toArray [99,111,117,110,116]))).bind fun f=>cond (!f.2) (jj J 0 7 0 (amv c d e b true f.1) (e6 J m amu [a])) (jj J 0 7 0 (amv c d e b (decide (I f.1 1<1)) f.1) (e6 J m amu [a]))) (some c)) (by simp only[aT,uF m a (dR m a) (nY m a)];rfl)
theorem xL m a:e6 jn m [] [] ⟨[.dat 23 (.lst a)],[],0⟩=cO (m+1) a:=
 tq (g:=fun J=>jj J 1 3 (succ m) (ajT 0 a (a.length:Int) 0) (l6 J m ajS [] (succ m))) (by simp only[aT,nY m];rfl)
def aoN:List Nat:=[1,1,0,1,0,1]
def agf:List Nat:=aoN++[0]
def aoO:List Nat:=[1,1,1,0,1,0,1]
def agh:List Nat:=aoO++[0]
def e46(J:Q10)(m:Nat):=evAt Tryz.prog env (ct m) J (m+1) 133 44 Tryz.f133 d46
def l46(J:Q10)(m:Nat):=loopAt Tryz.prog env (ct m) J (m+1) 133 44 Tryz.f133 d46
def agi(a:Int)(b:Dt)(c:List Dt):St:=⟨tsOf [(1,.ptr 0 [] 0),(3,.row 1),(4,.dat 3 (.int a))],[.box 26 (.dat 26 b),.row 23 c],0⟩
def agj(a:Int)(b:Dt)(c:List Dt):St:=⟨tsOf [(1,.ptr 0 [] 0),(3,.row 1),(5,.dat 3 (.int a))],[.box 26 (.dat 26 b),.row 23 c],0⟩
def agk(a:Dt)(b:List Dt):St:=⟨tsOf [(1,.ptr 0 [] 0),(3,.row 1)],[.box 26 (.dat 26 a),.row 23 b],0⟩
theorem wJ m:∀a b c d,l46 jn m agh [] a (agj b c d)=lH m a b c d
 |0,_,_,_=>rfl
 |a+1,b,c,d=>
  tl (g:=fun J=>bif b<((L c 4).length:Int)then(idx (L c 4) b).bind fun e=>(app d [fld e 1]).bind fun f=>jj J 1 9 a (agj (wrap .i64 (b+1)) c f) (l46 J m agh [] a)else some d) (by simp only[aT,(wJ m a)];rfl)
theorem wK m a b:e46 jn m [1,1,1] [] (agk a b)=lI m a b:=
 tq (g:=fun J=>cond (I a 0==5) (jj J 1 9 (succ m) (agj 0 a b) (l46 J m agh [] (succ m))) (some b)) (by simp only[aT,wJ m];rfl)
theorem wL m:∀b c a d,l46 jn m agf [] b (agi c a d)=lJ m b c a d
 |0,_,_,_=>rfl
 |b+1,c,a,d=>
  tl (g:=fun J=>bif c<((L a 3).length:Int)then(idx (L a 3) c).bind fun e=>(app d [e]).bind fun f=>jj J 1 4 b (agi (wrap .i64 (c+1)) a f) (l46 J m agf [] b)else jj J 0 7 0 (agk a d) (e46 J m [1,1,1] [])) (by simp only[aT,(wL m b),wK m];rfl)
theorem Mi m a:e46 jn m [] [] ⟨[.dat 26 a],[],0⟩=ku (m+1) a:=
 tq (g:=fun J=>cond (I a 0==6) (jj J 1 4 (succ m) (agi 0 a []) (l46 J m agf [] (succ m))) (jj J 0 7 0 (agk a []) (e46 J m [1,1,1] []))) (by simp only[aT,wL m,wK m];rfl)
def aoP:List Nat:=[1,1,1,1,0,1]
def agl:List Nat:=aoP++[0]
def e35(J:Q1)(m:Nat):=evAt Tryz.prog env (ct m) J (m+1) 92 34 Tryz.f92 d15
def l35(J:Q1)(m:Nat):=loopAt Tryz.prog env (ct m) J (m+1) 92 34 Tryz.f92 d15
def agm(a:Int)(b:List Dt)(c d:Int):St:=⟨tsOf [(1,.dat 3 (.int a)),(5,.dat 23 (.lst b)),(6,.dat 3 (.int c)),(7,.dat 3 (.int d))],[],0⟩
def agn(a:Int)(b:List Dt)(c:Bool):St:=⟨tsOf [(1,.dat 3 (.int a)),(5,.dat 23 (.lst b)),(16,.dat 4 (.bool c))],[],0⟩
theorem vk m:∀a e b c d,l35 jn m agl [] a (agm e b c d)=j4 m (eO m) a e b c d
 |0,_,_,_,_=>rfl
 |a+1,e,b,c,d=>
  tl (g:=fun J=>bif d<(b.length:Int)then(idx b d).bind fun h=>(eO m h (wrap .i64 (e-1))).bind fun f=>jj J 1 6 a (agm e b (cond (c<f) f c) (wrap .i64 (d+1))) (l35 J m agl [] a)else some (wrap .i64 (c+1))) (by simp only[aT,(vk m a)];rfl)
theorem Dx m a b c:e35 jn m [1,1,0,1] [] (agn a b c)=gV m (eO m) a b c:=
 tq (g:=fun J=>cond c (some 1) (jj J 1 6 (succ m) (agm a b 0 0) (l35 J m agl [] (succ m)))) (by simp only[aT,vk m];rfl)
theorem Jq m b a:e35 jn m [] [] ⟨[.dat 26 b,.dat 3 (.int a)],[],0⟩=eO (m+1) b a:=
 tq (g:=fun J=>(ku m b).bind fun c=>cond (a<2) (jj J 0 3 0 (agn a c true) (e35 J m [1,1,0,1] [])) (jj J 0 3 0 (agn a c ((c.length:Int)==0)) (e35 J m [1,1,0,1] []))) (by simp only[aT,Dx m];rfl)
def e12(J:Q1)(m:Nat):=evAt Tryz.prog env (ct m) J (m+1) 54 5 Tryz.f54 d15
theorem Mj m a:e12 jn m [] [] ⟨[.dat 26 a],[],0⟩=mH (m+1) a:=
 tq (g:=fun J=>(eO m a 17).bind fun b=>some b) (by rfl)
def agp:List Nat:=[1,1,1,0,1,0]
def e36(J:Q1)(m:Nat):=evAt Tryz.prog env (ct m) J (m+1) 93 32 Tryz.f93 d15
def l36(J:Q1)(m:Nat):=loopAt Tryz.prog env (ct m) J (m+1) 93 32 Tryz.f93 d15
def agq(a b:Int)(c:List Dt)(d:Int):St:=⟨tsOf [(1,.dat 3 (.int a)),(5,.dat 3 (.int b)),(6,.dat 23 (.lst c)),(7,.dat 3 (.int d))],[],0⟩
theorem wM m:∀b c a d e,l36 jn m agp [] b (agq c a d e)=oq m (iM m) b c a d e
 |0,_,_,_,_=>rfl
 |b+1,c,a,d,e=>
  tl (g:=fun J=>cond (e<(d.length:Int)) (cond (a<c) ((idx d e).bind fun f=>(iM m f (wrap .i64 (c-a))).bind fun h=>jj J 1 4 b (agq c (wrap .i64 (a+h)) d (wrap .i64 (e+1))) (l36 J m agp [] b)) (some a)) (some a)) (by simp only[aT,(wM m b)];rfl)
theorem Mk m a b:e36 jn m [] [] ⟨[.dat 26 a,.dat 3 (.int b)],[],0⟩=iM (m+1) a b:=
 tq (g:=fun J=>(ku m a).bind fun c=>jj J 1 4 (succ m) (agq b 1 c 0) (l36 J m agp [] (succ m))) (by simp only[aT,wM m];rfl)
def e13(J:Q1)(m:Nat):=evAt Tryz.prog env (ct m) J (m+1) 55 5 Tryz.f55 d15
theorem Ml m a:e13 jn m [] [] ⟨[.dat 26 a],[],0⟩=mI (m+1) a:=
 tq (g:=fun J=>(iM m a 1025).bind fun b=>some b) (by rfl)
def aam:List Nat:=[1,1,0,1,0]
def aoQ:List Nat:=[1,1,0,1,0,0,1]
def agr:List Nat:=aoQ++[0,0,1]
def e47(J:Q0)(m:Nat):=evAt Tryz.prog env (ct m) J (m+1) 134 33 Tryz.f134 d47
def l47(J:Q0)(m:Nat):=loopAt Tryz.prog env (ct m) J (m+1) 134 33 Tryz.f134 d47
def aan(a:ByteArray)(b c d:Int):St:=⟨tsOf [(0,.dat 9 (.str a)),(1,.dat 3 (.int b)),(2,.dat 3 (.int c)),(7,.dat 3 (.int d))],[],0⟩
def ags(a:ByteArray)(b c d:Int)(e:Bool):St:=⟨tsOf [(0,.dat 9 (.str a)),(1,.dat 3 (.int b)),(2,.dat 3 (.int c)),(7,.dat 3 (.int d)),(32,.dat 4 (.bool e))],[],0⟩
abbrev aoR(m f:Nat)(a:Q40):Prop:=∀b c d e,l47 jn m aam [] f (aan b c d e)=a b c d e
theorem Hf m b a(i:aoR m b a) c d e f h:e47 jn m agr [b] (ags c d e f h)=nM m a c d e f h:=
 tq (g:=fun J=>cond h (some false) (jj J 1 4 b (aan c d e (wrap .i64 (f+1))) (l47 J m aam [] b))) (by simp only[aT,i];rfl)
theorem yx m:∀a c d e b,l47 jn m aam [] a (aan c d e b)=nN m a c d e b
 |0,_,_,_,_=>rfl
 |a+1,c,d,e,b=>
  tl (g:=fun J=>cond (b<e) ((idxS c (wrap .i64 (d+b))).bind fun f=>cond (f<128) (jj J 0 7 0 (ags c d e b true) (e47 J m agr [a])) ((idxS c (wrap .i64 (d+b))).bind fun h=>jj J 0 7 0 (ags c d e b (decide (191<h))) (e47 J m agr [a]))) (some true)) (by simp only[aT,Hf m a (nN m a) (yx m a)];rfl)
theorem Ot m a b c:e47 jn m [] [] ⟨[.dat 9 (.str a),.dat 3 (.int b),.dat 3 (.int c)],[],0⟩=p8 (m+1) a b c:=
 tq (g:=fun J=>cond ((a.size:Int)<wrap .i64 (b+c)) (some false) (jj J 1 4 (succ m) (aan a b c 0) (l47 J m aam [] (succ m)))) (by simp only[aT,yx m];rfl)
def akO:List Nat:=[1,0,1,0,0,1]
def P7:List Nat:=akO++[0,1,1,1]
def aoT:List Nat:=P7++[1]
def nZ:List Nat:=aoT++[0,1]
def aao:List Nat:=akO++[0,1,1,0,0,1,1,1]
def aap:List Nat:=aao++[1,1]
def agt:List Nat:=aap++[1,1]
def e37(J:Q0)(m:Nat):=evAt Tryz.prog env (ct m) J (m+1) 94 89 Tryz.f94 d47
def l37(J:Q0)(m:Nat):=loopAt Tryz.prog env (ct m) J (m+1) 94 89 Tryz.f94 d47
def og(a:ByteArray)(b c:Int)(d:Bool):St:=⟨tsOf [(0,.dat 9 (.str a)),(3,.dat 3 (.int b)),(5,.dat 3 (.int c)),(84,.dat 4 (.bool d))],[],0⟩
def VY(a:ByteArray)(b c d:Int):St:=⟨tsOf [(0,.dat 9 (.str a)),(3,.dat 3 (.int b)),(4,.dat 5 (.int c)),(5,.dat 3 (.int d))],[],0⟩
def agu(a:ByteArray)(b c:Int)(d:Bool):St:=⟨tsOf [(0,.dat 9 (.str a)),(3,.dat 3 (.int b)),(4,.dat 5 (.int c)),(30,.dat 4 (.bool d))],[],0⟩
def agv(a:ByteArray)(b c:Int)(d:Bool):St:=⟨tsOf [(0,.dat 9 (.str a)),(3,.dat 3 (.int b)),(4,.dat 5 (.int c)),(23,.dat 4 (.bool d))],[],0⟩
def agw(a:ByteArray)(b c:Int)(d:Bool):St:=⟨tsOf [(0,.dat 9 (.str a)),(3,.dat 3 (.int b)),(4,.dat 5 (.int c)),(16,.dat 4 (.bool d))],[],0⟩
def aaq(a:ByteArray)(b:Int):St:=⟨tsOf [(0,.dat 9 (.str a)),(3,.dat 3 (.int b))],[],0⟩
abbrev VZ(m d:Nat)(a:Q11):Prop:=∀b c,l37 jn m [1,0,1,0] [] d (aaq b c)=a b c
theorem Hg m b a(h:VZ m b a) c d e f:e37 jn m nZ [b] (og c d e f)=bQ m a c d e f:=
 tq (g:=fun J=>cond f (some false) (jj J 1 2 b (aaq c (wrap .i64 (wrap .i64 (d+e)+1))) (l37 J m [1,0,1,0] [] b))) (by simp only[aT,h];rfl)
theorem o7 m c f(p:VZ m c f) a b e d:e37 jn m P7 [c] (VY a b e d)=kW m f a b e d:=
 tq (g:=fun J=>(p8 m a (wrap .i64 (b+1)) d).bind fun q=>cond (!q) (some false) (cond (e==224) ((idxS a (wrap .i64 (b+1))).bind fun r=>cond (r<160) (jj J 0 16 0 (og a b d true) (e37 J m nZ [c])) (cond (e==237) ((idxS a (wrap .i64 (b+1))).bind fun s=>cond (159<s) (jj J 0 16 0 (og a b d true) (e37 J m nZ [c])) (cond (e==240) ((idxS a (wrap .i64 (b+1))).bind fun t=>cond (t<144) (jj J 0 16 0 (og a b d true) (e37 J m nZ [c])) (cond (e==244) ((idxS a (wrap .i64 (b+1))).bind fun u=>jj J 0 16 0 (og a b d (decide (143<u))) (e37 J m nZ [c])) (jj J 0 16 0 (og a b d false) (e37 J m nZ [c])))) (cond (e==244) ((idxS a (wrap .i64 (b+1))).bind fun v=>jj J 0 16 0 (og a b d (decide (143<v))) (e37 J m nZ [c])) (jj J 0 16 0 (og a b d false) (e37 J m nZ [c]))))) (cond (e==240) ((idxS a (wrap .i64 (b+1))).bind fun w=>cond (w<144) (jj J 0 16 0 (og a b d true) (e37 J m nZ [c])) (cond (e==244) ((idxS a (wrap .i64 (b+1))).bind fun x=>jj J 0 16 0 (og a b d (decide (143<x))) (e37 J m nZ [c])) (jj J 0 16 0 (og a b d false) (e37 J m nZ [c])))) (cond (e==244) ((idxS a (wrap .i64 (b+1))).bind fun y=>jj J 0 16 0 (og a b d (decide (143<y))) (e37 J m nZ [c])) (jj J 0 16 0 (og a b d false) (e37 J m nZ [c])))))) (cond (e==237) ((idxS a (wrap .i64 (b+1))).bind fun h=>cond (159<h) (jj J 0 16 0 (og a b d true) (e37 J m nZ [c])) (cond (e==240) ((idxS a (wrap .i64 (b+1))).bind fun i=>cond (i<144) (jj J 0 16 0 (og a b d true) (e37 J m nZ [c])) (cond (e==244) ((idxS a (wrap .i64 (b+1))).bind fun j=>jj J 0 16 0 (og a b d (decide (143<j))) (e37 J m nZ [c])) (jj J 0 16 0 (og a b d false) (e37 J m nZ [c])))) (cond (e==244) ((idxS a (wrap .i64 (b+1))).bind fun k=>jj J 0 16 0 (og a b d (decide (143<k))) (e37 J m nZ [c])) (jj J 0 16 0 (og a b d false) (e37 J m nZ [c]))))) (cond (e==240) ((idxS a (wrap .i64 (b+1))).bind fun l=>cond (l<144) (jj J 0 16 0 (og a b d true) (e37 J m nZ [c])) (cond (e==244) ((idxS a (wrap .i64 (b+1))).bind fun n=>jj J 0 16 0 (og a b d (decide (143<n))) (e37 J m nZ [c])) (jj J 0 16 0 (og a b d false) (e37 J m nZ [c])))) (cond (e==244) ((idxS a (wrap .i64 (b+1))).bind fun o=>jj J 0 16 0 (og a b d (decide (143<o))) (e37 J m nZ [c])) (jj J 0 16 0 (og a b d false) (e37 J m nZ [c]))))))) (by simp only[aT,Hg m c f p];rfl)
theorem Hl m b a(h:VZ m b a) c d e f:e37 jn m agt [b] (agu c d e f)=su m a c d e f:=
 tq (g:=fun J=>cond f (jj J 0 13 0 (VY c d e 3) (e37 J m P7 [b])) (some false)) (by simp only[aT,o7 m b a h];rfl)
theorem Ho m b a(h:VZ m b a) d e c f:e37 jn m aap [b] (agv d e c f)=sw m a d e c f:=
 tq (g:=fun J=>cond f (jj J 0 13 0 (VY d e c 2) (e37 J m P7 [b])) (cond (240<=c) (jj J 0 12 0 (agu d e c (decide (c<=244))) (e37 J m agt [b])) (jj J 0 12 0 (agu d e c false) (e37 J m agt [b])))) (by simp only[aT,o7 m b a h,Hl m b a h];rfl)
theorem Hq m b a(h:VZ m b a) d e c f:e37 jn m aao [b] (agw d e c f)=sF m a d e c f:=
 tq (g:=fun J=>cond f (jj J 0 13 0 (VY d e c 1) (e37 J m P7 [b])) (cond (224<=c) (jj J 0 10 0 (agv d e c (decide (c<=239))) (e37 J m aap [b])) (jj J 0 10 0 (agv d e c false) (e37 J m aap [b])))) (by simp only[aT,o7 m b a h,Ho m b a h];rfl)
theorem rT m:∀a b c,l37 jn m [1,0,1,0] [] a (aaq b c)=jy m a b c
 |0,_,_=>rfl
 |a+1,b,c=>
  tl (g:=fun J=>bif c<(b.size:Int)then(idxS b c).bind fun d=>cond (d<128) (jj J 0 13 0 (VY b c d 0) (e37 J m P7 [a])) (cond (194<=d) (jj J 0 8 0 (agw b c d (decide (d<=223))) (e37 J m aao [a])) (jj J 0 8 0 (agw b c d false) (e37 J m aao [a])))else some true) (by simp only[aT,o7 m a (jy m a) (rT m a),Hq m a (jy m a) (rT m a)];rfl)
theorem Ou m a:e37 jn m [] [] ⟨[.dat 9 (.str a)],[],0⟩=p9 (m+1) a:=
 tq (g:=fun J=>jj J 1 2 (succ m) (aaq a 0) (l37 J m [1,0,1,0] [] (succ m))) (by simp only[aT,rT m];rfl)
def aar:List Nat:=[1,1,0,1,0]
def aoU:List Nat:=[1,1,0,1,0,0,1]
def aas:List Nat:=aoU++[0,0,1]
def e48(J:Q0)(m:Nat):=evAt Tryz.prog env (ct m) J (m+1) 97 39 Tryz.f97 d47
def l48(J:Q0)(m:Nat):=loopAt Tryz.prog env (ct m) J (m+1) 97 39 Tryz.f97 d47
def aat(a:ByteArray)(b:Int):St:=⟨tsOf [(0,.dat 9 (.str a)),(3,.dat 3 (.int b))],[],0⟩
def aau(a:ByteArray)(b:Int)(c:Bool):St:=⟨tsOf [(0,.dat 9 (.str a)),(3,.dat 3 (.int b)),(38,.dat 4 (.bool c))],[],0⟩
def aav(a:ByteArray)(b:Bool):St:=⟨tsOf [(0,.dat 9 (.str a)),(16,.dat 4 (.bool b))],[],0⟩
abbrev aoV(m d:Nat)(a:Q11):Prop:=∀b c,l48 jn m aar [] d (aat b c)=a b c
theorem Hr m b a(f:aoV m b a) c d e:e48 jn m aas [b] (aau c d e)=iB m a c d e:=
 tq (g:=fun J=>cond e (some false) (jj J 1 4 b (aat c (wrap .i64 (d+1))) (l48 J m aar [] b))) (by simp only[aT,f];rfl)
theorem yA m:∀c a b,l48 jn m aar [] c (aat a b)=iC m c a b
 |0,_,_=>rfl
 |c+1,a,b=>
  tl (g:=fun J=>bif b<(a.size:Int)then(idxS a b).bind fun d=>cond (d<33) (jj J 0 7 0 (aau a b true) (e48 J m aas [c])) ((idxS a b).bind fun e=>cond (126<e) (jj J 0 7 0 (aau a b true) (e48 J m aas [c])) ((idxS a b).bind fun f=>jj J 0 7 0 (aau a b (f==46)) (e48 J m aas [c])))else some true) (by simp only[aT,Hr m c (iC m c) (yA m c)];rfl)
theorem Ht m a b:e48 jn m [1,0,1] [] (aav a b)=iE m a b:=
 tq (g:=fun J=>cond b (some false) (jj J 1 4 (succ m) (aat a 0) (l48 J m aar [] (succ m)))) (by simp only[aT,yA m];rfl)
theorem Ov m a:e48 jn m [] [] ⟨[.dat 9 (.str a)],[],0⟩=gY (m+1) a:=
 tq (g:=fun J=>cond ((a.size:Int)<1) (jj J 0 2 0 (aav a true) (e48 J m [1,0,1] [])) (bif 32<(a.size:Int)then jj J 0 2 0 (aav a true) (e48 J m [1,0,1] [])else(idxS a 0).bind fun b=>jj J 0 2 0 (aav a (b==36)) (e48 J m [1,0,1] []))) (by simp only[aT,Ht m];rfl)
def aaw:List Nat:=[1,1,0,1,0]
def aoW:List Nat:=[1,1,0,1,0,0,1]
def agx:List Nat:=aoW++[0,0,1]
def e49(J:Q0)(m:Nat):=evAt Tryz.prog env (ct m) J (m+1) 135 28 Tryz.f135 d47
def l49(J:Q0)(m:Nat):=loopAt Tryz.prog env (ct m) J (m+1) 135 28 Tryz.f135 d47
def aax(a:ByteArray)(b:Int):St:=⟨tsOf [(0,.dat 9 (.str a)),(3,.dat 3 (.int b))],[],0⟩
def agy(a:ByteArray)(b:Int)(c:Bool):St:=⟨tsOf [(0,.dat 9 (.str a)),(3,.dat 3 (.int b)),(27,.dat 4 (.bool c))],[],0⟩
def agz(a:ByteArray)(b:Bool):St:=⟨tsOf [(0,.dat 9 (.str a)),(11,.dat 4 (.bool b))],[],0⟩
abbrev aoX(m d:Nat)(a:Q11):Prop:=∀b c,l49 jn m aaw [] d (aax b c)=a b c
theorem Hu m b a(f:aoX m b a) c d e:e49 jn m agx [b] (agy c d e)=jA m a c d e:=
 tq (g:=fun J=>cond e (some false) (jj J 1 4 b (aax c (wrap .i64 (d+1))) (l49 J m aaw [] b))) (by simp only[aT,f];rfl)
theorem yB m:∀a b c,l49 jn m aaw [] a (aax b c)=jB m a b c
 |0,_,_=>rfl
 |a+1,b,c=>
  tl (g:=fun J=>bif c<(b.size:Int)then(idxS b c).bind fun d=>cond (d<32) (jj J 0 7 0 (agy b c true) (e49 J m agx [a])) ((idxS b c).bind fun e=>jj J 0 7 0 (agy b c (decide (126<e))) (e49 J m agx [a]))else some true) (by simp only[aT,Hu m a (jB m a) (yB m a)];rfl)
theorem Hw m a b:e49 jn m [1,0,1] [] (agz a b)=jC m a b:=
 tq (g:=fun J=>cond b (some false) (jj J 1 4 (succ m) (aax a 0) (l49 J m aaw [] (succ m)))) (by simp only[aT,yB m];rfl)
theorem Ow m a:e49 jn m [] [] ⟨[.dat 9 (.str a)],[],0⟩=mQ (m+1) a:=
 tq (g:=fun J=>cond ((a.size:Int)<1) (jj J 0 2 0 (agz a true) (e49 J m [1,0,1] [])) (jj J 0 2 0 (agz a (decide (128<(a.size:Int)))) (e49 J m [1,0,1] []))) (by simp only[aT,Hw m];rfl)
def aoY:List Nat:=[1,1,1,1,1,1]
def zq:List Nat:=[1,1,1,1,0,1]
def aoZ:List Nat:=aoY++[0,1]
def agA:List Nat:=aoZ++[0]
def e14(J:Q0)(m:Nat):=evAt Tryz.prog env (ct m) J (m+1) 56 138 Tryz.f56 d47
def l14(J:Q0)(m:Nat):=loopAt Tryz.prog env (ct m) J (m+1) 56 138 Tryz.f56 d47
def Yn(a:Bool)(b:Int)(c:Dt):St:=⟨tsOf [(1,.dat 4 (.bool a)),(2,.ptr 0 [] 0),(7,.dat 3 (.int b))],[.box 26 (.dat 26 c)],0⟩
def zu(a b:Bool)(c:Dt):St:=⟨tsOf [(1,.dat 4 (.bool a)),(2,.ptr 0 [] 0),(79,.dat 4 (.bool b))],[.box 26 (.dat 26 c)],0⟩
def aay(a b c:Bool)(d:Dt):St:=⟨tsOf [(1,.dat 4 (.bool a)),(2,.ptr 0 [] 0),(5,.dat 4 (.bool b)),(6,.dat 4 (.bool c))],[.box 26 (.dat 26 d)],0⟩
def aaz(a b:Bool)(c:Dt):St:=⟨tsOf [(1,.dat 4 (.bool a)),(2,.ptr 0 [] 0),(5,.dat 4 (.bool b))],[.box 26 (.dat 26 c)],0⟩
def P8(a b:Bool)(c:Dt):St:=⟨tsOf [(1,.dat 4 (.bool a)),(2,.ptr 0 [] 0),(27,.dat 4 (.bool b))],[.box 26 (.dat 26 c)],0⟩
theorem vo m:∀b c d a,l14 jn m agA [] b (Yn c d a)=ni m (bF m) (dz m) b c d a
 |0,_,_,_=>rfl
 |b+1,c,d,a=>
  tl (g:=fun J=>bif d<((L a 3).length:Int)then(idx (L a 3) d).bind fun e=>(bF m e c).bind fun f=>cond (!f) (some false) (jj J 1 19 b (Yn c (wrap .i64 (d+1)) a) (l14 J m agA [] b))else(dz m a c).bind fun h=>some h) (by simp only[aT,(vo m b)];rfl)
theorem Dy m b c a:e14 jn m zq [] (zu b c a)=dL m (bF m) (dz m) b c a:=
 tq (g:=fun J=>cond c (some false) (cond (I a 0==9) (cond (I a 1==0) (some true) (some (I a 1==1))) (cond (I a 0==10) (some (decide (0<=I a 1))) (cond (I a 0==4) (cond (((S a 2).size:Int)<=4096) ((p9 m (S a 2)).bind fun d=>some d) (some false)) (cond (I a 0==7) (some (decide (((S a 2).size:Int)<=4096))) (cond (I a 0==8) (some (((S a 2).size:Int)==12)) (jj J 1 19 (succ m) (Yn b 0 a) (l14 J m agA [] (succ m))))))))) (by simp only[aT,vo m];rfl)
theorem Dz m b d c a:e14 jn m [1,1,1,1] [] (aay b d c a)=iZ m (bF m) (dz m) b d c a:=
 tq (g:=fun J=>cond (!d) (cond (!(S a 2).toList==[]) (jj J 0 6 0 (zu b true a) (e14 J m zq [])) (cond (!c) (cond (I a 1 !=0) (jj J 0 6 0 (zu b true a) (e14 J m zq [])) (cond (I a 0<1) (jj J 0 6 0 (zu b true a) (e14 J m zq [])) (jj J 0 6 0 (zu b (decide (11<I a 0)) a) (e14 J m zq [])))) (cond (I a 0<1) (jj J 0 6 0 (zu b true a) (e14 J m zq [])) (jj J 0 6 0 (zu b (decide (11<I a 0)) a) (e14 J m zq []))))) (cond (!c) (cond (I a 1 !=0) (jj J 0 6 0 (zu b true a) (e14 J m zq [])) (cond (I a 0<1) (jj J 0 6 0 (zu b true a) (e14 J m zq [])) (jj J 0 6 0 (zu b (decide (11<I a 0)) a) (e14 J m zq [])))) (cond (I a 0<1) (jj J 0 6 0 (zu b true a) (e14 J m zq [])) (jj J 0 6 0 (zu b (decide (11<I a 0)) a) (e14 J m zq []))))) (by simp only[aT,Dy m];rfl)
theorem DC m b c a:e14 jn m [1,1,1] [] (aaz b c a)=jc m (bF m) (dz m) b c a:=
 tq (g:=fun J=>cond (I a 0==3) (jj J 0 5 0 (aay b c true a) (e14 J m [1,1,1,1] [])) (cond (I a 0==9) (jj J 0 5 0 (aay b c true a) (e14 J m [1,1,1,1] [])) (jj J 0 5 0 (aay b c (I a 0==10) a) (e14 J m [1,1,1,1] [])))) (by simp only[aT,Dz m];rfl)
theorem DF m b c a:e14 jn m [1,0,1] [] (P8 b c a)=jd m (bF m) (dz m) b c a:=
 tq (g:=fun J=>cond c (some false) (cond (I a 0==4) (jj J 0 4 0 (aaz b true a) (e14 J m [1,1,1] [])) (cond (I a 0==7) (jj J 0 4 0 (aaz b true a) (e14 J m [1,1,1] [])) (jj J 0 4 0 (aaz b (I a 0==8) a) (e14 J m [1,1,1] []))))) (by simp only[aT,DC m];rfl)
theorem Jr m a b:e14 jn m [] [] ⟨[.dat 26 a,.dat 4 (.bool b)],[],0⟩=bF (m+1) a b:=
 tq (g:=fun J=>cond (I a 0 !=6) (cond (0<((L a 3).length:Int)) (jj J 0 2 0 (P8 b true a) (e14 J m [1,0,1] [])) (cond (I a 0 !=5) (jj J 0 2 0 (P8 b (decide (0<((L a 4).length:Int))) a) (e14 J m [1,0,1] [])) (jj J 0 2 0 (P8 b false a) (e14 J m [1,0,1] [])))) (cond (I a 0 !=5) (jj J 0 2 0 (P8 b (decide (0<((L a 4).length:Int))) a) (e14 J m [1,0,1] [])) (jj J 0 2 0 (P8 b false a) (e14 J m [1,0,1] [])))) (by simp only[aT,DF m];rfl)
def akP:List Nat:=[1,0,1,0,0,1]
def ao0:List Nat:=akP++[0,0,1,1]
def ao1:List Nat:=ao0++[1]
def Jc:List Nat:=akP++[0,0,1,0,1]
def agB:List Nat:=ao1++[0]
def e38(J:Q0)(m:Nat):=evAt Tryz.prog env (ct m) J (m+1) 95 58 Tryz.f95 d47
def l38(J:Q0)(m:Nat):=loopAt Tryz.prog env (ct m) J (m+1) 95 58 Tryz.f95 d47
def agC(a:Bool)(b c:Int)(d e:Dt):St:=⟨tsOf [(1,.dat 4 (.bool a)),(2,.ptr 0 [] 0),(5,.dat 3 (.int b)),(6,.ptr 1 [] 0),(7,.dat 3 (.int c))],[.box 26 (.dat 26 d),.box 48 (.dat 48 e)],0⟩
def aaA(a:Bool)(b:Int)(c:Dt):St:=⟨tsOf [(1,.dat 4 (.bool a)),(2,.ptr 0 [] 0),(5,.dat 3 (.int b))],[.box 26 (.dat 26 c)],0⟩
def Jd(a:Bool)(b:Int)(c:Bool)(d e:Dt):St:=⟨tsOf [(1,.dat 4 (.bool a)),(2,.ptr 0 [] 0),(5,.dat 3 (.int b)),(6,.ptr 1 [] 0),(43,.dat 4 (.bool c))],[.box 26 (.dat 26 d),.box 48 (.dat 48 e)],0⟩
abbrev akQ(m e:Nat)(a:Q18):Prop:=∀b c d,l38 jn m [1,0,1,0] [] e (aaA b c d)=a b c d
theorem vw m b a(j:akQ m b a):∀c h d e f i,l38 jn m agB [b] c (agC h d e f i)=j5 m (bF m) a c h d e f i
 |0,_,_,_,_,_=>rfl
 |c+1,h,d,e,f,i=>
  tl (g:=fun J=>cond (e<d) ((idx (L f 4) e).bind fun k=>cond ((S k 0).toList==(S i 0).toList) (some false) (jj J 1 8 c (agC h d (wrap .i64 (e+1)) f i) (l38 J m agB [b] c))) (jj J 1 2 b (aaA h (wrap .i64 (d+1)) f) (l38 J m [1,0,1,0] [] b))) (by simp only[aT,(vw m b a j c),j];rfl)
theorem DI m b a(i:akQ m b a) c d e f h:e38 jn m Jc [b] (Jd c d e f h)=dW m (bF m) a c d e f h:=
 tq (g:=fun J=>cond e (some false) (jj J 1 8 (succ m) (agC c d 0 f h) (l38 J m agB [b] (succ m)))) (by simp only[aT,vw m b a i];rfl)
theorem vB m:∀c a d e,l38 jn m [1,0,1,0] [] c (aaA a d e)=dH m (bF m) c a d e
 |0,_,_,_=>rfl
 |c+1,a,d,e=>
  tl (g:=fun J=>bif d<((L e 4).length:Int)then(idx (L e 4) d).bind fun b=>cond a ((gY m (S b 0)).bind fun f=>cond (!f) (jj J 0 6 0 (Jd a d true e b) (e38 J m Jc [c])) (bif !a then(mQ m (S b 0)).bind fun h=>cond (!h) (jj J 0 6 0 (Jd a d true e b) (e38 J m Jc [c])) ((bF m (fld b 1) a).bind fun i=>jj J 0 6 0 (Jd a d (!i) e b) (e38 J m Jc [c]))else(bF m (fld b 1) a).bind fun j=>jj J 0 6 0 (Jd a d (!j) e b) (e38 J m Jc [c]))) (bif !a then(mQ m (S b 0)).bind fun k=>cond (!k) (jj J 0 6 0 (Jd a d true e b) (e38 J m Jc [c])) ((bF m (fld b 1) a).bind fun l=>jj J 0 6 0 (Jd a d (!l) e b) (e38 J m Jc [c]))else(bF m (fld b 1) a).bind fun n=>jj J 0 6 0 (Jd a d (!n) e b) (e38 J m Jc [c]))else some true) (by simp only[aT,DI m c (dH m (bF m) c) (vB m c)];rfl)
theorem Js m a b:e38 jn m [] [] ⟨[.dat 26 a,.dat 4 (.bool b)],[],0⟩=dz (m+1) a b:=
 tq (g:=fun J=>jj J 1 2 (succ m) (aaA b 0 a) (l38 J m [1,0,1,0] [] (succ m))) (by simp only[aT,vB m];rfl)
def e3(J:Q0)(m:Nat):=evAt Tryz.prog env (ct m) J (m+1) 18 15 Tryz.f18 d47
theorem Mq m a:e3 jn m [] [] ⟨[.dat 26 a],[],0⟩=fF (m+1) a:=
 tq (g:=fun J=>(mH m a).bind fun b=>cond (b<=16) ((mI m a).bind fun c=>cond (c<=1024) ((bF m a true).bind fun d=>some d) (some false)) (some false)) (by rfl)
def e11(J:Q0)(m:Nat):=evAt Tryz.prog env (ct m) J (m+1) 33 11 Tryz.f33 d47
theorem Hy m a:e11 jn m [] [] ⟨[.dat 26 a],[],0⟩=iF (m+1) a:=
 tq (g:=fun J=>cond (I a 0 !=5) (some true) ((fF m a).bind fun b=>some (!b))) (by rfl)
def e10(J:Q1)(m:Nat):=evAt Tryz.prog env (ct m) J (m+1) 53 19 Tryz.f53 d15
def l10(J:Q1)(m:Nat):=loopAt Tryz.prog env (ct m) J (m+1) 53 19 Tryz.f53 d15
def agD(a:List Dt)(b c:Int):St:=⟨tsOf [(0,.dat 23 (.lst a)),(1,.fn 33 []),(7,.dat 3 (.int b)),(8,.dat 3 (.int c))],[],0⟩
theorem P9 m:∀b c d a,l10 jn m [1,0,1,0] [] b (agD c d a)=CV m b c d a
 |0,_,_,_=>rfl
 |b+1,c,d,a=>
  tl (g:=fun J=>cond (a<d) ((idx c a).bind fun e=>(iF m e).bind fun f=>cond f (some a) (jj J 1 2 b (agD c d (wrap .i64 (a+1))) (l10 J m [1,0,1,0] [] b))) (some (-1))) (by simp only[aT,(P9 m b)];rfl)
theorem amw m a:e10 jn m [] [] ⟨[.dat 23 (.lst a),.fn 33 []],[],0⟩=i10 (m+1) a:=
 tq (g:=fun J=>jj J 1 2 (succ m) (agD a (a.length:Int) 0) (l10 J m [1,0,1,0] [] (succ m))) (by simp only[aT,P9 m];rfl)
def e9(J:Q0)(m:Nat):=evAt Tryz.prog env (ct m) J (m+1) 16 9 Tryz.f16 d47
theorem ao2 m a:e9 jn m [] [] ⟨[.dat 23 (.lst a),.fn 33 []],[],0⟩=i9 (m+1) a:=
 tq (g:=fun J=>(i10 m a).bind fun b=>some (decide (0<=b))) (by rfl)
def e1(J:Q0)(m:Nat):=evAt Tryz.prog env (ct m) J (m+1) 8 11 Tryz.f8 d47
theorem Mr m a:e1 jn m [] [] ⟨[.dat 23 (.lst a)],[],0⟩=iN (m+1) a:=
 tq (g:=fun J=>bif (a.length:Int)<=30 then(i9 m a).bind fun b=>some (!b)else some false) (by rfl)
def e54(J:Q4)(m:Nat):=evAt Tryz.prog env (ct m) J (m+1) 123 2 Tryz.f123 d23
theorem yS m:e54 jn m [] [] ⟨[],[],0⟩=cB (m+1):=
 tq (g:=fun J=>some mP) (by rfl)
def e55(J:Q0)(m:Nat):=evAt Tryz.prog env (ct m) J (m+1) 128 6 Tryz.f128 d47
theorem SQ m a:e55 jn m [] [] ⟨[.dat 3 (.int a)],[],0⟩=qw (m+1) a:=
 tq (g:=fun J=>some (a !=a)) (by rfl)
def e42(J:Q1)(m:Nat):=evAt Tryz.prog env (ct m) J (m+1) 86 20 Tryz.f86 d15
theorem Mt m a b:e42 jn m [] [] ⟨[.dat 3 (.int a),.dat 3 (.int b)],[],0⟩=eX (m+1) a b:=
 tq (g:=fun J=>(qw m a).bind fun d=>(qw m b).bind fun c=>cond d (cond c (some 0) (some (-1))) (cond c (some 1) (cond (a<b) (some (-1)) (cond (b<a) (some 1) (some 0))))) (by rfl)
def Mw:List Nat:=[1,1,0,1,0,1]
def Hz:List Nat:=Mw++[1,1]
def ao3:List Nat:=Hz++[1,1,0,0,1]
def agE:List Nat:=ao3++[0]
def amx:List Nat:=Hz++[1,1,1,1,0,0,1]
def agF:List Nat:=amx++[0]
def e20(J:Q1)(m:Nat):=evAt Tryz.prog env (ct m) J (m+1) 45 126 Tryz.f45 d15
def l20(J:Q1)(m:Nat):=loopAt Tryz.prog env (ct m) J (m+1) 45 126 Tryz.f45 d15
def agG(a b:Int)(c d:Dt):St:=⟨tsOf [(2,.ptr 0 [] 0),(3,.ptr 1 [] 0),(48,.dat 3 (.int a)),(49,.dat 3 (.int b))],[.box 26 (.dat 26 c),.box 26 (.dat 26 d)],0⟩
def Yo(a b:Int)(c d:Dt):St:=⟨tsOf [(2,.ptr 0 [] 0),(3,.ptr 1 [] 0),(82,.dat 3 (.int a)),(83,.dat 3 (.int b))],[.box 26 (.dat 26 c),.box 26 (.dat 26 d)],0⟩
def aaB(a:Int)(b:Bool)(c d:Dt):St:=⟨tsOf [(2,.ptr 0 [] 0),(3,.ptr 1 [] 0),(21,.dat 3 (.int a)),(31,.dat 4 (.bool b))],[.box 26 (.dat 26 c),.box 26 (.dat 26 d)],0⟩
def aaC(a:Int)(b:Bool)(c d:Dt):St:=⟨tsOf [(2,.ptr 0 [] 0),(3,.ptr 1 [] 0),(21,.dat 3 (.int a)),(22,.dat 4 (.bool b))],[.box 26 (.dat 26 c),.box 26 (.dat 26 d)],0⟩
theorem uj m:∀b e a c d,l20 jn m agE [] b (agG e a c d)=lK m (aW m) b e a c d
 |0,_,_,_,_=>rfl
 |b+1,e,a,c,d=>
  tl (g:=fun J=>bif a<e then(idx (L c 3) a).bind fun h=>(idx (L d 3) a).bind fun i=>(aW m h i).bind fun f=>cond (f !=0) (some f) (jj J 1 14 b (agG e (wrap .i64 (a+1)) c d) (l20 J m agE [] b))else(eX m ((L c 3).length:Int) ((L d 3).length:Int)).bind fun j=>some j) (by simp only[aT,(uj m b)];rfl)
theorem um m:∀d e a b c,l20 jn m agF [] d (Yo e a b c)=lM m (aW m) d e a b c
 |0,_,_,_,_=>rfl
 |d+1,e,a,b,c=>
  tl (g:=fun J=>bif a<e then(idx (L b 4) a).bind fun l=>(idx (L c 4) a).bind fun n=>(strings_Compare (S l 0) (S n 0)).bind fun k=>cond (k !=0) (some k) ((idx (L b 4) a).bind fun h=>(idx (L c 4) a).bind fun i=>(aW m (fld h 1) (fld i 1)).bind fun f=>cond (f !=0) (some f) (jj J 1 23 d (Yo e (wrap .i64 (a+1)) b c) (l20 J m agF [] d)))else(eX m ((L b 4).length:Int) ((L c 4).length:Int)).bind fun j=>some j) (by simp only[aT,(um m d)];rfl)
theorem Ca m c d a b:e20 jn m Hz [] (aaB c d a b)=lN m (aW m) c d a b:=
 tq (g:=fun J=>cond d ((strings_Compare (S a 2) (S b 2)).bind fun e=>some e) (cond (c==6) (jj J 1 14 (succ m) (agG (cond (((L b 3).length:Int)<((L a 3).length:Int)) ((L b 3).length:Int) ((L a 3).length:Int)) 0 a b) (l20 J m agE [] (succ m))) (cond (c==5) (jj J 1 23 (succ m) (Yo (cond (((L b 4).length:Int)<((L a 4).length:Int)) ((L b 4).length:Int) ((L a 4).length:Int)) 0 a b) (l20 J m agF [] (succ m))) (some 0)))) (by simp only[aT,uj m,um m];rfl)
theorem Cb m a d b c:e20 jn m Mw [] (aaC a d b c)=lQ m (aW m) a d b c:=
 tq (g:=fun J=>cond d ((eX m (I b 1) (I c 1)).bind fun e=>some e) (cond (a==4) (jj J 0 11 0 (aaB a (a==4) b c) (e20 J m Hz [])) (cond (a==7) (jj J 0 11 0 (aaB a (a==7) b c) (e20 J m Hz [])) (jj J 0 11 0 (aaB a (a==8) b c) (e20 J m Hz []))))) (by simp only[aT,Ca m];rfl)
theorem HV m a b:e20 jn m [] [] ⟨[.dat 26 a,.dat 26 b],[],0⟩=aW (m+1) a b:=
 tq (g:=fun J=>cond (I a 0 !=I b 0) ((eX m (I a 0) (I b 0)).bind fun c=>some c) (cond (I a 0==3) (jj J 0 7 0 (aaC (I a 0) (I a 0==3) a b) (e20 J m Mw [])) (cond (I a 0==9) (jj J 0 7 0 (aaC (I a 0) (I a 0==9) a b) (e20 J m Mw [])) (jj J 0 7 0 (aaC (I a 0) (I a 0==10) a b) (e20 J m Mw []))))) (by simp only[aT,Cb m];rfl)
def e19(J:Q1)(m:Nat):=evAt Tryz.prog env (ct m) J (m+1) 44 16 Tryz.f44 d15
theorem amy m a b c:e19 jn m [] [] ⟨[.dat 3 (.int a),.dat 26 b,.rptr 23 c],[],0⟩=i19 (m+1) a b c:=
 tq (g:=fun J=>(idx (toLst c) a).bind fun d=>(idx (L d 4) 0).bind fun e=>(aW m (fld e 1) b).bind fun f=>some f) (by rfl)
def aaD:List Nat:=[1,1,1,0,0]
def e18(J:Q47)(m:Nat):=evAt Tryz.prog env (ct m) J (m+1) 43 49 Tryz.f43 d18
def l18(J:Q47)(m:Nat):=loopAt Tryz.prog env (ct m) J (m+1) 43 49 Tryz.f43 d18
def aaE(a:List Dt)(b:Dt)(c d e:Int)(f:Dt):St:=⟨tsOf [(0,.dat 75 (.lst a)),(2,.fn 44 [.rptr 23 b]),(4,.ptr 0 [] 0),(8,.dat 3 (.int c)),(9,.dat 3 (.int d)),(10,.dat 3 (.int e))],[.box 26 (.dat 26 f)],0⟩
theorem Qa m:∀b d e h a c f,l18 jn m aaD [] b (aaE d e h a c f)=Kv m b d e h a c f
 |0,_,_,_,_,_,_=>rfl
 |b+1,d,e,h,a,c,f=>
  tl (g:=fun J=>cond (a<c) ((idx d (wrap .i64 (shrI IntKind.u64 (wrap IntKind.u64 (wrap .i64 (a+c))) 1))).bind fun i=>(i19 m (toInt i) f e).bind fun j=>cond (j<0) (jj J 1 3 b (aaE d e h (wrap .i64 (wrap .i64 (shrI IntKind.u64 (wrap IntKind.u64 (wrap .i64 (a+c))) 1)+1)) c f) (l18 J m aaD [] b)) (jj J 1 3 b (aaE d e h a (wrap .i64 (shrI IntKind.u64 (wrap IntKind.u64 (wrap .i64 (a+c))) 1)) f) (l18 J m aaD [] b))) (cond (a<h) ((idx d a).bind fun k=>(i19 m (toInt k) f e).bind fun l=>some (a,l==0)) (some (a,false)))) (by simp only[aT,(Qa m b)];rfl)
theorem amz m a b c:e18 jn m [] [] ⟨[.dat 75 (.lst a),.dat 26 b,.fn 44 [.rptr 23 c]],[],0⟩=i18 (m+1) a b c:=
 tq (g:=fun J=>jj J 1 3 (succ m) (aaE a c (a.length:Int) 0 (a.length:Int) b) (l18 J m aaD [] (succ m))) (by simp only[aT,Qa m];rfl)
def e27(J:Q1)(m:Nat):=evAt Tryz.prog env (ct m) J (m+1) 50 16 Tryz.f50 d15
theorem DJ m a b:e27 jn m [] [] ⟨[.dat 26 a,.dat 26 b],[],0⟩=dB (m+1) a b:=
 tq (g:=fun J=>(idx (L b 4) 1).bind fun c=>(idx (L a 4) 1).bind fun d=>(aW m (fld c 1) (fld d 1)).bind fun e=>some e) (by rfl)
def ao4:List Nat:=[1,0,0,1,0,0,1]
def agH:List Nat:=ao4++[0]
def e26(J:Q10)(m:Nat):=evAt Tryz.prog env (ct m) J (m+1) 131 53 Tryz.f131 d30
def l26(J:Q10)(m:Nat):=loopAt Tryz.prog env (ct m) J (m+1) 131 53 Tryz.f131 d30
def agI(a b c d:Int)(e:List Dt):St:=⟨tsOf [(0,.row 0),(1,.dat 3 (.int a)),(2,.dat 3 (.int b)),(3,.fn 50 []),(8,.dat 3 (.int c)),(9,.dat 3 (.int d))],[.row 23 e],1⟩
def V3(a b c:Int)(d:List Dt):St:=⟨tsOf [(0,.row 0),(1,.dat 3 (.int a)),(2,.dat 3 (.int b)),(3,.fn 50 []),(8,.dat 3 (.int c))],[.row 23 d],1⟩
abbrev ao5(m f:Nat)(a:Q3):Prop:=∀b c d e,l26 jn m [1,0] [] f (V3 b c d e)=a b c d e
theorem Qb m d c(k:ao5 m d c):∀f e h i a b,l26 jn m agH [d] f (agI e h i a b)=FW m c f e h i a b
 |0,_,_,_,_,_=>rfl
 |f+1,e,h,i,a,b=>
  tl (g:=fun J=>cond (e<a) ((inL b a).bind fun t=>(b[a.toNat]?).bind fun l=>(inL b (wrap .i64 (a-1))).bind fun u=>(b[(wrap .i64 (a-1)).toNat]?).bind fun n=>(dB m l n).bind fun o=>cond (o<0) ((inL b (wrap .i64 (a-1))).bind fun v=>(b[(wrap .i64 (a-1)).toNat]?).bind fun j=>(inL b a).bind fun w=>(b[a.toNat]?).bind fun p=>(inL b a).bind fun x=>(b[a.toNat]?).bind fun q=>(inL (List.set b a.toNat j) (wrap .i64 (a-1))).bind fun r=>((List.set b a.toNat j)[(wrap .i64 (a-1)).toNat]?).bind fun s=>jj J 1 4 f (agI e h i (wrap .i64 (a-1)) (List.set (List.set b a.toNat j) (wrap .i64 (a-1)).toNat p)) (l26 J m agH [d] f)) (jj J 1 1 d (V3 e h (wrap .i64 (i+1)) b) (l26 J m [1,0] [] d))) (jj J 1 1 d (V3 e h (wrap .i64 (i+1)) b) (l26 J m [1,0] [] d))) (by simp only[aT,(Qb m d c k f),k];rfl)
theorem Qc m:∀a e c b d,l26 jn m [1,0] [] a (V3 e c b d)=yL m a e c b d
 |0,_,_,_,_=>rfl
 |a+1,e,c,b,d=>
  tl (g:=fun J=>cond (b<c) (jj J 1 4 (succ m) (agI e c b b d) (l26 J m agH [a] (succ m))) (some d)) (by simp only[aT,Qb m a (yL m a) (Qc m a)];rfl)
theorem amA m a b c:e26 jn m [] [] ⟨[.row 0,.dat 3 (.int a),.dat 3 (.int b),.fn 50 []],[.row 23 c],1⟩=i26 (m+1) a b c:=
 tq (g:=fun J=>jj J 1 1 (succ m) (V3 a b (wrap .i64 (a+1)) c) (l26 J m [1,0] [] (succ m))) (by simp only[aT,Qc m];rfl)
def ao6:List Nat:=[0,1,0,1,1,1]
def agJ:List Nat:=[1,0,1,0,1,1]
def amB:List Nat:=[1,1,1,1,1,1]
def aaF:List Nat:=[0,1,0,1,1,0,0]
def amC:List Nat:=agJ++[1]
def agK:List Nat:=amB++[1]
def ao7:List Nat:=ao6++[0,1]
def aaG:List Nat:=agJ++[0,0]
def agL:List Nat:=agK++[1]
def agM:List Nat:=ao7++[0]
def amD:List Nat:=amC++[0,1]
def Mx:List Nat:=agK++[0,0]
def Yp:List Nat:=amD++[0]
def MB:List Nat:=agL++[1,1]
def SV:List Nat:=MB++[1]
def Yq:List Nat:=agL++[1,0,1]
def Yr:List Nat:=SV++[1]
def Yt:List Nat:=MB++[0,1]
def e28(J:Q10)(m:Nat):=evAt Tryz.prog env (ct m) J (m+1) 132 220 Tryz.f132 d30
def l28(J:Q10)(m:Nat):=loopAt Tryz.prog env (ct m) J (m+1) 132 220 Tryz.f132 d30
def aaH(a b c:Int)(d:List Dt):St:=⟨tsOf [(0,.row 0),(1,.dat 3 (.int a)),(4,.fn 50 []),(10,.dat 3 (.int b)),(11,.dat 3 (.int c))],[.row 23 d],1⟩
def agN(a b:Int)(c:List Dt):St:=⟨tsOf [(0,.row 0),(10,.dat 3 (.int a)),(13,.dat 3 (.int b))],[.row 23 c],1⟩
def SX(a b c:Int)(d:List Dt):St:=⟨tsOf [(0,.row 0),(2,.dat 3 (.int a)),(4,.fn 50 []),(14,.dat 3 (.int b)),(15,.dat 3 (.int c))],[.row 23 d],1⟩
def Yu(a b:Int)(c:List Dt):St:=⟨tsOf [(0,.row 0),(14,.dat 3 (.int a)),(17,.dat 3 (.int b))],[.row 23 c],1⟩
def MC(a b c d e f g h:Int)(i:List Dt):St:=⟨tsOf [(0,.row 0),(1,.dat 3 (.int a)),(2,.dat 3 (.int b)),(3,.dat 3 (.int c)),(4,.fn 50 []),(18,.dat 3 (.int d)),(19,.dat 3 (.int e)),(20,.dat 3 (.int f)),(21,.dat 3 (.int g)),(22,.dat 3 (.int h))],[.row 23 i],1⟩
def Yv(a b c:Int)(d:Bool)(e:List Dt):St:=⟨tsOf [(0,.row 0),(3,.dat 3 (.int a)),(4,.fn 50 []),(18,.dat 3 (.int b)),(24,.dat 3 (.int c)),(213,.dat 4 (.bool d))],[.row 23 e],1⟩
def Yw(a b c:Int)(d:List Dt):St:=⟨tsOf [(0,.row 0),(3,.dat 3 (.int a)),(4,.fn 50 []),(18,.dat 3 (.int b)),(24,.dat 3 (.int c))],[.row 23 d],1⟩
def Yx(a b c d e:Int)(f:Bool)(g:List Dt):St:=⟨tsOf [(0,.row 0),(1,.dat 3 (.int a)),(3,.dat 3 (.int b)),(4,.fn 50 []),(18,.dat 3 (.int c)),(20,.dat 3 (.int d)),(24,.dat 3 (.int e)),(199,.dat 4 (.bool f))],[.row 23 g],1⟩
def Yy(a b c d e:Int)(f:List Dt):St:=⟨tsOf [(0,.row 0),(1,.dat 3 (.int a)),(3,.dat 3 (.int b)),(4,.fn 50 []),(18,.dat 3 (.int c)),(20,.dat 3 (.int d)),(24,.dat 3 (.int e))],[.row 23 f],1⟩
def Yz(a b c d e f:Int)(g:Bool)(h:List Dt):St:=⟨tsOf [(0,.row 0),(1,.dat 3 (.int a)),(2,.dat 3 (.int b)),(3,.dat 3 (.int c)),(4,.fn 50 []),(18,.dat 3 (.int d)),(20,.dat 3 (.int e)),(24,.dat 3 (.int f)),(185,.dat 4 (.bool g))],[.row 23 h],1⟩
theorem Qd m:∀c d a b,l28 jn m agM [] c (agN d a b)=CX m (i28 m) c d a b
 |0,_,_,_=>rfl
 |c+1,d,a,b=>
  tl (g:=fun J=>bif a<wrap .i64 (d-1)then(inL b (wrap .i64 (a+1))).bind fun k=>(b[(wrap .i64 (a+1)).toNat]?).bind fun e=>(inL b a).bind fun l=>(b[a.toNat]?).bind fun f=>(inL b a).bind fun n=>(b[a.toNat]?).bind fun h=>(inL (List.set b a.toNat e) (wrap .i64 (a+1))).bind fun i=>((List.set b a.toNat e)[(wrap .i64 (a+1)).toNat]?).bind fun j=>jj J 1 9 c (agN d (wrap .i64 (a+1)) (List.set (List.set b a.toNat e) (wrap .i64 (a+1)).toNat f)) (l28 J m agM [] c)else some b) (by simp only[aT,(Qd m c)];rfl)
theorem Qe m:∀d e a c b,l28 jn m aaF [] d (aaH e a c b)=zT m (i28 m) d e a c b
 |0,_,_,_,_=>rfl
 |d+1,e,a,c,b=>
  tl (g:=fun J=>cond (a<c) ((inL b (wrap .i64 (shrI IntKind.u64 (wrap IntKind.u64 (wrap .i64 (a+c))) 1))).bind fun j=>(b[(wrap .i64 (shrI IntKind.u64 (wrap IntKind.u64 (wrap .i64 (a+c))) 1)).toNat]?).bind fun f=>(inL b e).bind fun k=>(b[e.toNat]?).bind fun h=>(dB m f h).bind fun i=>cond (i<0) (jj J 1 3 d (aaH e (wrap .i64 (wrap .i64 (shrI IntKind.u64 (wrap IntKind.u64 (wrap .i64 (a+c))) 1)+1)) c b) (l28 J m aaF [] d)) (jj J 1 3 d (aaH e a (wrap .i64 (shrI IntKind.u64 (wrap IntKind.u64 (wrap .i64 (a+c))) 1)) b) (l28 J m aaF [] d))) (jj J 1 9 (succ m) (agN a e b) (l28 J m agM [] (succ m)))) (by simp only[aT,(Qe m d),Qd m];rfl)
theorem ME m:∀b e a c,l28 jn m Yp [] b (Yu e a c)=yM m (i28 m) b e a c
 |0,_,_,_=>rfl
 |b+1,e,a,c=>
  tl (g:=fun J=>cond (e<a) ((inL c (wrap .i64 (a-1))).bind fun h=>(c[(wrap .i64 (a-1)).toNat]?).bind fun d=>(inL c a).bind fun i=>(c[a.toNat]?).bind fun f=>(inL c a).bind fun j=>(c[a.toNat]?).bind fun k=>(inL (List.set c a.toNat d) (wrap .i64 (a-1))).bind fun l=>((List.set c a.toNat d)[(wrap .i64 (a-1)).toNat]?).bind fun n=>jj J 1 21 b (Yu e (wrap .i64 (a-1)) (List.set (List.set c a.toNat d) (wrap .i64 (a-1)).toNat f)) (l28 J m Yp [] b)) (some c)) (by simp only[aT,(ME m b)];rfl)
theorem MF m:∀a e b d c,l28 jn m aaG [] a (SX e b d c)=vT m (i28 m) a e b d c
 |0,_,_,_,_=>rfl
 |a+1,e,b,d,c=>
  tl (g:=fun J=>cond (b<d) ((inL c e).bind fun j=>(c[e.toNat]?).bind fun f=>(inL c (wrap .i64 (shrI IntKind.u64 (wrap IntKind.u64 (wrap .i64 (b+d))) 1))).bind fun k=>(c[(wrap .i64 (shrI IntKind.u64 (wrap IntKind.u64 (wrap .i64 (b+d))) 1)).toNat]?).bind fun h=>(dB m f h).bind fun i=>cond (!(i<0)) (jj J 1 15 a (SX e (wrap .i64 (wrap .i64 (shrI IntKind.u64 (wrap IntKind.u64 (wrap .i64 (b+d))) 1)+1)) d c) (l28 J m aaG [] a)) (jj J 1 15 a (SX e b (wrap .i64 (shrI IntKind.u64 (wrap IntKind.u64 (wrap .i64 (b+d))) 1)) c) (l28 J m aaG [] a))) (jj J 1 21 (succ m) (Yu b e c) (l28 J m Yp [] (succ m)))) (by simp only[aT,(MF m a),ME m];rfl)
theorem YA m b c d e a:e28 jn m Yr [] (Yv b c d e a)=JX m (i28 m) b c d e a:=
 tq (g:=fun J=>cond e ((i28 m c d b a).bind fun f=>some f) (some a)) (by rfl)
theorem YB m b c a d:e28 jn m SV [] (Yw b c a d)=Br m (i28 m) b c a d:=
 tq (g:=fun J=>cond (c<a) (jj J 0 44 0 (Yv b c a (decide (a<b)) d) (e28 J m Yr [])) (jj J 0 44 0 (Yv b c a false d) (e28 J m Yr []))) (by simp only[aT,YA m];rfl)
theorem YC m e b a f c h d:e28 jn m Yt [] (Yx e b a f c h d)=JY m (i28 m) e b a f c h d:=
 tq (g:=fun J=>cond h ((i28 m e f a d).bind fun i=>jj J 0 43 0 (Yw b a c i) (e28 J m SV [])) (jj J 0 43 0 (Yw b a c d) (e28 J m SV []))) (by simp only[aT,YB m];rfl)
theorem YD m b d c a e f:e28 jn m MB [] (Yy b d c a e f)=Ep m (i28 m) b d c a e f:=
 tq (g:=fun J=>cond (b<a) (jj J 0 42 0 (Yx b d c a e (decide (a<c)) f) (e28 J m Yt [])) (jj J 0 42 0 (Yx b d c a e false f) (e28 J m Yt []))) (by simp only[aT,YC m];rfl)
theorem YE m c h d e a b i f:e28 jn m Yq [] (Yz c h d e a b i f)=JZ m (i28 m) c h d e a b i f:=
 tq (g:=fun J=>cond i ((i29 m a h b f).bind fun j=>jj J 0 41 0 (Yy c d e a b j) (e28 J m MB [])) (jj J 0 41 0 (Yy c d e a b f) (e28 J m MB []))) (by simp only[aT,YD m];rfl)
theorem MG m:∀a h e i j f b c k d,l28 jn m Mx [] a (MC h e i j f b c k d)=vU m (i28 m) a h e i j f b c k d
 |0,_,_,_,_,_,_,_,_,_=>rfl
 |a+1,h,e,i,j,f,b,c,k,d=>
  tl (g:=fun J=>cond (b<c) ((inL d (wrap .i64 (k-wrap .i64 (shrI IntKind.u64 (wrap IntKind.u64 (wrap .i64 (b+c))) 1)))).bind fun p=>(d[(wrap .i64 (k-wrap .i64 (shrI IntKind.u64 (wrap IntKind.u64 (wrap .i64 (b+c))) 1))).toNat]?).bind fun l=>(inL d (wrap .i64 (shrI IntKind.u64 (wrap IntKind.u64 (wrap .i64 (b+c))) 1))).bind fun q=>(d[(wrap .i64 (shrI IntKind.u64 (wrap IntKind.u64 (wrap .i64 (b+c))) 1)).toNat]?).bind fun n=>(dB m l n).bind fun o=>cond (!(o<0)) (jj J 1 33 a (MC h e i j f (wrap .i64 (wrap .i64 (shrI IntKind.u64 (wrap IntKind.u64 (wrap .i64 (b+c))) 1)+1)) c k d) (l28 J m Mx [] a)) (jj J 1 33 a (MC h e i j f b (wrap .i64 (shrI IntKind.u64 (wrap IntKind.u64 (wrap .i64 (b+c))) 1)) k d) (l28 J m Mx [] a))) (cond (b<e) (jj J 0 40 0 (Yz h e i j b (wrap .i64 (f-b)) (decide (e<wrap .i64 (f-b))) d) (e28 J m Yq [])) (jj J 0 40 0 (Yz h e i j b (wrap .i64 (f-b)) false d) (e28 J m Yq [])))) (by simp only[aT,(MG m a),YE m];rfl)
theorem amE m a b c d:e28 jn m [] [] ⟨[.row 0,.dat 3 (.int a),.dat 3 (.int b),.dat 3 (.int c),.fn 50 []],[.row 23 d],1⟩=i28 (m+1) a b c d:=
 tq (g:=fun J=>cond (wrap .i64 (b-a)==1) (jj J 1 3 (succ m) (aaH a b c d) (l28 J m aaF [] (succ m))) (cond (wrap .i64 (c-b)==1) (jj J 1 15 (succ m) (SX b a b d) (l28 J m aaG [] (succ m))) (cond (wrap .i64 (shrI IntKind.u64 (wrap IntKind.u64 (wrap .i64 (a+c))) 1)<b) (jj J 1 33 (succ m) (MC a b c (wrap .i64 (shrI IntKind.u64 (wrap IntKind.u64 (wrap .i64 (a+c))) 1)) (wrap .i64 (wrap .i64 (shrI IntKind.u64 (wrap IntKind.u64 (wrap .i64 (a+c))) 1)+b)) (wrap .i64 (wrap .i64 (wrap .i64 (shrI IntKind.u64 (wrap IntKind.u64 (wrap .i64 (a+c))) 1)+b)-c)) (wrap .i64 (shrI IntKind.u64 (wrap IntKind.u64 (wrap .i64 (a+c))) 1)) (wrap .i64 (wrap .i64 (wrap .i64 (shrI IntKind.u64 (wrap IntKind.u64 (wrap .i64 (a+c))) 1)+b)-1)) d) (l28 J m Mx [] (succ m))) (jj J 1 33 (succ m) (MC a b c (wrap .i64 (shrI IntKind.u64 (wrap IntKind.u64 (wrap .i64 (a+c))) 1)) (wrap .i64 (wrap .i64 (shrI IntKind.u64 (wrap IntKind.u64 (wrap .i64 (a+c))) 1)+b)) a b (wrap .i64 (wrap .i64 (wrap .i64 (shrI IntKind.u64 (wrap IntKind.u64 (wrap .i64 (a+c))) 1)+b)-1)) d) (l28 J m Mx [] (succ m)))))) (by simp only[aT,Qe m,MF m,MG m];rfl)
def V4:List Nat:=[1,1,1,1,0]
def ao8:List Nat:=[1,1,1,1,0,0,1]
def ao9:List Nat:=ao8++[0,1]
def agO:List Nat:=ao9++[0,0]
def e25(J:Q10)(m:Nat):=evAt Tryz.prog env (ct m) J (m+1) 90 63 Tryz.f90 d30
def l25(J:Q10)(m:Nat):=loopAt Tryz.prog env (ct m) J (m+1) 90 63 Tryz.f90 d30
def Qf(a b c d:Int)(e:List Dt):St:=⟨tsOf [(0,.row 0),(1,.dat 3 (.int a)),(2,.fn 50 []),(6,.dat 3 (.int b)),(7,.dat 3 (.int c)),(8,.dat 3 (.int d))],[.row 23 e],1⟩
def MH(a b:Int)(c:List Dt):St:=⟨tsOf [(0,.row 0),(1,.dat 3 (.int a)),(2,.fn 50 []),(6,.dat 3 (.int b))],[.row 23 c],1⟩
abbrev apa(m e:Nat)(a:Q13):Prop:=∀b c d,l25 jn m V4 [] e (MH b c d)=a b c d
theorem Qg m d a(j:apa m d a):∀h c b e f i,l25 jn m agO [d] h (Qf c b e f i)=FY m a h c b e f i
 |0,_,_,_,_,_=>rfl
 |h+1,c,b,e,f,i=>
  tl (g:=fun J=>cond (f<=c) ((i28 m e (wrap .i64 (e+b)) f i).bind fun k=>jj J 1 9 h (Qf c b f (wrap .i64 (f+wrap .i64 (2*b))) k) (l25 J m agO [d] h)) (cond (wrap .i64 (e+b)<c) ((i28 m e (wrap .i64 (e+b)) c i).bind fun l=>jj J 1 7 d (MH c (wrap .i64 (b*2)) l) (l25 J m V4 [] d)) (jj J 1 7 d (MH c (wrap .i64 (b*2)) i) (l25 J m V4 [] d)))) (by simp only[aT,(Qg m d a j h),j];rfl)
theorem Qh m:∀a c b d,l25 jn m V4 [] a (MH c b d)=xw m a c b d
 |0,_,_,_=>rfl
 |a+1,c,b,d=>
  tl (g:=fun J=>cond (b<c) (jj J 1 9 (succ m) (Qf c b 0 (wrap .i64 (2*b)) d) (l25 J m agO [a] (succ m))) (some d)) (by simp only[aT,Qg m a (xw m a) (Qh m a)];rfl)
theorem Qi m:∀c a d e b f,l25 jn m [1,1,0,0] [] c (Qf a d e b f)=F3 m c a d e b f
 |0,_,_,_,_,_=>rfl
 |c+1,a,d,e,b,f=>
  tl (g:=fun J=>bif b<=a then(i26 m e b f).bind fun h=>jj J 1 2 c (Qf a d b (wrap .i64 (b+d)) h) (l25 J m [1,1,0,0] [] c)else(i26 m e a f).bind fun i=>jj J 1 7 (succ m) (MH a d i) (l25 J m V4 [] (succ m))) (by simp only[aT,(Qi m c),Qh m];rfl)
theorem amF m a b:e25 jn m [] [] ⟨[.row 0,.dat 3 (.int a),.fn 50 []],[.row 23 b],1⟩=i25 (m+1) a b:=
 tq (g:=fun J=>jj J 1 2 (succ m) (Qf a 20 0 20 b) (l25 J m [1,1,0,0] [] (succ m))) (by simp only[aT,Qi m];rfl)
def e24(J:Q10)(m:Nat):=evAt Tryz.prog env (ct m) J (m+1) 49 9 Tryz.f49 d30
theorem amG m a:e24 jn m [] [] ⟨[.row 0,.fn 50 []],[.row 23 a],1⟩=i24 (m+1) a:=
 tq (g:=fun J=>(i25 m (a.length:Int) a).bind fun b=>some b) (by rfl)
def aaI:List Nat:=[1,1,1,0,0]
def e32(J:Q47)(m:Nat):=evAt Tryz.prog env (ct m) J (m+1) 57 49 Tryz.f57 d18
def l32(J:Q47)(m:Nat):=loopAt Tryz.prog env (ct m) J (m+1) 57 49 Tryz.f57 d18
def aaJ(a:List Dt)(b c d:Int)(e:Dt):St:=⟨tsOf [(0,.dat 23 (.lst a)),(2,.fn 45 []),(4,.ptr 0 [] 0),(8,.dat 3 (.int b)),(9,.dat 3 (.int c)),(10,.dat 3 (.int d))],[.box 26 (.dat 26 e)],0⟩
theorem Qj m:∀b d f a c e,l32 jn m aaI [] b (aaJ d f a c e)=Kw m b d f a c e
 |0,_,_,_,_,_=>rfl
 |b+1,d,f,a,c,e=>
  tl (g:=fun J=>cond (a<c) ((idx d (wrap .i64 (shrI IntKind.u64 (wrap IntKind.u64 (wrap .i64 (a+c))) 1))).bind fun h=>(aW m h e).bind fun i=>cond (i<0) (jj J 1 3 b (aaJ d f (wrap .i64 (wrap .i64 (shrI IntKind.u64 (wrap IntKind.u64 (wrap .i64 (a+c))) 1)+1)) c e) (l32 J m aaI [] b)) (jj J 1 3 b (aaJ d f a (wrap .i64 (shrI IntKind.u64 (wrap IntKind.u64 (wrap .i64 (a+c))) 1)) e) (l32 J m aaI [] b))) (cond (a<f) ((idx d a).bind fun j=>(aW m j e).bind fun k=>some (a,k==0)) (some (a,false)))) (by simp only[aT,(Qj m b)];rfl)
theorem amH m a b:e32 jn m [] [] ⟨[.dat 23 (.lst a),.dat 26 b,.fn 45 []],[],0⟩=i32 (m+1) a b:=
 tq (g:=fun J=>jj J 1 3 (succ m) (aaJ a (a.length:Int) 0 (a.length:Int) b) (l32 J m aaI [] (succ m))) (by simp only[aT,Qj m];rfl)
def agP:List Nat:=[1,1,0,1,0]
def e56(J:Q0)(m:Nat):=evAt Tryz.prog env (ct m) J (m+1) 65 24 Tryz.f65 d47
def l56(J:Q0)(m:Nat):=loopAt Tryz.prog env (ct m) J (m+1) 65 24 Tryz.f65 d47
def agQ(a:List Dt)(b:Int):St:=⟨tsOf [(0,.dat 22 (.lst a)),(3,.dat 3 (.int b))],[],0⟩
def agR(a:List Dt)(b:Bool):St:=⟨tsOf [(0,.dat 22 (.lst a)),(11,.dat 4 (.bool b))],[],0⟩
theorem wN m:∀a b c,l56 jn m agP [] a (agQ b c)=lS m a b c
 |0,_,_=>rfl
 |a+1,b,c=>
  tl (g:=fun J=>bif c<(b.length:Int)then(idx b c).bind fun d=>(gY m (toStr d)).bind fun e=>cond (!e) (some false) (jj J 1 4 a (agQ b (wrap .i64 (c+1))) (l56 J m agP [] a))else some true) (by simp only[aT,(wN m a)];rfl)
theorem Fx m a b:e56 jn m [1,0,1] [] (agR a b)=lT m a b:=
 tq (g:=fun J=>cond b (some false) (jj J 1 4 (succ m) (agQ a 0) (l56 J m agP [] (succ m)))) (by simp only[aT,wN m];rfl)
theorem MI m a:e56 jn m [] [] ⟨[.dat 22 (.lst a)],[],0⟩=iO (m+1) a:=
 tq (g:=fun J=>cond ((a.length:Int)<1) (jj J 0 2 0 (agR a true) (e56 J m [1,0,1] [])) (jj J 0 2 0 (agR a (decide (16<(a.length:Int)))) (e56 J m [1,0,1] []))) (by simp only[aT,Fx m];rfl)
def agS:List Nat:=[1,1,0,1,0]
def V6:List Nat:=[1,1,1,0,1,0]
def apb:List Nat:=V6++[0,1]
def agT:List Nat:=apb++[0,0,1]
def e57(J:Q0)(m:Nat):=evAt Tryz.prog env (ct m) J (m+1) 108 99 Tryz.f108 d47
def l57(J:Q0)(m:Nat):=loopAt Tryz.prog env (ct m) J (m+1) 108 99 Tryz.f108 d47
def agU(a:Int)(b c:Dt):St:=⟨tsOf [(2,.ptr 0 [] 0),(3,.ptr 1 [] 0),(5,.dat 3 (.int a))],[.box 26 (.dat 26 b),.box 26 (.dat 26 c)],0⟩
def SY(a:Int)(b c:Dt):St:=⟨tsOf [(2,.ptr 0 [] 0),(3,.ptr 1 [] 0),(6,.dat 3 (.int a))],[.box 26 (.dat 26 b),.box 26 (.dat 26 c)],0⟩
def YF(a:Int)(b:Bool)(c d:Dt):St:=⟨tsOf [(2,.ptr 0 [] 0),(3,.ptr 1 [] 0),(6,.dat 3 (.int a)),(98,.dat 4 (.bool b))],[.box 26 (.dat 26 c),.box 26 (.dat 26 d)],0⟩
def Qk(a:Bool)(b c:Dt):St:=⟨tsOf [(2,.ptr 0 [] 0),(3,.ptr 1 [] 0),(43,.dat 4 (.bool a))],[.box 26 (.dat 26 b),.box 26 (.dat 26 c)],0⟩
abbrev apc(m e:Nat)(a:Q32):Prop:=∀b c d,l57 jn m V6 [] e (SY b c d)=a b c d
theorem Fy m b a(h:apc m b a) c d e f:e57 jn m agT [b] (YF c d e f)=lU m (bH m) a c d e f:=
 tq (g:=fun J=>cond d (some false) (jj J 1 9 b (SY (wrap .i64 (c+1)) e f) (l57 J m V6 [] b))) (by simp only[aT,h];rfl)
theorem yC m:∀b a c d,l57 jn m V6 [] b (SY a c d)=nO m (bH m) b a c d
 |0,_,_,_=>rfl
 |b+1,a,c,d=>
  tl (g:=fun J=>bif a<((L c 4).length:Int)then(idx (L c 4) a).bind fun e=>(idx (L d 4) a).bind fun f=>cond (!(S e 0).toList==(S f 0).toList) (jj J 0 12 0 (YF a true c d) (e57 J m agT [b])) ((idx (L c 4) a).bind fun h=>(idx (L d 4) a).bind fun i=>(bH m (fld h 1) (fld i 1)).bind fun j=>jj J 0 12 0 (YF a (!j) c d) (e57 J m agT [b]))else some true) (by simp only[aT,Fy m b (nO m (bH m) b) (yC m b)];rfl)
theorem yD m:∀c a b d,l57 jn m agS [] c (agU a b d)=sG m (bH m) c a b d
 |0,_,_,_=>rfl
 |c+1,a,b,d=>
  tl (g:=fun J=>bif a<((L b 3).length:Int)then(idx (L b 3) a).bind fun e=>(idx (L d 3) a).bind fun f=>(bH m e f).bind fun h=>cond (!h) (some false) (jj J 1 4 c (agU (wrap .i64 (a+1)) b d) (l57 J m agS [] c))else jj J 1 9 (succ m) (SY 0 b d) (l57 J m V6 [] (succ m))) (by simp only[aT,(yD m c),yC m];rfl)
theorem HY m a b c:e57 jn m [1,0,1] [] (Qk a b c)=dY m (bH m) a b c:=
 tq (g:=fun J=>cond a (some false) (jj J 1 4 (succ m) (agU 0 b c) (l57 J m agS [] (succ m)))) (by simp only[aT,yD m];rfl)
theorem Ox m a b:e57 jn m [] [] ⟨[.dat 26 a,.dat 26 b],[],0⟩=bH (m+1) a b:=
 tq (g:=fun J=>cond (I a 0 !=I b 0) (jj J 0 2 0 (Qk true a b) (e57 J m [1,0,1] [])) (cond (I a 1 !=I b 1) (jj J 0 2 0 (Qk true a b) (e57 J m [1,0,1] [])) (cond (!(S a 2).toList==(S b 2).toList) (jj J 0 2 0 (Qk true a b) (e57 J m [1,0,1] [])) (bif ((L a 3).length:Int) !=((L b 3).length:Int)then jj J 0 2 0 (Qk true a b) (e57 J m [1,0,1] [])else jj J 0 2 0 (Qk (((L a 4).length:Int) !=((L b 4).length:Int)) a b) (e57 J m [1,0,1] []))))) (by simp only[aT,HY m];rfl)
def apd:List Nat:=[1,0,1,0,0,1]
def ape:List Nat:=apd++[0,0,1]
def apf:List Nat:=ape++[1]
def agV:List Nat:=apf++[0]
def e58(J:Q0)(m:Nat):=evAt Tryz.prog env (ct m) J (m+1) 107 31 Tryz.f107 d47
def l58(J:Q0)(m:Nat):=loopAt Tryz.prog env (ct m) J (m+1) 107 31 Tryz.f107 d47
def agW(a:List Dt)(b c:Int):St:=⟨tsOf [(0,.dat 22 (.lst a)),(3,.dat 3 (.int b)),(4,.dat 3 (.int c))],[],0⟩
def aaK(a:List Dt)(b:Int):St:=⟨tsOf [(0,.dat 22 (.lst a)),(3,.dat 3 (.int b))],[],0⟩
abbrev apg(m d:Nat)(a:Q20):Prop:=∀b c,l58 jn m [1,0,1,0] [] d (aaK b c)=a b c
theorem wO m d a(h:apg m d a):∀e b c f,l58 jn m agV [d] e (agW b c f)=ou m a e b c f
 |0,_,_,_=>rfl
 |e+1,b,c,f=>
  tl (g:=fun J=>cond (f<c) ((idx b f).bind fun i=>(idx b c).bind fun j=>cond ((toStr i).toList==(toStr j).toList) (some false) (jj J 1 7 e (agW b c (wrap .i64 (f+1))) (l58 J m agV [d] e))) (jj J 1 2 d (aaK b (wrap .i64 (c+1))) (l58 J m [1,0,1,0] [] d))) (by simp only[aT,(wO m d a h e),h];rfl)
theorem wP m:∀a b c,l58 jn m [1,0,1,0] [] a (aaK b c)=jM m a b c
 |0,_,_=>rfl
 |a+1,b,c=>
  tl (g:=fun J=>bif c<(b.length:Int)then(idx b c).bind fun d=>(gY m (toStr d)).bind fun e=>cond (!e) (some false) (jj J 1 7 (succ m) (agW b c 0) (l58 J m agV [a] (succ m)))else some true) (by simp only[aT,wO m a (jM m a) (wP m a)];rfl)
theorem MJ m a:e58 jn m [] [] ⟨[.dat 22 (.lst a)],[],0⟩=mJ (m+1) a:=
 tq (g:=fun J=>jj J 1 2 (succ m) (aaK a 0) (l58 J m [1,0,1,0] [] (succ m))) (by simp only[aT,wP m];rfl)
def aaL:List Nat:=[1,0,1,0,1]
def CK:List Nat:=[1,0,1,0,1,1,1]
def aaM:List Nat:=CK++[1,1]
def CO:List Nat:=aaM++[1,1]
def e59(J:Q1)(m:Nat):=evAt Tryz.prog env (ct m) J (m+1) 106 30 Tryz.f106 d15
def CP(a:Bool):St:=⟨tsOf [(20,.dat 4 (.bool a))],[],0⟩
def agX(a:Int)(b:Bool):St:=⟨tsOf [(3,.dat 3 (.int a)),(17,.dat 4 (.bool b))],[],0⟩
def Fz(a:Int)(b:Bool):St:=⟨tsOf [(3,.dat 3 (.int a)),(8,.dat 4 (.bool b))],[],0⟩
def aaN(a:Int)(b:Bool):St:=⟨tsOf [(3,.dat 3 (.int a)),(4,.dat 4 (.bool b))],[],0⟩
theorem HZ m a:e59 jn m CO [] (CP a)=gD m a:=
 tq (g:=fun J=>cond a (some (-1)) (some 2)) (by rfl)
theorem H6 m a b:e59 jn m aaM [] (agX a b)=xA m a b:=
 tq (g:=fun J=>cond b (some 3) (cond (a==4) (jj J 0 27 0 (CP (a==4)) (e59 J m CO [])) (cond (a==6) (jj J 0 27 0 (CP (a==6)) (e59 J m CO [])) (cond (a==16) (jj J 0 27 0 (CP (a==16)) (e59 J m CO [])) (cond (a==17) (jj J 0 27 0 (CP (a==17)) (e59 J m CO [])) (cond (a==21) (jj J 0 27 0 (CP (a==21)) (e59 J m CO [])) (cond (a==29) (jj J 0 27 0 (CP (a==29)) (e59 J m CO [])) (cond (a==37) (jj J 0 27 0 (CP (a==37)) (e59 J m CO [])) (cond (a==35) (jj J 0 27 0 (CP (a==35)) (e59 J m CO [])) (jj J 0 27 0 (CP (a==34)) (e59 J m CO []))))))))))) (by simp only[aT,HZ m];rfl)
theorem H7 m a b:e59 jn m CK [] (Fz a b)=iG m a b:=
 tq (g:=fun J=>cond b (some 1) (cond (a==19) (jj J 0 17 0 (agX a (a==19)) (e59 J m aaM [])) (jj J 0 17 0 (agX a (a==25)) (e59 J m aaM [])))) (by simp only[aT,H6 m];rfl)
theorem H8 m a b:e59 jn m aaL [] (aaN a b)=sH m a b:=
 tq (g:=fun J=>cond b (some 0) (cond (a==18) (jj J 0 14 0 (Fz a (a==18)) (e59 J m CK [])) (cond (a==22) (jj J 0 14 0 (Fz a (a==22)) (e59 J m CK [])) (cond (a==23) (jj J 0 14 0 (Fz a (a==23)) (e59 J m CK [])) (cond (a==24) (jj J 0 14 0 (Fz a (a==24)) (e59 J m CK [])) (cond (a==26) (jj J 0 14 0 (Fz a (a==26)) (e59 J m CK [])) (cond (a==30) (jj J 0 14 0 (Fz a (a==30)) (e59 J m CK [])) (cond (a==31) (jj J 0 14 0 (Fz a (a==31)) (e59 J m CK [])) (jj J 0 14 0 (Fz a (a==36)) (e59 J m CK [])))))))))) (by simp only[aT,H7 m];rfl)
theorem Oy m a:e59 jn m [] [] ⟨[.dat 3 (.int a)],[],0⟩=ow (m+1) a:=
 tq (g:=fun J=>cond (a==1) (jj J 0 5 0 (aaN a (a==1)) (e59 J m aaL [])) (cond (a==2) (jj J 0 5 0 (aaN a (a==2)) (e59 J m aaL [])) (jj J 0 5 0 (aaN a (a==3)) (e59 J m aaL [])))) (by simp only[aT,H8 m];rfl)
def aph:List Nat:=[1,1,1,1,1,1]
def Ql:List Nat:=[1,1,1,1,0,1]
def agY:List Nat:=[1,1,1,1,1,0,1]
def fu:List Nat:=aph++[0,1]
def e45(J:Q1)(m:Nat):=evAt Tryz.prog env (ct m) J (m+1) 75 164 Tryz.f75 d45
def fA(a:Bool):St:=⟨tsOf [(163,.dat 4 (.bool a))],[],0⟩
def aaO(a:Bool)(b:Dt):St:=⟨tsOf [(1,.ptr 0 [] 0),(3,.dat 4 (.bool a))],[.box 29 (.dat 29 b)],0⟩
def agZ(a b:Bool)(c:Dt):St:=⟨tsOf [(1,.ptr 0 [] 0),(3,.dat 4 (.bool a)),(112,.dat 4 (.bool b))],[.box 29 (.dat 29 c)],0⟩
def Qm(a b:Bool)(c:Dt):St:=⟨tsOf [(1,.ptr 0 [] 0),(3,.dat 4 (.bool a)),(103,.dat 4 (.bool b))],[.box 29 (.dat 29 c)],0⟩
def Je(a:Bool)(b:Dt):St:=⟨tsOf [(1,.ptr 0 [] 0),(72,.dat 4 (.bool a))],[.box 29 (.dat 29 b)],0⟩
def CQ(a:Bool)(b:Dt):St:=⟨tsOf [(1,.ptr 0 [] 0),(46,.dat 4 (.bool a))],[.box 29 (.dat 29 b)],0⟩
theorem H9 m a:e45 jn m fu [] (fA a)=bC m a:=
 tq (g:=fun J=>cond a (some 4) (some 0)) (by rfl)
theorem Ia m b c a:e45 jn m agY [] (agZ b c a)=sI m b c a:=
 tq (g:=fun J=>cond c (some 8) (cond (I a 0 !=2) (cond (I a 0 !=3) (cond (0<((L a 1).length:Int)) (jj J 0 11 0 (fA true) (e45 J m fu [])) (cond (!b) (cond (!(S a 2).toList==[]) (jj J 0 11 0 (fA true) (e45 J m fu [])) (cond (I a 0 !=34) (cond (0<((L a 3).length:Int)) (jj J 0 11 0 (fA true) (e45 J m fu [])) (cond (I a 0 !=1) ((bH m (fld a 4) aC).bind fun j=>cond (!j) (jj J 0 11 0 (fA true) (e45 J m fu [])) (jj J 0 11 0 (fA (I a 5 !=0)) (e45 J m fu []))) (jj J 0 11 0 (fA (I a 5 !=0)) (e45 J m fu [])))) (cond (I a 0 !=1) ((bH m (fld a 4) aC).bind fun k=>cond (!k) (jj J 0 11 0 (fA true) (e45 J m fu [])) (jj J 0 11 0 (fA (I a 5 !=0)) (e45 J m fu []))) (jj J 0 11 0 (fA (I a 5 !=0)) (e45 J m fu []))))) (cond (I a 0 !=34) (cond (0<((L a 3).length:Int)) (jj J 0 11 0 (fA true) (e45 J m fu [])) (cond (I a 0 !=1) ((bH m (fld a 4) aC).bind fun l=>cond (!l) (jj J 0 11 0 (fA true) (e45 J m fu [])) (jj J 0 11 0 (fA (I a 5 !=0)) (e45 J m fu []))) (jj J 0 11 0 (fA (I a 5 !=0)) (e45 J m fu [])))) (cond (I a 0 !=1) ((bH m (fld a 4) aC).bind fun n=>cond (!n) (jj J 0 11 0 (fA true) (e45 J m fu [])) (jj J 0 11 0 (fA (I a 5 !=0)) (e45 J m fu []))) (jj J 0 11 0 (fA (I a 5 !=0)) (e45 J m fu [])))))) (cond (!b) (cond (!(S a 2).toList==[]) (jj J 0 11 0 (fA true) (e45 J m fu [])) (cond (I a 0 !=34) (cond (0<((L a 3).length:Int)) (jj J 0 11 0 (fA true) (e45 J m fu [])) (cond (I a 0 !=1) ((bH m (fld a 4) aC).bind fun o=>cond (!o) (jj J 0 11 0 (fA true) (e45 J m fu [])) (jj J 0 11 0 (fA (I a 5 !=0)) (e45 J m fu []))) (jj J 0 11 0 (fA (I a 5 !=0)) (e45 J m fu [])))) (cond (I a 0 !=1) ((bH m (fld a 4) aC).bind fun p=>cond (!p) (jj J 0 11 0 (fA true) (e45 J m fu [])) (jj J 0 11 0 (fA (I a 5 !=0)) (e45 J m fu []))) (jj J 0 11 0 (fA (I a 5 !=0)) (e45 J m fu []))))) (cond (I a 0 !=34) (cond (0<((L a 3).length:Int)) (jj J 0 11 0 (fA true) (e45 J m fu [])) (cond (I a 0 !=1) ((bH m (fld a 4) aC).bind fun q=>cond (!q) (jj J 0 11 0 (fA true) (e45 J m fu [])) (jj J 0 11 0 (fA (I a 5 !=0)) (e45 J m fu []))) (jj J 0 11 0 (fA (I a 5 !=0)) (e45 J m fu [])))) (cond (I a 0 !=1) ((bH m (fld a 4) aC).bind fun d=>cond (!d) (jj J 0 11 0 (fA true) (e45 J m fu [])) (jj J 0 11 0 (fA (I a 5 !=0)) (e45 J m fu []))) (jj J 0 11 0 (fA (I a 5 !=0)) (e45 J m fu [])))))) (cond (!b) (cond (!(S a 2).toList==[]) (jj J 0 11 0 (fA true) (e45 J m fu [])) (cond (I a 0 !=34) (cond (0<((L a 3).length:Int)) (jj J 0 11 0 (fA true) (e45 J m fu [])) (cond (I a 0 !=1) ((bH m (fld a 4) aC).bind fun e=>cond (!e) (jj J 0 11 0 (fA true) (e45 J m fu [])) (jj J 0 11 0 (fA (I a 5 !=0)) (e45 J m fu []))) (jj J 0 11 0 (fA (I a 5 !=0)) (e45 J m fu [])))) (cond (I a 0 !=1) ((bH m (fld a 4) aC).bind fun f=>cond (!f) (jj J 0 11 0 (fA true) (e45 J m fu [])) (jj J 0 11 0 (fA (I a 5 !=0)) (e45 J m fu []))) (jj J 0 11 0 (fA (I a 5 !=0)) (e45 J m fu []))))) (cond (I a 0 !=34) (cond (0<((L a 3).length:Int)) (jj J 0 11 0 (fA true) (e45 J m fu [])) (cond (I a 0 !=1) ((bH m (fld a 4) aC).bind fun h=>cond (!h) (jj J 0 11 0 (fA true) (e45 J m fu [])) (jj J 0 11 0 (fA (I a 5 !=0)) (e45 J m fu []))) (jj J 0 11 0 (fA (I a 5 !=0)) (e45 J m fu [])))) (cond (I a 0 !=1) ((bH m (fld a 4) aC).bind fun i=>cond (!i) (jj J 0 11 0 (fA true) (e45 J m fu [])) (jj J 0 11 0 (fA (I a 5 !=0)) (e45 J m fu []))) (jj J 0 11 0 (fA (I a 5 !=0)) (e45 J m fu []))))))) (by simp only[aT,H9 m];rfl)
theorem Ib m b c a:e45 jn m Ql [] (Qm b c a)=kX m b c a:=
 tq (g:=fun J=>cond c (some 9) (cond (I a 0==1) ((fF m (fld a 4)).bind fun d=>jj J 0 9 0 (agZ b (!d) a) (e45 J m agY [])) (jj J 0 9 0 (agZ b false a) (e45 J m agY [])))) (by simp only[aT,Ia m];rfl)
theorem Ic m b a:e45 jn m [1,1,1,1] [] (aaO b a)=nP m b a:=
 tq (g:=fun J=>cond b ((gY m (S a 2)).bind fun e=>cond (!e) (jj J 0 7 0 (Qm b true a) (e45 J m Ql [])) (cond (I a 0==34) ((mJ m (L a 3)).bind fun c=>jj J 0 7 0 (Qm b (!c) a) (e45 J m Ql [])) (jj J 0 7 0 (Qm b false a) (e45 J m Ql [])))) (cond (I a 0==34) ((mJ m (L a 3)).bind fun d=>jj J 0 7 0 (Qm b (!d) a) (e45 J m Ql [])) (jj J 0 7 0 (Qm b false a) (e45 J m Ql [])))) (by simp only[aT,Ib m];rfl)
theorem Ie m b a:e45 jn m [1,1,0,1] [] (Je b a)=iH m b a:=
 tq (g:=fun J=>cond b (some 10) (cond (I a 0==3) (jj J 0 6 0 (aaO true a) (e45 J m [1,1,1,1] [])) (cond (I a 0==32) (jj J 0 6 0 (aaO true a) (e45 J m [1,1,1,1] [])) (jj J 0 6 0 (aaO (I a 0==33) a) (e45 J m [1,1,1,1] []))))) (by simp only[aT,Ic m];rfl)
theorem Ig m b a:e45 jn m [1,0,1] [] (CQ b a)=fJ m b a:=
 tq (g:=fun J=>cond b (some 11) (cond (I a 0==2) ((iO m (L a 1)).bind fun e=>cond (!e) (jj J 0 4 0 (Je true a) (e45 J m [1,1,0,1] [])) (cond (I a 0==3) (bif 0<((L a 1).length:Int)then(iO m (L a 1)).bind fun c=>jj J 0 4 0 (Je (!c) a) (e45 J m [1,1,0,1] [])else jj J 0 4 0 (Je false a) (e45 J m [1,1,0,1] [])) (jj J 0 4 0 (Je false a) (e45 J m [1,1,0,1] [])))) (cond (I a 0==3) (bif 0<((L a 1).length:Int)then(iO m (L a 1)).bind fun d=>jj J 0 4 0 (Je (!d) a) (e45 J m [1,1,0,1] [])else jj J 0 4 0 (Je false a) (e45 J m [1,1,0,1] [])) (jj J 0 4 0 (Je false a) (e45 J m [1,1,0,1] []))))) (by simp only[aT,Ie m];rfl)
theorem Oz m a:e45 jn m [] [] ⟨[.dat 29 a],[],0⟩=qb (m+1) a:=
 tq (g:=fun J=>cond (I a 0<1) (jj J 0 2 0 (CQ true a) (e45 J m [1,0,1] [])) (cond (37<I a 0) (jj J 0 2 0 (CQ true a) (e45 J m [1,0,1] [])) ((ow m (I a 0)).bind fun b=>cond (0<=b) ((ow m (I a 0)).bind fun c=>cond (((L a 6).length:Int) !=c) (jj J 0 2 0 (CQ true a) (e45 J m [1,0,1] [])) (cond (I a 0==34) (bif ((L a 6).length:Int) !=((L a 3).length:Int)then jj J 0 2 0 (CQ true a) (e45 J m [1,0,1] [])else jj J 0 2 0 (CQ (((L a 6).length:Int)==0) a) (e45 J m [1,0,1] [])) (jj J 0 2 0 (CQ false a) (e45 J m [1,0,1] [])))) (cond (I a 0==34) (bif ((L a 6).length:Int) !=((L a 3).length:Int)then jj J 0 2 0 (CQ true a) (e45 J m [1,0,1] [])else jj J 0 2 0 (CQ (((L a 6).length:Int)==0) a) (e45 J m [1,0,1] [])) (jj J 0 2 0 (CQ false a) (e45 J m [1,0,1] [])))))) (by simp only[aT,Ig m];rfl)
end Go.Proofs.YtmecfjhdnbgfeaaGreatDoor
noncomputable section
namespace Go.Proofs.YtmecfjhdnbgfeaaGreatDoor
open Nat (succ)
open IntKind (wrap)
open Go.Am Dt
set_option maxRecDepth 100000
def ag0:List Nat:=[1,1,1,0,1,0]
def e34(J:Q29)(m:Nat):=evAt Tryz.prog env (ct m) J (m+1) 34 51 Tryz.f34 d34
def l34(J:Q29)(m:Nat):=loopAt Tryz.prog env (ct m) J (m+1) 34 51 Tryz.f34 d34
def ag1(a b c:Int)(d:Dt):St:=⟨tsOf [(1,.dat 3 (.int a)),(2,.dat 3 (.int b)),(3,.ptr 0 [] 0),(9,.dat 3 (.int c))],[.box 29 (.dat 29 d)],0⟩
def ag2(a b:Int)(c:Bool)(d:Dt):St:=⟨tsOf [(1,.dat 3 (.int a)),(2,.dat 3 (.int b)),(3,.ptr 0 [] 0),(17,.dat 4 (.bool c))],[.box 29 (.dat 29 d)],0⟩
theorem wQ m:∀a d e b c,l34 jn m ag0 [] a (ag1 d e b c)=lV m (fG m) a d e b c
 |0,_,_,_,_=>rfl
 |a+1,d,e,b,c=>
  tl (g:=fun J=>bif b<((L c 6).length:Int)then(idx (L c 6) b).bind fun h=>(fG m h (wrap .i64 (d+1)) (wrap .i64 (e+1))).bind fun f=>cond (f.2 !=0) (some (f.1,f.2)) (jj J 1 7 a (ag1 f.1 e (wrap .i64 (b+1)) c) (l34 J m ag0 [] a))else some (d,0)) (by simp only[aT,(wQ m a)];rfl)
theorem FB m a c d b:e34 jn m [1,0,1] [] (ag2 a c d b)=qC m (fG m) a c d b:=
 tq (g:=fun J=>cond d (some (a,2)) ((qb m b).bind fun e=>cond (e !=0) (some (a,e)) (jj J 1 7 (succ m) (ag1 a c 0 b) (l34 J m ag0 [] (succ m))))) (by simp only[aT,wQ m];rfl)
theorem MK m c a b:e34 jn m [] [] ⟨[.dat 29 c,.dat 3 (.int a),.dat 3 (.int b)],[],0⟩=fG (m+1) c a b:=
 tq (g:=fun J=>cond (16<b) (jj J 0 2 0 (ag2 a b true c) (e34 J m [1,0,1] [])) (jj J 0 2 0 (ag2 a b (decide (256<a)) c) (e34 J m [1,0,1] []))) (by simp only[aT,FB m];rfl)
def e8(J:Q1)(m:Nat):=evAt Tryz.prog env (ct m) J (m+1) 9 11 Tryz.f9 d45
theorem ML m a:e8 jn m [] [] ⟨[.dat 29 a],[],0⟩=kC (m+1) a:=
 tq (g:=fun J=>(fG m a 1 1).bind fun b=>some b.2) (by rfl)
def e62(J:Q0)(m:Nat):=evAt Tryz.prog env (ct m) J (m+1) 208 28 Tryz.f208 d47
theorem MN m a:e62 jn m [] [] ⟨[.dat 26 a],[],0⟩=oz (m+1) a:=
 tq (g:=fun J=>cond (I a 0==0) (cond (I a 1==0) (bif (S a 2).toList==[]then cond (((L a 3).length:Int)==0) (some (((L a 4).length:Int)==0)) (some false)else some false) (some false)) (some false)) (by rfl)
def aaP:List Nat:=[1,0,1,0,1]
def CS:List Nat:=[1,0,1,0,1,1,1]
def aaQ:List Nat:=CS++[1,1]
def aaR:List Nat:=aaQ++[1,1]
def Jf:List Nat:=aaR++[1,1]
def e64(J:Q1)(m:Nat):=evAt Tryz.prog env (ct m) J (m+1) 205 35 Tryz.f205 d15
def Jg(a:Int)(b:Bool):St:=⟨tsOf [(3,.dat 3 (.int a)),(23,.dat 4 (.bool b))],[],0⟩
def ag3(a:Int)(b:Bool):St:=⟨tsOf [(3,.dat 3 (.int a)),(20,.dat 4 (.bool b))],[],0⟩
def ag4(a:Int)(b:Bool):St:=⟨tsOf [(3,.dat 3 (.int a)),(17,.dat 4 (.bool b))],[],0⟩
def FC(a:Int)(b:Bool):St:=⟨tsOf [(3,.dat 3 (.int a)),(8,.dat 4 (.bool b))],[],0⟩
def aaS(a:Int)(b:Bool):St:=⟨tsOf [(3,.dat 3 (.int a)),(4,.dat 4 (.bool b))],[],0⟩
theorem Ih m a b:e64 jn m Jf [] (Jg a b)=jD m a b:=
 tq (g:=fun J=>cond b (some 5) (cond (a==35) (some 6) (cond (a==34) (some 7) (some 2)))) (by rfl)
theorem Ii m a b:e64 jn m aaR [] (ag3 a b)=xE m a b:=
 tq (g:=fun J=>cond b (some 4) (cond (a==4) (jj J 0 28 0 (Jg a (a==4)) (e64 J m Jf [])) (cond (a==6) (jj J 0 28 0 (Jg a (a==6)) (e64 J m Jf [])) (cond (a==16) (jj J 0 28 0 (Jg a (a==16)) (e64 J m Jf [])) (cond (a==17) (jj J 0 28 0 (Jg a (a==17)) (e64 J m Jf [])) (cond (a==21) (jj J 0 28 0 (Jg a (a==21)) (e64 J m Jf [])) (cond (a==29) (jj J 0 28 0 (Jg a (a==29)) (e64 J m Jf [])) (jj J 0 28 0 (Jg a (a==37)) (e64 J m Jf []))))))))) (by simp only[aT,Ih m];rfl)
theorem Ij m a b:e64 jn m aaQ [] (ag4 a b)=xG m a b:=
 tq (g:=fun J=>cond b (some 3) (cond (a==19) (jj J 0 20 0 (ag3 a (a==19)) (e64 J m aaR [])) (jj J 0 20 0 (ag3 a (a==25)) (e64 J m aaR [])))) (by simp only[aT,Ii m];rfl)
theorem Ik m a b:e64 jn m CS [] (FC a b)=iI m a b:=
 tq (g:=fun J=>cond b (some 1) (cond (a==32) (jj J 0 17 0 (ag4 a (a==32)) (e64 J m aaQ [])) (jj J 0 17 0 (ag4 a (a==33)) (e64 J m aaQ [])))) (by simp only[aT,Ij m];rfl)
theorem Il m a b:e64 jn m aaP [] (aaS a b)=sJ m a b:=
 tq (g:=fun J=>cond b (some 0) (cond (a==18) (jj J 0 14 0 (FC a (a==18)) (e64 J m CS [])) (cond (a==22) (jj J 0 14 0 (FC a (a==22)) (e64 J m CS [])) (cond (a==23) (jj J 0 14 0 (FC a (a==23)) (e64 J m CS [])) (cond (a==24) (jj J 0 14 0 (FC a (a==24)) (e64 J m CS [])) (cond (a==26) (jj J 0 14 0 (FC a (a==26)) (e64 J m CS [])) (cond (a==30) (jj J 0 14 0 (FC a (a==30)) (e64 J m CS [])) (cond (a==31) (jj J 0 14 0 (FC a (a==31)) (e64 J m CS [])) (jj J 0 14 0 (FC a (a==36)) (e64 J m CS [])))))))))) (by simp only[aT,Ik m];rfl)
theorem OA m a:e64 jn m [] [] ⟨[.dat 3 (.int a)],[],0⟩=oC (m+1) a:=
 tq (g:=fun J=>cond (a==1) (jj J 0 5 0 (aaS a (a==1)) (e64 J m aaP [])) (cond (a==2) (jj J 0 5 0 (aaS a (a==2)) (e64 J m aaP [])) (jj J 0 5 0 (aaS a (a==3)) (e64 J m aaP [])))) (by simp only[aT,Il m];rfl)
def ag5:List Nat:=[1,0,1,0,1,1,1,1,1]
def e65(J:Q0)(m:Nat):=evAt Tryz.prog env (ct m) J (m+1) 204 27 Tryz.f204 d47
def ag6(a b:Int)(c:Bool):St:=⟨tsOf [(1,.dat 3 (.int a)),(5,.dat 3 (.int b)),(14,.dat 4 (.bool c))],[],0⟩
theorem DK m a b c:e65 jn m ag5 [] (ag6 a b c)=tK m a b c:=
 tq (g:=fun J=>cond c (some (a==2)) (cond (b==4) (some (a==3)) (cond (b==7) (some (decide (1<=a))) (some true)))) (by rfl)
theorem Jt m a b:e65 jn m [] [] ⟨[.dat 3 (.int a),.dat 3 (.int b)],[],0⟩=oN (m+1) a b:=
 tq (g:=fun J=>cond (a==0) (some (b==0)) (cond (a==1) (some (b==1)) (cond (a==2) (jj J 0 8 0 (ag6 b a (a==2)) (e65 J m ag5 [])) (jj J 0 8 0 (ag6 b a (a==3)) (e65 J m ag5 []))))) (by simp only[aT,DK m];rfl)
def apj:List Nat:=[1,1,0,1,0,1,0,1]
def ag7:List Nat:=apj++[0]
def apk:List Nat:=[1,1,0,1,0,1,1,1,0,1,0,1]
def V7:List Nat:=apk++[0]
def apl:List Nat:=V7++[0,1,1]
def ag8:List Nat:=apl++[1]
def e66(J:Q4)(m:Nat):=evAt Tryz.prog env (ct m) J (m+1) 159 63 Tryz.f159 d23
def l66(J:Q4)(m:Nat):=loopAt Tryz.prog env (ct m) J (m+1) 159 63 Tryz.f159 d23
def ag9(a b:List Dt)(c d:Int)(e:Dt):St:=⟨tsOf [(1,.dat 22 (.lst a)),(4,.ptr 0 [] 0),(20,.dat 24 (.lst b)),(21,.dat 3 (.int c)),(22,.dat 3 (.int d))],[.box 26 (.dat 26 e)],0⟩
def MO(a b:List Dt)(c d:Int)(e:Dt)(f g:Int)(h:ByteArray)(i j:List Dt):St:=⟨tsOf [(1,.dat 22 (.lst a)),(4,.ptr 0 [] 0),(7,.ptr 1 [] 0),(42,.dat 23 (.lst b)),(43,.dat 3 (.int c)),(44,.dat 3 (.int d))],[.box 26 (.dat 26 e),.box 26 (.agg 26 [.dat 3 (.int f),.dat 3 (.int g),.dat 9 (.str h),.row 2,.row 3]),.row 23 i,.row 24 j],0⟩
theorem vC m:∀b a d e c f,l66 jn m ag7 [] b (ag9 a d e c f)=nk m (bY m) b a d e c f
 |0,_,_,_,_,_=>rfl
 |b+1,a,d,e,c,f=>
  tl (g:=fun J=>cond (c<e) ((idx d c).bind fun h=>(idx a 0).bind fun i=>cond ((S h 0).toList==(toStr i).toList) ((cutL a 1 (a.length:Int)).bind fun j=>(bY m (fld h 1) j).bind fun k=>some k) (jj J 1 6 b (ag9 a d e (wrap .i64 (c+1)) f) (l66 J m ag7 [] b))) (some aC)) (by simp only[aT,(vC m b)];rfl)
abbrev apm(m l:Nat)(a:Q54):Prop:=∀b c d e f g h i j k,l66 jn m V7 [] l (MO b c d e f g h i j k)=a b c d e f g h i j k
theorem DL m b a(o:apm m b a) c d e f h i j k l n:e66 jn m ag8 [b] (MO c d e f h i j k l n)=je m (bY m) a c d e f h i j k l n:=
 tq (g:=fun J=>jj J 1 14 b (MO c d e (wrap .i64 (f+1)) h i j k l n) (l66 J m V7 [] b)) (by simp only[aT,o];rfl)
theorem vD m:∀a c d e b l f h i j k,l66 jn m V7 [] a (MO c d e b l f h i j k)=jf m (bY m) a c d e b l f h i j k
 |0,_,_,_,_,_,_,_,_,_,_=>rfl
 |a+1,c,d,e,b,l,f,h,i,j,k=>
  tl (g:=fun J=>cond (b<e) ((idx d b).bind fun o=>(bY m o c).bind fun n=>cond (I n 0 !=0) ((app j [n]).bind fun p=>jj J 0 19 0 (MO c d e b l f h i p k) (e66 J m ag8 [a])) (jj J 0 19 0 (MO c d e b l f h i j k) (e66 J m ag8 [a]))) (some (agg [int f,int h,str i,lst j,lst k]))) (by simp only[aT,DL m a (jf m (bY m) a) (vD m a)];rfl)
theorem Ju m a b:e66 jn m [] [] ⟨[.dat 26 a,.dat 22 (.lst b)],[],0⟩=bY (m+1) a b:=
 tq (g:=fun J=>cond ((b.length:Int)==0) (some a) (cond (I a 0==5) (jj J 1 6 (succ m) (ag9 b (L a 4) ((L a 4).length:Int) 0 aC) (l66 J m ag7 [] (succ m))) (cond (I a 0==6) (jj J 1 14 (succ m) (MO b (L a 3) ((L a 3).length:Int) 0 aC 6 0 (ByteArray.mk (List.toArray [])) [] []) (l66 J m V7 [] (succ m))) (some aC)))) (by simp only[aT,vC m,vD m];rfl)
def e73(J:Q4)(m:Nat):=evAt Tryz.prog env (ct m) J (m+1) 166 5 Tryz.f166 d23
theorem tQ m a:e73 jn m [] [] ⟨[.dat 3 (.int a)],[],0⟩=bS (m+1) a:=
 tq (g:=fun J=>some (agg [int 3,int a,str (ByteArray.mk (List.toArray [])),lst [],lst []])) (by rfl)
def aaT:List Nat:=[1,1,0,1,0]
def apn:List Nat:=[1,1,0,1,0,0,1,1]
def aaU:List Nat:=apn++[0,0,1,1]
def e81(J:Q0)(m:Nat):=evAt Tryz.prog env (ct m) J (m+1) 198 39 Tryz.f198 d47
def l81(J:Q0)(m:Nat):=loopAt Tryz.prog env (ct m) J (m+1) 198 39 Tryz.f198 d47
def aaV(a:ByteArray)(b c:Int):St:=⟨tsOf [(0,.dat 9 (.str a)),(18,.dat 3 (.int b)),(19,.dat 3 (.int c))],[],0⟩
def aaW(a:ByteArray)(b c:Int)(d:Bool):St:=⟨tsOf [(0,.dat 9 (.str a)),(18,.dat 3 (.int b)),(19,.dat 3 (.int c)),(37,.dat 4 (.bool d))],[],0⟩
def aaX(a:ByteArray)(b:Bool):St:=⟨tsOf [(0,.dat 9 (.str a)),(16,.dat 4 (.bool b))],[],0⟩
abbrev apo(m e:Nat)(a:Q28):Prop:=∀b c d,l81 jn m aaT [] e (aaV b c d)=a b c d
theorem DN m b a(h:apo m b a) c d e f:e81 jn m aaU [b] (aaW c d e f)=nu m a c d e f:=
 tq (g:=fun J=>cond f (some true) (jj J 1 4 b (aaV c d (wrap .i64 (e+1))) (l81 J m aaT [] b))) (by simp only[aT,h];rfl)
theorem vE m:∀b c d a,l81 jn m aaT [] b (aaV c d a)=fO m b c d a
 |0,_,_,_=>rfl
 |b+1,c,d,a=>
  tl (g:=fun J=>cond (a<d) ((idxS c a).bind fun e=>cond (e<33) (jj J 0 7 0 (aaW c d a true) (e81 J m aaU [b])) ((idxS c a).bind fun f=>cond (126<f) (jj J 0 7 0 (aaW c d a true) (e81 J m aaU [b])) ((idxS c a).bind fun h=>jj J 0 7 0 (aaW c d a (h==46)) (e81 J m aaU [b])))) (some false)) (by simp only[aT,DN m b (fO m b) (vE m b)];rfl)
theorem DR m a b:e81 jn m [1,0,1] [] (aaX a b)=ny m a b:=
 tq (g:=fun J=>cond b (some true) (jj J 1 4 (succ m) (aaV a (a.size:Int) 0) (l81 J m aaT [] (succ m)))) (by simp only[aT,vE m];rfl)
theorem Jv m a:e81 jn m [] [] ⟨[.dat 9 (.str a)],[],0⟩=mR (m+1) a:=
 tq (g:=fun J=>cond ((a.size:Int)<1) (jj J 0 2 0 (aaX a true) (e81 J m [1,0,1] [])) (bif 32<(a.size:Int)then jj J 0 2 0 (aaX a true) (e81 J m [1,0,1] [])else(idxS a 0).bind fun b=>jj J 0 2 0 (aaX a (b==36)) (e81 J m [1,0,1] []))) (by simp only[aT,DR m];rfl)
def e80(J:Q1)(m:Nat):=evAt Tryz.prog env (ct m) J (m+1) 230 19 Tryz.f230 d15
def l80(J:Q1)(m:Nat):=loopAt Tryz.prog env (ct m) J (m+1) 230 19 Tryz.f230 d15
def aha(a:List Dt)(b c:Int):St:=⟨tsOf [(0,.dat 22 (.lst a)),(1,.fn 198 []),(7,.dat 3 (.int b)),(8,.dat 3 (.int c))],[],0⟩
theorem Qn m:∀b c d a,l80 jn m [1,0,1,0] [] b (aha c d a)=F4 m b c d a
 |0,_,_,_=>rfl
 |b+1,c,d,a=>
  tl (g:=fun J=>cond (a<d) ((idx c a).bind fun e=>(mR m (toStr e)).bind fun f=>cond f (some a) (jj J 1 2 b (aha c d (wrap .i64 (a+1))) (l80 J m [1,0,1,0] [] b))) (some (-1))) (by simp only[aT,(Qn m b)];rfl)
theorem amI m a:e80 jn m [] [] ⟨[.dat 22 (.lst a),.fn 198 []],[],0⟩=i80 (m+1) a:=
 tq (g:=fun J=>jj J 1 2 (succ m) (aha a (a.length:Int) 0) (l80 J m [1,0,1,0] [] (succ m))) (by simp only[aT,Qn m];rfl)
def e79(J:Q0)(m:Nat):=evAt Tryz.prog env (ct m) J (m+1) 197 9 Tryz.f197 d47
theorem amJ m a:e79 jn m [] [] ⟨[.dat 22 (.lst a),.fn 198 []],[],0⟩=i79 (m+1) a:=
 tq (g:=fun J=>(i80 m a).bind fun b=>some (decide (0<=b))) (by rfl)
def e60(J:Q0)(m:Nat):=evAt Tryz.prog env (ct m) J (m+1) 147 16 Tryz.f147 d47
theorem OB m a:e60 jn m [] [] ⟨[.dat 22 (.lst a)],[],0⟩=mU (m+1) a:=
 tq (g:=fun J=>cond (1<=(a.length:Int)) (bif (a.length:Int)<=16 then(i79 m a).bind fun b=>some (!b)else some false) (some false)) (by rfl)
def e61(J:Q0)(m:Nat):=evAt Tryz.prog env (ct m) J (m+1) 206 6 Tryz.f206 d47
theorem MP m a:e61 jn m [] [] ⟨[.dat 9 (.str a)],[],0⟩=kD (m+1) a:=
 tq (g:=fun J=>(mU m [str a]).bind fun b=>some b) (by rfl)
def aaY:List Nat:=[1,1,0,1,0]
def apq:List Nat:=[1,1,0,1,0,0,1,1]
def ahb:List Nat:=apq++[0,0,1,0,1]
def e63(J:Q0)(m:Nat):=evAt Tryz.prog env (ct m) J (m+1) 207 24 Tryz.f207 d47
def l63(J:Q0)(m:Nat):=loopAt Tryz.prog env (ct m) J (m+1) 207 24 Tryz.f207 d47
def aaZ(a:List Dt)(b c:Int)(d:List Dt):St:=⟨tsOf [(3,.row 0),(7,.dat 22 (.lst a)),(8,.dat 3 (.int b)),(9,.dat 3 (.int c))],[(.map 223 d)],0⟩
def ahc(a:ByteArray)(b:List Dt)(c d:Int)(e:Bool)(f:List Dt):St:=⟨tsOf [(3,.row 0),(5,.dat 9 (.str a)),(7,.dat 22 (.lst b)),(8,.dat 3 (.int c)),(9,.dat 3 (.int d)),(20,.dat 4 (.bool e))],[(.map 223 f)],0⟩
abbrev apr(m f:Nat)(a:Q24):Prop:=∀b c d e,l63 jn m aaY [] f (aaZ b c d e)=a b c d e
theorem xM m b a(j:apr m b a) c d e f h i:e63 jn m ahb [b] (ahc c d e f h i)=jZ m a c d e f h i:=
 tq (g:=fun J=>cond h (some false) (jj J 1 3 b (aaZ d e (wrap .i64 (f+1)) (mput i c (bool true))) (l63 J m aaY [] b))) (by simp only[aT,j];rfl)
theorem pU m:∀a c d b e,l63 jn m aaY [] a (aaZ c d b e)=eH m a c d b e
 |0,_,_,_,_=>rfl
 |a+1,c,d,b,e=>
  tl (g:=fun J=>cond (b<d) ((idx c b).bind fun f=>(kD m (toStr f)).bind fun h=>cond (!h) (jj J 0 6 0 (ahc (toStr f) c d b true e) (e63 J m ahb [a])) (jj J 0 6 0 (ahc (toStr f) c d b (Dt.toBool (mgetD e (toStr f) (bool false))) e) (e63 J m ahb [a]))) (some true)) (by simp only[aT,xM m a (eH m a) (pU m a)];rfl)
theorem zF m a:e63 jn m [] [] ⟨[.dat 22 (.lst a)],[],0⟩=eY (m+1) a:=
 tq (g:=fun J=>jj J 1 3 (succ m) (aaZ a (a.length:Int) 0 []) (l63 J m aaY [] (succ m))) (by simp only[aT,pU m];rfl)
def e82(J:Q4)(m:Nat):=evAt Tryz.prog env (ct m) J (m+1) 209 8 Tryz.f209 d23
theorem MQ m a:e82 jn m [] [] ⟨[.dat 26 a],[],0⟩=gW (m+1) a:=
 tq (g:=fun J=>cond (I a 0==0) ((cB m).bind fun b=>some b) (some a)) (by rfl)
def V8:List Nat:=[1,1,1,0,1,0]
def apt:List Nat:=[1,0,1,0,1,0,1]
def ahd:List Nat:=apt++[0]
def apu:List Nat:=V8++[0,1,1]
def ahe:List Nat:=apu++[1]
def e75(J:Q4)(m:Nat):=evAt Tryz.prog env (ct m) J (m+1) 168 55 Tryz.f168 d23
def l75(J:Q4)(m:Nat):=loopAt Tryz.prog env (ct m) J (m+1) 168 55 Tryz.f168 d23
def ahf(a:List Dt)(b c:Int)(d:Dt)(e f:Int)(g:ByteArray)(h i:List Dt):St:=⟨tsOf [(4,.ptr 0 [] 0),(5,.ptr 1 [] 0),(15,.dat 23 (.lst a)),(16,.dat 3 (.int b)),(17,.dat 3 (.int c))],[.box 26 (.dat 26 d),.box 26 (.agg 26 [.dat 3 (.int e),.dat 3 (.int f),.dat 9 (.str g),.row 2,.row 3]),.row 23 h,.row 24 i],0⟩
def MR(a:List Dt)(b c:Int)(d e:Dt)(f g:Int)(h:ByteArray)(i j:List Dt):St:=⟨tsOf [(2,.ptr 0 [] 0),(4,.ptr 1 [] 0),(8,.ptr 2 [] 0),(31,.dat 23 (.lst a)),(32,.dat 3 (.int b)),(33,.dat 3 (.int c))],[.box 29 (.dat 29 d),.box 26 (.dat 26 e),.box 26 (.agg 26 [.dat 3 (.int f),.dat 3 (.int g),.dat 9 (.str h),.row 3,.row 4]),.row 23 i,.row 24 j],0⟩
theorem qX m:∀a c d b k e f h i j,l75 jn m ahd [] a (ahf c d b k e f h i j)=jN m a c d b k e f h i j
 |0,_,_,_,_,_,_,_,_,_=>rfl
 |a+1,c,d,b,k,e,f,h,i,j=>
  tl (g:=fun J=>cond (b<d) ((idx c b).bind fun l=>(gW m l).bind fun n=>(app i [n]).bind fun o=>jj J 1 4 a (ahf c d (wrap .i64 (b+1)) k e f h o j) (l75 J m ahd [] a)) (some (agg [int e,int f,str h,lst i,lst j]))) (by simp only[aT,(qX m a)];rfl)
abbrev apv(m l:Nat)(a:Q33):Prop:=∀b c d e f g h i j k,l75 jn m V8 [] l (MR b c d e f g h i j k)=a b c d e f g h i j k
theorem zG m b a(o:apv m b a) c d e f h i j k l n:e75 jn m ahe [b] (MR c d e f h i j k l n)=mV m a c d e f h i j k l n:=
 tq (g:=fun J=>jj J 1 11 b (MR c d (wrap .i64 (e+1)) f h i j k l n) (l75 J m V8 [] b)) (by simp only[aT,o];rfl)
theorem qY m:∀a c d b e l f h i j k,l75 jn m V8 [] a (MR c d b e l f h i j k)=fU m a c d b e l f h i j k
 |0,_,_,_,_,_,_,_,_,_,_=>rfl
 |a+1,c,d,b,e,l,f,h,i,j,k=>
  tl (g:=fun J=>cond (b<d) ((idx c b).bind fun n=>cond (I n 0 !=0) ((idx (L e 3) b).bind fun o=>(app k [agg [str (toStr o),n]]).bind fun p=>jj J 0 15 0 (MR c d b e l f h i j p) (e75 J m ahe [a])) (jj J 0 15 0 (MR c d b e l f h i j k) (e75 J m ahe [a]))) (some (agg [int f,int h,str i,lst j,lst k]))) (by simp only[aT,zG m a (fU m a) (qY m a)];rfl)
theorem DT m b a:e75 jn m [] [] ⟨[.dat 29 b,.dat 23 (.lst a)],[],0⟩=eF (m+1) b a:=
 tq (g:=fun J=>cond (I b 0==35) (jj J 1 4 (succ m) (ahf a (a.length:Int) 0 aC 6 0 (ByteArray.mk (List.toArray [])) [] []) (l75 J m ahd [] (succ m))) (jj J 1 11 (succ m) (MR a (a.length:Int) 0 b aC 5 0 (ByteArray.mk (List.toArray [])) [] []) (l75 J m V8 [] (succ m)))) (by simp only[aT,qX m,qY m];rfl)
def ahg:List Nat:=[1,0,1,0,1]
def ahh:List Nat:=[1,0,1,0,1,1,1]
def e83(J:Q0)(m:Nat):=evAt Tryz.prog env (ct m) J (m+1) 210 14 Tryz.f210 d47
def ahi(a:Bool)(b:Dt):St:=⟨tsOf [(1,.ptr 0 [] 0),(8,.dat 4 (.bool a))],[.box 26 (.dat 26 b)],0⟩
def ahj(a:Int)(b:Bool)(c:Dt):St:=⟨tsOf [(1,.ptr 0 [] 0),(4,.dat 3 (.int a)),(5,.dat 4 (.bool b))],[.box 26 (.dat 26 c)],0⟩
theorem FD m a b:e83 jn m ahh [] (ahi a b)=qD m a b:=
 tq (g:=fun J=>cond a (some (I b 1 !=0)) (some true)) (by rfl)
theorem FH m a c b:e83 jn m ahg [] (ahj a c b)=qE m a c b:=
 tq (g:=fun J=>cond c (some false) (cond (a==9) (jj J 0 7 0 (ahi (a==9) b) (e83 J m ahh [])) (jj J 0 7 0 (ahi (a==3) b) (e83 J m ahh [])))) (by simp only[aT,FD m];rfl)
theorem MS m a:e83 jn m [] [] ⟨[.dat 26 a],[],0⟩=eu (m+1) a:=
 tq (g:=fun J=>cond (I a 0==0) (jj J 0 4 0 (ahj (I a 0) (I a 0==0) a) (e83 J m ahg [])) (jj J 0 4 0 (ahj (I a 0) (I a 0==2) a) (e83 J m ahg []))) (by simp only[aT,FH m];rfl)
def e84(J:Q1)(m:Nat):=evAt Tryz.prog env (ct m) J (m+1) 211 23 Tryz.f211 d15
def ahk(a:Int)(b:Bool):St:=⟨tsOf [(5,.dat 3 (.int a)),(19,.dat 4 (.bool b))],[],0⟩
theorem Cc m a b:e84 jn m [1,1,0,1] [] (ahk a b)=lW m a b:=
 tq (g:=fun J=>cond b (some (wrap .i64 (a-1))) (some a)) (by rfl)
theorem Im m b a:e84 jn m [] [] ⟨[.dat 3 (.int b),.dat 3 (.int a)],[],0⟩=iJ (m+1) b a:=
 tq (g:=fun J=>cond (a=0) none (cond (a=0) none (cond (Int.tmod b a !=0) (jj J 0 3 0 (ahk (wrap .i64 (Int.tdiv b a)) (!decide (b<0)==decide (a<0))) (e84 J m [1,1,0,1] [])) (jj J 0 3 0 (ahk (wrap .i64 (Int.tdiv b a)) false) (e84 J m [1,1,0,1] []))))) (by simp only[aT,Cc m];rfl)
def ahl:List Nat:=[1,1,0,1,0]
def amK:List Nat:=[1,1,1,1,0,1,0,0,0,1]
def apw:List Nat:=[1,1,1,1,0,1,0,0,0,0,0,1]
def amL:List Nat:=amK++[0,1,1]
def apx:List Nat:=apw++[0,1]
def YG:List Nat:=amL++[0]
def aa0:List Nat:=apx++[0]
def e68(J:Q4)(m:Nat):=evAt Tryz.prog env (ct m) J (m+1) 161 91 Tryz.f161 d23
def l68(J:Q4)(m:Nat):=loopAt Tryz.prog env (ct m) J (m+1) 161 91 Tryz.f161 d23
def ahm(a:Int)(b:List Dt)(c d:Int)(e:Dt)(f:List Dt):St:=⟨tsOf [(0,.dat 3 (.int a)),(4,.ptr 0 [] 0),(5,.row 1),(16,.dat 23 (.lst b)),(17,.dat 3 (.int c)),(18,.dat 3 (.int d))],[.box 26 (.dat 26 e),.row 75 f],0⟩
def S9(a:Int)(b:List Dt)(c d:Int)(e:Dt):St:=⟨tsOf [(4,.ptr 0 [] 0),(8,.dat 3 (.int a)),(46,.dat 75 (.lst b)),(47,.dat 3 (.int c)),(48,.dat 3 (.int d))],[.box 26 (.dat 26 e)],0⟩
def YH(a:Int)(b:List Dt)(c d:Int)(e:Dt):St:=⟨tsOf [(4,.ptr 0 [] 0),(8,.dat 3 (.int a)),(56,.dat 75 (.lst b)),(57,.dat 3 (.int c)),(58,.dat 3 (.int d))],[.box 26 (.dat 26 e)],0⟩
theorem qZ m:∀a c d e b f,l68 jn m aa0 [] a (S9 c d e b f)=gZ m a c d e b f
 |0,_,_,_,_,_=>rfl
 |a+1,c,d,e,b,f=>
  tl (g:=fun J=>bif b<e then(idx d b).bind fun i=>jj J 1 16 a (S9 (wrap .i64 (c+toInt i)) d e (wrap .i64 (b+1)) f) (l68 J m aa0 [] a)else(bS m c).bind fun h=>some h) (by simp only[aT,(qZ m a)];rfl)
theorem qP m:∀a c d e b f,l68 jn m YG [] a (YH c d e b f)=jh m a c d e b f
 |0,_,_,_,_,_=>rfl
 |a+1,c,d,e,b,f=>
  tl (g:=fun J=>bif b<e then(idx d b).bind fun h=>jj J 1 22 a (YH (wrap .i64 (c*toInt h)) d e (wrap .i64 (b+1)) f) (l68 J m YG [] a)else(bS m c).bind fun i=>some i) (by simp only[aT,(qP m a)];rfl)
theorem ru m:∀f c h i b d a,l68 jn m ahl [] f (ahm c h i b d a)=jO m f c h i b d a
 |0,_,_,_,_,_,_=>rfl
 |f+1,c,h,i,b,d,a=>
  tl (g:=fun J=>cond (b<i) ((idx h b).bind fun r=>cond (I r 0 !=3) ((cB m).bind fun t=>some t) ((inL a b).bind fun z=>(a[b.toNat]?).bind fun A=>jj J 1 3 f (ahm c h i (wrap .i64 (b+1)) d (List.set a b.toNat (int (I r 1)))) (l68 J m ahl [] f))) (cond (c==5) ((inL a 1).bind fun C=>(a[1]?).bind fun s=>(inL a 1).bind fun D=>(a[1]?).bind fun E=>jj J 1 16 (succ m) (S9 0 (List.set a 1 (int (wrap .i64 (0-toInt s)))) ((List.set a 1 (int (wrap .i64 (0-toInt s)))).length:Int) 0 d) (l68 J m aa0 [] (succ m))) (cond (c==4) (jj J 1 16 (succ m) (S9 0 a (a.length:Int) 0 d) (l68 J m aa0 [] (succ m))) (cond (c==6) (jj J 1 22 (succ m) (YH 1 a (a.length:Int) 0 d) (l68 J m YG [] (succ m))) ((inL a 1).bind fun u=>(a[1]?).bind fun k=>cond (toInt k==0) ((cB m).bind fun l=>some l) ((inL a 0).bind fun v=>(a[0]?).bind fun n=>(inL a 1).bind fun w=>(a[1]?).bind fun o=>(iJ m (toInt n) (toInt o)).bind fun j=>cond (c==8) ((inL a 0).bind fun x=>(a[0]?).bind fun p=>(inL a 1).bind fun y=>(a[1]?).bind fun q=>(bS m (wrap .i64 (toInt p-wrap .i64 (toInt q*j)))).bind fun e=>some e) ((bS m j).bind fun e=>some e))))))) (by simp only[aT,(ru m f),qZ m,qP m];rfl)
theorem DU m b a:e68 jn m [] [] ⟨[.dat 3 (.int b),.dat 23 (.lst a)],[],0⟩=dX (m+1) b a:=
 tq (g:=fun J=>(mkL (a.length:Int) (a.length:Int) (int 0)).bind fun c=>jj J 1 3 (succ m) (ahm b a (a.length:Int) 0 aC c) (l68 J m ahl [] (succ m))) (by simp only[aT,ru m];rfl)
def e85(J:Q4)(m:Nat):=evAt Tryz.prog env (ct m) J (m+1) 212 6 Tryz.f212 d23
theorem Jw m a:e85 jn m [] [] ⟨[.dat 4 (.bool a)],[],0⟩=bW (m+1) a:=
 tq (g:=fun J=>cond a (some Y7) (some Y6)) (by rfl)
def e69(J:Q4)(m:Nat):=evAt Tryz.prog env (ct m) J (m+1) 162 38 Tryz.f162 d23
theorem DV m b a:e69 jn m [] [] ⟨[.dat 3 (.int b),.dat 3 (.int a)],[],0⟩=jg (m+1) b a:=
 tq (g:=fun J=>cond (b==10) ((bW m (a==0)).bind fun c=>some c) (cond (b==11) ((bW m (a !=0)).bind fun d=>some d) (cond (b==12) ((bW m (decide (0<a))).bind fun e=>some e) (cond (b==13) ((bW m (decide (0<=a))).bind fun f=>some f) (cond (b==14) ((bW m (decide (a<0))).bind fun h=>some h) (cond (b==15) ((bW m (decide (a<=0))).bind fun i=>some i) ((bS m a).bind fun j=>some j))))))) (by rfl)
def Qo:List Nat:=[1,1,1,0,1,0]
def apy:List Nat:=Qo++[0,1,1]
def ahn:List Nat:=apy++[0,0,1,1]
def e70(J:Q4)(m:Nat):=evAt Tryz.prog env (ct m) J (m+1) 163 67 Tryz.f163 d23
def l70(J:Q4)(m:Nat):=loopAt Tryz.prog env (ct m) J (m+1) 163 67 Tryz.f163 d23
def V9(a:Int)(b c:Bool)(d:List Dt)(e f:Int)(g:Dt):St:=⟨tsOf [(0,.dat 3 (.int a)),(4,.ptr 0 [] 0),(5,.dat 4 (.bool b)),(6,.dat 4 (.bool c)),(44,.dat 23 (.lst d)),(45,.dat 3 (.int e)),(46,.dat 3 (.int f))],[.box 26 (.dat 26 g)],0⟩
def aho(a:Int)(b c:Bool)(d:List Dt)(e f:Int)(g h:Dt):St:=⟨tsOf [(0,.dat 3 (.int a)),(4,.ptr 0 [] 0),(5,.dat 4 (.bool b)),(6,.dat 4 (.bool c)),(8,.ptr 1 [] 0),(44,.dat 23 (.lst d)),(45,.dat 3 (.int e)),(46,.dat 3 (.int f))],[.box 26 (.dat 26 g),.box 26 (.dat 26 h)],0⟩
abbrev apz(m i:Nat)(a:Q43):Prop:=∀b c d e f g h,l70 jn m Qo [] i (V9 b c d e f g h)=a b c d e f g h
theorem Io m b a(n:apz m b a) c d j e f h i k:e70 jn m ahn [b] (aho c d j e f h i k)=sK m a c d j e f h i k:=
 tq (g:=fun J=>cond j (jj J 1 14 b (V9 c d true e f (wrap .i64 (h+1)) i) (l70 J m Qo [] b)) ((eu m k).bind fun l=>jj J 1 14 b (V9 c d l e f (wrap .i64 (h+1)) i) (l70 J m Qo [] b))) (by simp only[aT,n];rfl)
theorem yE m:∀a d i e f h b j,l70 jn m Qo [] a (V9 d i e f h b j)=kY m a d i e f h b j
 |0,_,_,_,_,_,_,_=>rfl
 |a+1,d,i,e,f,h,b,j=>
  tl (g:=fun J=>cond (b<h) ((idx f b).bind fun c=>cond i ((eu m c).bind fun k=>jj J 0 17 0 (aho d k e f h b j c) (e70 J m ahn [a])) (jj J 0 17 0 (aho d false e f h b j c) (e70 J m ahn [a]))) (cond (d==16) ((bW m i).bind fun l=>some l) ((bW m e).bind fun n=>some n))) (by simp only[aT,Io m a (kY m a) (yE m a)];rfl)
theorem OC m b a:e70 jn m [] [] ⟨[.dat 3 (.int b),.dat 23 (.lst a)],[],0⟩=gH (m+1) b a:=
 tq (g:=fun J=>cond (b==18) ((idx a 0).bind fun d=>(eu m d).bind fun e=>(bW m (!e)).bind fun f=>some f) (cond (b==19) ((idx a 0).bind fun h=>(eu m h).bind fun i=>cond i ((idx a 1).bind fun j=>some j) ((idx a 2).bind fun k=>some k)) (cond (b==20) ((idx a 0).bind fun l=>(gW m l).bind fun n=>cond (I n 0==2) ((idx a 1).bind fun o=>some o) ((idx a 0).bind fun c=>some c)) (jj J 1 14 (succ m) (V9 b true false a (a.length:Int) 0 aC) (l70 J m Qo [] (succ m)))))) (by simp only[aT,yE m];rfl)
def e86(J:Q0)(m:Nat):=evAt Tryz.prog env (ct m) J (m+1) 141 9 Tryz.f141 d47
theorem MU m a b:e86 jn m [] [] ⟨[.dat 26 a,.dat 26 b],[],0⟩=jE (m+1) a b:=
 tq (g:=fun J=>(aW m a b).bind fun c=>some (c==0)) (by rfl)
def ahp:List Nat:=[1,1,1,1,0,1]
def e87(J:Q4)(m:Nat):=evAt Tryz.prog env (ct m) J (m+1) 217 31 Tryz.f217 d23
def ahq(a:List Dt)(b:Int)(c:Dt):St:=⟨tsOf [(0,.dat 23 (.lst a)),(4,.ptr 0 [] 0),(5,.dat 3 (.int b))],[.box 26 (.dat 26 c)],0⟩
def ahr(a:List Dt)(b:Int)(c:Bool)(d:Dt):St:=⟨tsOf [(0,.dat 23 (.lst a)),(4,.ptr 0 [] 0),(5,.dat 3 (.int b)),(25,.dat 4 (.bool c))],[.box 26 (.dat 26 d)],0⟩
theorem DW m a b c d:e87 jn m ahp [] (ahr a b c d)=pX m a b c d:=
 tq (g:=fun J=>cond c (some aC) ((idx a b).bind fun e=>some e)) (by rfl)
theorem DX m b a c:e87 jn m [1,1,1,1] [] (ahq b a c)=nA m b a c:=
 tq (g:=fun J=>cond (a<0) (jj J 0 7 0 (ahr b a true c) (e87 J m ahp [])) (jj J 0 7 0 (ahr b a (decide ((b.length:Int)<=a)) c) (e87 J m ahp []))) (by simp only[aT,DW m];rfl)
theorem Jy m b a:e87 jn m [] [] ⟨[.dat 23 (.lst b),.dat 26 a],[],0⟩=kE (m+1) b a:=
 tq (g:=fun J=>cond (I a 0 !=3) ((cB m).bind fun c=>some c) (cond (I a 1<0) (jj J 0 6 0 (ahq b (wrap .i64 (I a 1+(b.length:Int))) aC) (e87 J m [1,1,1,1] [])) (jj J 0 6 0 (ahq b (I a 1) aC) (e87 J m [1,1,1,1] [])))) (by simp only[aT,DX m];rfl)
def ahs:List Nat:=[1,1,1,1,1,1]
def amM:List Nat:=[1,1,1,1,0,1]
def Wd:List Nat:=amM++[0]
def apA:List Nat:=[1,1,1,1,1,0,1,0,1,1,1,0,1]
def aht:List Nat:=apA++[0]
def amN:List Nat:=[1,1,1,1,1,0,1,0,1,1,1,1,1,0,1,0,1]
def aa1:List Nat:=amN++[0]
def amO:List Nat:=[1,1,1,1,1,0,1,0,1,1,1,1,1,1,1,0,0,1]
def YI:List Nat:=amO++[0]
def e72(J:Q4)(m:Nat):=evAt Tryz.prog env (ct m) J (m+1) 165 116 Tryz.f165 d23
def l72(J:Q4)(m:Nat):=loopAt Tryz.prog env (ct m) J (m+1) 165 116 Tryz.f165 d23
def Wh(a:Int)(b c:List Dt)(d e:Int)(f:Dt)(g:List Dt):St:=⟨tsOf [(0,.dat 3 (.int a)),(1,.dat 23 (.lst b)),(4,.ptr 0 [] 0),(6,.row 1),(26,.dat 23 (.lst c)),(27,.dat 3 (.int d)),(28,.dat 3 (.int e))],[.box 26 (.dat 26 f),.row 23 g],0⟩
def YJ(a b:Int)(c:Dt)(d:List Dt):St:=⟨tsOf [(4,.ptr 0 [] 0),(6,.row 1),(9,.dat 3 (.int a)),(10,.dat 3 (.int b))],[.box 26 (.dat 26 c),.row 23 d],0⟩
def YK(a:Dt)(b:List Dt):St:=⟨tsOf [(4,.ptr 0 [] 0),(6,.row 1)],[.box 26 (.dat 26 a),.row 23 b],0⟩
def Ta(a:Int)(b:List Dt)(c d:Int)(e:Dt):St:=⟨tsOf [(4,.ptr 0 [] 0),(11,.dat 3 (.int a)),(75,.dat 23 (.lst b)),(76,.dat 3 (.int c)),(77,.dat 3 (.int d))],[.box 26 (.dat 26 e)],0⟩
def YL(a b:List Dt)(c d:Int)(e:Dt):St:=⟨tsOf [(1,.dat 23 (.lst a)),(4,.ptr 0 [] 0),(93,.dat 23 (.lst b)),(94,.dat 3 (.int c)),(95,.dat 3 (.int d))],[.box 26 (.dat 26 e)],0⟩
theorem uo m b a:e72 jn m ahs [] (YK b a)=oO m b a:=
 tq (g:=fun J=>some (agg [int 6,int 0,str (ByteArray.mk (List.toArray [])),lst a,lst []])) (by rfl)
theorem vF m:∀d b c e a,l72 jn m aht [] d (YJ b c e a)=ko m d b c e a
 |0,_,_,_,_=>rfl
 |d+1,b,c,e,a=>
  tl (g:=fun J=>cond (b<c) ((inL a c).bind fun l=>(a[c.toNat]?).bind fun f=>(inL a b).bind fun n=>(a[b.toNat]?).bind fun h=>(inL a b).bind fun o=>(a[b.toNat]?).bind fun i=>(inL (List.set a b.toNat f) c).bind fun j=>((List.set a b.toNat f)[c.toNat]?).bind fun k=>jj J 1 20 d (YJ (wrap .i64 (b+1)) (wrap .i64 (c-1)) e (List.set (List.set a b.toNat f) c.toNat h)) (l72 J m aht [] d)) (jj J 0 42 0 (YK e a) (e72 J m ahs []))) (by simp only[aT,(vF m d),uo m];rfl)
theorem uq m:∀a c d e b f,l72 jn m aa1 [] a (Ta c d e b f)=jG m a c d e b f
 |0,_,_,_,_,_=>rfl
 |a+1,c,d,e,b,f=>
  tl (g:=fun J=>bif b<e then(idx d b).bind fun h=>cond (I h 0==3) (jj J 1 26 a (Ta (wrap .i64 (c+I h 1)) d e (wrap .i64 (b+1)) f) (l72 J m aa1 [] a)) (jj J 1 26 a (Ta c d e (wrap .i64 (b+1)) f) (l72 J m aa1 [] a))else(bS m c).bind fun i=>some i) (by simp only[aT,(uq m a)];rfl)
theorem uw m:∀a c d e b f,l72 jn m YI [] a (YL c d e b f)=lY m a c d e b f
 |0,_,_,_,_,_=>rfl
 |a+1,c,d,e,b,f=>
  tl (g:=fun J=>bif b<e then(idx d b).bind fun h=>(idx c 0).bind fun i=>(jE m h i).bind fun j=>cond j ((bW m true).bind fun k=>some k) (jj J 1 34 a (YL c d e (wrap .i64 (b+1)) f) (l72 J m YI [] a))else(bW m false).bind fun l=>some l) (by simp only[aT,(uw m a)];rfl)
theorem vG m:∀d b e h i f c a,l72 jn m Wd [] d (Wh b e h i f c a)=nC m d b e h i f c a
 |0,_,_,_,_,_,_,_=>rfl
 |d+1,b,e,h,i,f,c,a=>
  tl (g:=fun J=>cond (f<i) ((idx h f).bind fun l=>cond (I l 0 !=6) ((cB m).bind fun n=>some n) ((app a (L l 3)).bind fun o=>jj J 1 9 d (Wh b e h i (wrap .i64 (f+1)) c o) (l72 J m Wd [] d))) (cond (b==26) ((bS m (a.length:Int)).bind fun p=>some p) (cond (b==30) (jj J 1 20 (succ m) (YJ 0 (wrap .i64 ((a.length:Int)-1)) c a) (l72 J m aht [] (succ m))) (cond (b==31) (jj J 1 26 (succ m) (Ta 0 a (a.length:Int) 0 c) (l72 J m aa1 [] (succ m))) (cond (b==28) (jj J 1 34 (succ m) (YL e a (a.length:Int) 0 c) (l72 J m YI [] (succ m))) (cond (b==27) ((idx e 1).bind fun j=>(kE m a j).bind fun k=>some k) (jj J 0 42 0 (YK c a) (e72 J m ahs [])))))))) (by simp only[aT,(vG m d),vF m,uq m,uw m,uo m];rfl)
theorem Jz m b a:e72 jn m [] [] ⟨[.dat 3 (.int b),.dat 23 (.lst a)],[],0⟩=dM (m+1) b a:=
 tq (g:=fun J=>cond (b==27) ((cutL a 0 1).bind fun d=>jj J 1 9 (succ m) (Wh b a d (d.length:Int) 0 aC []) (l72 J m Wd [] (succ m))) (cond (b==28) ((cutL a 1 (a.length:Int)).bind fun c=>jj J 1 9 (succ m) (Wh b a c (c.length:Int) 0 aC []) (l72 J m Wd [] (succ m))) (jj J 1 9 (succ m) (Wh b a a (a.length:Int) 0 aC []) (l72 J m Wd [] (succ m))))) (by simp only[aT,vG m];rfl)
def e89(J:Q1)(m:Nat):=evAt Tryz.prog env (ct m) J (m+1) 218 14 Tryz.f218 d15
theorem MV m b a:e89 jn m [] [] ⟨[.dat 26 b,.dat 3 (.int a)],[],0⟩=kF (m+1) b a:=
 tq (g:=fun J=>cond (1==a) (some 1) ((i95 m b 1 a).bind fun c=>some c.1)) (by rfl)
def apB:List Nat:=[1,1,0,1,0,1]
def ahu:List Nat:=apB++[0]
def apC:List Nat:=[1,1,0,1,1,1,0,1]
def ahv:List Nat:=apC++[0]
def e95(J:Q29)(m:Nat):=evAt Tryz.prog env (ct m) J (m+1) 234 39 Tryz.f234 d95
def l95(J:Q29)(m:Nat):=loopAt Tryz.prog env (ct m) J (m+1) 234 39 Tryz.f234 d95
def ahw(a:List Dt)(b c d e:Int):St:=⟨tsOf [(1,(.fn 235 [.ptr 0 [] 0,.ptr 1 [] 0])),(13,.dat 23 (.lst a)),(14,.dat 3 (.int b)),(15,.dat 3 (.int c))],[.box 3 (.dat 3 (.int d)),.box 3 (.dat 3 (.int e))],2⟩
def ahx(a:List Dt)(b c d e:Int):St:=⟨tsOf [(1,(.fn 235 [.ptr 0 [] 0,.ptr 1 [] 0])),(27,.dat 24 (.lst a)),(28,.dat 3 (.int b)),(29,.dat 3 (.int c))],[.box 3 (.dat 3 (.int d)),.box 3 (.dat 3 (.int e))],2⟩
theorem Qp m:∀a c d b e f,l95 jn m ahu [] a (ahw c d b e f)=F5 m (i96 m) a c d b e f
 |0,_,_,_,_,_=>rfl
 |a+1,c,d,b,e,f=>
  tl (g:=fun J=>cond (b<d) ((idx c b).bind fun i=>(i96 m i e f).bind fun h=>cond (!h.1) (some (h.2.1,h.2.2)) (jj J 1 4 a (ahw c d (wrap .i64 (b+1)) h.2.1 h.2.2) (l95 J m ahu [] a))) (some (e,f))) (by simp only[aT,(Qp m a)];rfl)
theorem Qq m:∀a c d b e f,l95 jn m ahv [] a (ahx c d b e f)=F6 m (i96 m) a c d b e f
 |0,_,_,_,_,_=>rfl
 |a+1,c,d,b,e,f=>
  tl (g:=fun J=>cond (b<d) ((idx c b).bind fun i=>(i96 m (fld i 1) e f).bind fun h=>cond (!h.1) (some (h.2.1,h.2.2)) (jj J 1 10 a (ahx c d (wrap .i64 (b+1)) h.2.1 h.2.2) (l95 J m ahv [] a))) (some (e,f))) (by simp only[aT,(Qq m a)];rfl)
theorem amP m a b c:e95 jn m [] [] ⟨[.dat 26 a,(.fn 235 [.ptr 0 [] 0,.ptr 1 [] 0])],[.box 3 (.dat 3 (.int b)),.box 3 (.dat 3 (.int c))],2⟩=i95 (m+1) a b c:=
 tq (g:=fun J=>cond (I a 0==6) (jj J 1 4 (succ m) (ahw (L a 3) ((L a 3).length:Int) 0 b c) (l95 J m ahu [] (succ m))) (cond (I a 0==5) (jj J 1 10 (succ m) (ahx (L a 4) ((L a 4).length:Int) 0 b c) (l95 J m ahv [] (succ m))) (some (b,c)))) (by simp only[aT,Qp m,Qq m];rfl)
def e96(J:Q48)(m:Nat):=evAt Tryz.prog env (ct m) J (m+1) 235 15 Tryz.f235 d96
theorem amQ m c a b:e96 jn m [] [] ⟨[.dat 26 c,.ptr 0 [] 0,.ptr 1 [] 0],[.box 3 (.dat 3 (.int a)),.box 3 (.dat 3 (.int b))],2⟩=i96 (m+1) c a b:=
 tq (g:=fun J=>(kF m c (wrap .i64 (b-a))).bind fun d=>some (decide (wrap .i64 (a+d)<b),wrap .i64 (a+d),b)) (by rfl)
def e76(J:Q1)(m:Nat):=evAt Tryz.prog env (ct m) J (m+1) 169 5 Tryz.f169 d15
theorem MW m a:e76 jn m [] [] ⟨[.dat 26 a],[],0⟩=mK (m+1) a:=
 tq (g:=fun J=>(kF m a 1025).bind fun b=>some b) (by rfl)
def e90(J:Q1)(m:Nat):=evAt Tryz.prog env (ct m) J (m+1) 219 13 Tryz.f219 d15
theorem MX m b a:e90 jn m [] [] ⟨[.dat 26 b,.dat 3 (.int a)],[],0⟩=kG (m+1) b a:=
 tq (g:=fun J=>cond (a==1) (some 1) ((i97 m b 0 a).bind fun c=>some (wrap .i64 (1+c.1)))) (by rfl)
def apD:List Nat:=[1,1,0,1,0,1]
def ahy:List Nat:=apD++[0]
def apE:List Nat:=[1,1,0,1,1,1,0,1]
def ahz:List Nat:=apE++[0]
def e97(J:Q29)(m:Nat):=evAt Tryz.prog env (ct m) J (m+1) 234 39 Tryz.f234 d95
def l97(J:Q29)(m:Nat):=loopAt Tryz.prog env (ct m) J (m+1) 234 39 Tryz.f234 d95
def ahA(a:List Dt)(b c d e:Int):St:=⟨tsOf [(1,(.fn 236 [.ptr 0 [] 0,.ptr 1 [] 0])),(13,.dat 23 (.lst a)),(14,.dat 3 (.int b)),(15,.dat 3 (.int c))],[.box 3 (.dat 3 (.int d)),.box 3 (.dat 3 (.int e))],2⟩
def ahB(a:List Dt)(b c d e:Int):St:=⟨tsOf [(1,(.fn 236 [.ptr 0 [] 0,.ptr 1 [] 0])),(27,.dat 24 (.lst a)),(28,.dat 3 (.int b)),(29,.dat 3 (.int c))],[.box 3 (.dat 3 (.int d)),.box 3 (.dat 3 (.int e))],2⟩
theorem Qr m:∀a c d b e f,l97 jn m ahy [] a (ahA c d b e f)=F7 m (i98 m) a c d b e f
 |0,_,_,_,_,_=>rfl
 |a+1,c,d,b,e,f=>
  tl (g:=fun J=>cond (b<d) ((idx c b).bind fun i=>(i98 m i e f).bind fun h=>cond (!h.1) (some (h.2.1,h.2.2)) (jj J 1 4 a (ahA c d (wrap .i64 (b+1)) h.2.1 h.2.2) (l97 J m ahy [] a))) (some (e,f))) (by simp only[aT,(Qr m a)];rfl)
theorem Qs m:∀a c d b e f,l97 jn m ahz [] a (ahB c d b e f)=F8 m (i98 m) a c d b e f
 |0,_,_,_,_,_=>rfl
 |a+1,c,d,b,e,f=>
  tl (g:=fun J=>cond (b<d) ((idx c b).bind fun i=>(i98 m (fld i 1) e f).bind fun h=>cond (!h.1) (some (h.2.1,h.2.2)) (jj J 1 10 a (ahB c d (wrap .i64 (b+1)) h.2.1 h.2.2) (l97 J m ahz [] a))) (some (e,f))) (by simp only[aT,(Qs m a)];rfl)
theorem amR m a b c:e97 jn m [] [] ⟨[.dat 26 a,(.fn 236 [.ptr 0 [] 0,.ptr 1 [] 0])],[.box 3 (.dat 3 (.int b)),.box 3 (.dat 3 (.int c))],2⟩=i97 (m+1) a b c:=
 tq (g:=fun J=>cond (I a 0==6) (jj J 1 4 (succ m) (ahA (L a 3) ((L a 3).length:Int) 0 b c) (l97 J m ahy [] (succ m))) (cond (I a 0==5) (jj J 1 10 (succ m) (ahB (L a 4) ((L a 4).length:Int) 0 b c) (l97 J m ahz [] (succ m))) (some (b,c)))) (by simp only[aT,Qr m,Qs m];rfl)
def e98(J:Q48)(m:Nat):=evAt Tryz.prog env (ct m) J (m+1) 236 15 Tryz.f236 d96
theorem amS m d a b:e98 jn m [] [] ⟨[.dat 26 d,.ptr 0 [] 0,.ptr 1 [] 0],[.box 3 (.dat 3 (.int a)),.box 3 (.dat 3 (.int b))],2⟩=i98 (m+1) d a b:=
 tq (g:=fun J=>(kG m d (wrap .i64 (b-1))).bind fun c=>some (decide (cond (a<c) c a<wrap .i64 (b-1)),cond (a<c) c a,b)) (by rfl)
def e77(J:Q1)(m:Nat):=evAt Tryz.prog env (ct m) J (m+1) 170 5 Tryz.f170 d15
theorem MZ m a:e77 jn m [] [] ⟨[.dat 26 a],[],0⟩=mM (m+1) a:=
 tq (g:=fun J=>(kG m a 17).bind fun b=>some b) (by rfl)
def apF:List Nat:=[1,1,0,1,0,1,1]
def ahC:List Nat:=apF++[0]
def apG:List Nat:=[1,1,1,0,1,0,1,1]
def ahD:List Nat:=apG++[0]
def e93(J:Q46)(m:Nat):=evAt Tryz.prog env (ct m) J (m+1) 156 68 Tryz.f156 d22
def l93(J:Q46)(m:Nat):=loopAt Tryz.prog env (ct m) J (m+1) 156 68 Tryz.f156 d22
def ahE(a:List Dt)(b c:Int)(d e:Dt)(f g:Int)(h:ByteArray)(i j:List Dt):St:=⟨tsOf [(1,.ptr 0 [] 0),(2,.ptr 1 [] 0),(3,.ptr 2 [] 0),(25,.dat 23 (.lst a)),(26,.dat 3 (.int b)),(27,.dat 3 (.int c))],[.box 26 (.dat 26 d),.box 26 (.dat 26 e),.box 26 (.agg 26 [.dat 3 (.int f),.dat 3 (.int g),.dat 9 (.str h),.row 3,.row 4]),.row 23 i,.row 24 j],0⟩
def ahF(a:List Dt)(b c:Int)(d:Dt)(e f:Int)(g:ByteArray)(h i:List Dt):St:=⟨tsOf [(2,.ptr 0 [] 0),(3,.ptr 1 [] 0),(49,.dat 24 (.lst a)),(50,.dat 3 (.int b)),(51,.dat 3 (.int c))],[.box 26 (.dat 26 d),.box 26 (.agg 26 [.dat 3 (.int e),.dat 3 (.int f),.dat 9 (.str g),.row 2,.row 3]),.row 23 h,.row 24 i],0⟩
def ahG(a b:Dt)(c d:Int)(e:ByteArray)(f g:List Dt):St:=⟨tsOf [(1,.ptr 0 [] 0),(2,.ptr 1 [] 0),(3,.ptr 2 [] 0)],[.box 26 (.dat 26 a),.box 26 (.dat 26 b),.box 26 (.agg 26 [.dat 3 (.int c),.dat 3 (.int d),.dat 9 (.str e),.row 3,.row 4]),.row 23 f,.row 24 g],0⟩
theorem wR m:∀c d e a l f h i j b,l93 jn m ahD [] c (ahF d e a l f h i j b)=oD m (dx m) c d e a l f h i j b
 |0,_,_,_,_,_,_,_,_,_=>rfl
 |c+1,d,e,a,l,f,h,i,j,b=>
  tl (g:=fun J=>cond (a<e) ((idx d a).bind fun n=>(dx m (fld n 1)).bind fun k=>(inL b a).bind fun o=>(b[a.toNat]?).bind fun p=>jj J 1 12 c (ahF d e (wrap .i64 (a+1)) l f h i j (List.set b a.toNat (agg [str (S n 0),agg [int k.1,int k.2.1,str k.2.2.1,lst k.2.2.2.1,lst k.2.2.2.2]]))) (l93 J m ahD [] c)) (some (f,h,i,j,b))) (by simp only[aT,(wR m c)];rfl)
theorem wS m a f b c d e h:e93 jn m [1,1,1] [] (ahG a f b c d e h)=jP m (dx m) a f b c d e h:=
 tq (g:=fun J=>bif 0<((L a 4).length:Int)then(mkL ((L a 4).length:Int) ((L a 4).length:Int) Bq).bind fun i=>jj J 1 12 (succ m) (ahF (L a 4) ((L a 4).length:Int) 0 f b c d e i) (l93 J m ahD [] (succ m))else some (b,c,d,e,h)) (by simp only[aT,wR m];rfl)
theorem wT m:∀c d e a f h i j k b l,l93 jn m ahC [] c (ahE d e a f h i j k b l)=lZ m (dx m) c d e a f h i j k b l
 |0,_,_,_,_,_,_,_,_,_,_=>rfl
 |c+1,d,e,a,f,h,i,j,k,b,l=>
  tl (g:=fun J=>cond (a<e) ((idx d a).bind fun o=>(dx m o).bind fun n=>(inL b a).bind fun p=>(b[a.toNat]?).bind fun q=>jj J 1 5 c (ahE d e (wrap .i64 (a+1)) f h i j k (List.set b a.toNat (agg [int n.1,int n.2.1,str n.2.2.1,lst n.2.2.2.1,lst n.2.2.2.2])) l) (l93 J m ahC [] c)) (jj J 0 9 0 (ahG f h i j k b l) (e93 J m [1,1,1] []))) (by simp only[aT,(wT m c),wS m];rfl)
theorem M0 m a:e93 jn m [] [] ⟨[.dat 26 a],[],0⟩=dx (m+1) a:=
 tq (g:=fun J=>bif 0<((L a 3).length:Int)then(mkL ((L a 3).length:Int) ((L a 3).length:Int) aC).bind fun b=>jj J 1 5 (succ m) (ahE (L a 3) ((L a 3).length:Int) 0 a aC (I a 0) (I a 1) (S a 2) b []) (l93 J m ahC [] (succ m))else jj J 0 9 0 (ahG a aC (I a 0) (I a 1) (S a 2) [] []) (e93 J m [1,1,1] [])) (by simp only[aT,wT m,wS m];rfl)
def ahH:List Nat:=[1,1,0,1,0]
def e94(J:Q1)(m:Nat):=evAt Tryz.prog env (ct m) J (m+1) 157 25 Tryz.f157 d15
def l94(J:Q1)(m:Nat):=loopAt Tryz.prog env (ct m) J (m+1) 157 25 Tryz.f157 d15
def ahI(a:ByteArray)(b c:Int)(d:Dt):St:=⟨tsOf [(1,.dat 9 (.str a)),(2,.ptr 0 [] 0),(11,.dat 3 (.int b)),(12,.dat 3 (.int c))],[.box 26 (.dat 26 d)],0⟩
theorem yF m:∀b c d a e,l94 jn m ahH [] b (ahI c d a e)=pG m b c d a e
 |0,_,_,_,_=>rfl
 |b+1,c,d,a,e=>
  tl (g:=fun J=>cond (a<d) ((idx (L e 4) a).bind fun f=>cond ((S f 0).toList==c.toList) (some a) (jj J 1 4 b (ahI c d (wrap .i64 (a+1)) e) (l94 J m ahH [] b))) (some (-1))) (by simp only[aT,(yF m b)];rfl)
theorem OD m a b:e94 jn m [] [] ⟨[.dat 26 a,.dat 9 (.str b)],[],0⟩=qc (m+1) a b:=
 tq (g:=fun J=>cond (I a 0 !=5) (some (-1)) (jj J 1 4 (succ m) (ahI b ((L a 4).length:Int) 0 a) (l94 J m ahH [] (succ m)))) (by simp only[aT,yF m];rfl)
def e88(J:Q4)(m:Nat):=evAt Tryz.prog env (ct m) J (m+1) 119 38 Tryz.f119 d23
theorem Tc m h d e:e88 jn m [] [] ⟨[.dat 26 h,.dat 9 (.str d),.dat 26 e],[],0⟩=rJ (m+1) h d e:=
 tq (g:=fun J=>(dx m h).bind fun a=>cond (a.1 !=5) (some (agg [int a.1,int a.2.1,str a.2.2.1,lst a.2.2.2.1,lst a.2.2.2.2])) ((qc m (agg [int a.1,int a.2.1,str a.2.2.1,lst a.2.2.2.1,lst a.2.2.2.2]) d).bind fun f=>bif 0<=f then(dx m e).bind fun b=>(inL a.2.2.2.2 f).bind fun k=>(a.2.2.2.2[f.toNat]?).bind fun i=>some (agg [int a.1,int a.2.1,str a.2.2.1,lst a.2.2.2.1,lst (List.set a.2.2.2.2 f.toNat (agg [str (S i 0),agg [int b.1,int b.2.1,str b.2.2.1,lst b.2.2.2.1,lst b.2.2.2.2]]))])else(dx m e).bind fun c=>(app a.2.2.2.2 [agg [str d,agg [int c.1,int c.2.1,str c.2.2.1,lst c.2.2.2.1,lst c.2.2.2.2]]]).bind fun j=>some (agg [int a.1,int a.2.1,str a.2.2.1,lst a.2.2.2.1,lst j]))) (by rfl)
def M4:List Nat:=[1,1,1,0,1,0]
def ahJ:List Nat:=M4++[0,1,1]
def apH:List Nat:=ahJ++[0,0,1,1]
def apI:List Nat:=apH++[1]
def apJ:List Nat:=apI++[0,1]
def ahK:List Nat:=ahJ++[0,0,1,0,1,0,1]
def ahL:List Nat:=apJ++[0]
def e74(J:Q4)(m:Nat):=evAt Tryz.prog env (ct m) J (m+1) 167 47 Tryz.f167 d23
def l74(J:Q4)(m:Nat):=loopAt Tryz.prog env (ct m) J (m+1) 167 47 Tryz.f167 d23
def Qt(a:Bool)(b:List Dt)(c d:Int)(e f:Dt):St:=⟨tsOf [(2,.ptr 0 [] 0),(3,.ptr 1 [] 0),(4,.dat 4 (.bool a)),(10,.dat 23 (.lst b)),(11,.dat 3 (.int c)),(12,.dat 3 (.int d))],[.box 26 (.dat 26 e),.box 26 (.dat 26 f)],0⟩
def YM(a:Bool)(b:List Dt)(c d:Int)(e:List Dt)(f g:Int)(h i:Dt):St:=⟨tsOf [(2,.ptr 0 [] 0),(3,.ptr 1 [] 0),(4,.dat 4 (.bool a)),(10,.dat 23 (.lst b)),(11,.dat 3 (.int c)),(12,.dat 3 (.int d)),(27,.dat 24 (.lst e)),(28,.dat 3 (.int f)),(29,.dat 3 (.int g))],[.box 26 (.dat 26 h),.box 26 (.dat 26 i)],0⟩
def ahM(a:Bool)(b:List Dt)(c d e:Int)(f:Bool)(g h i:Dt):St:=⟨tsOf [(2,.ptr 0 [] 0),(3,.ptr 1 [] 0),(4,.dat 4 (.bool a)),(6,.ptr 2 [] 0),(10,.dat 23 (.lst b)),(11,.dat 3 (.int c)),(12,.dat 3 (.int d)),(17,.dat 3 (.int e)),(19,.dat 4 (.bool f))],[.box 26 (.dat 26 g),.box 26 (.dat 26 h),.box 26 (.dat 26 i)],0⟩
abbrev akR(m h:Nat)(a:Q22):Prop:=∀b c d e f g,l74 jn m M4 [] h (Qt b c d e f g)=a b c d e f g
theorem yG m b a(o:akR m b a):∀c f h i j k l d n e,l74 jn m ahL [b] c (YM f h i j k l d n e)=pJ m a c f h i j k l d n e
 |0,_,_,_,_,_,_,_,_,_=>rfl
 |c+1,f,h,i,j,k,l,d,n,e=>
  tl (g:=fun J=>cond (d<l) ((idx k d).bind fun p=>(rJ m e (S p 0) (fld p 1)).bind fun q=>jj J 1 14 c (YM f h i j k l (wrap .i64 (d+1)) n q) (l74 J m ahL [b] c)) (cond (1024<((L e 4).length:Int)) ((cB m).bind fun r=>some r) (jj J 1 4 b (Qt f h i (wrap .i64 (j+1)) n e) (l74 J m M4 [] b)))) (by simp only[aT,(yG m b a o c),o];rfl)
theorem Ip m b a(n:akR m b a) c d e f k l h j i:e74 jn m ahK [b] (ahM c d e f k l h j i)=sM m a c d e f k l h j i:=
 tq (g:=fun J=>cond l (jj J 1 4 b (Qt c d e (wrap .i64 (f+1)) h j) (l74 J m M4 [] b)) (cond (k==5) (cond c (jj J 1 4 b (Qt false d e (wrap .i64 (f+1)) h i) (l74 J m M4 [] b)) (jj J 1 14 (succ m) (YM c d e f (L i 4) ((L i 4).length:Int) 0 h j) (l74 J m ahL [b] (succ m)))) ((cB m).bind fun o=>some o))) (by simp only[aT,n,yG m b a n];rfl)
theorem yH m:∀a h d e b i f,l74 jn m M4 [] a (Qt h d e b i f)=gF m a h d e b i f
 |0,_,_,_,_,_,_=>rfl
 |a+1,h,d,e,b,i,f=>
  tl (g:=fun J=>cond (b<e) ((idx d b).bind fun c=>cond (I c 0==0) (jj J 0 10 0 (ahM h d e b (I c 0) (I c 0==0) i f c) (e74 J m ahK [a])) (jj J 0 10 0 (ahM h d e b (I c 0) (I c 0==2) i f c) (e74 J m ahK [a]))) (some f)) (by simp only[aT,Ip m a (gF m a) (yH m a)];rfl)
theorem OE m a:e74 jn m [] [] ⟨[.dat 23 (.lst a)],[],0⟩=oF (m+1) a:=
 tq (g:=fun J=>jj J 1 4 (succ m) (Qt true a (a.length:Int) 0 aC Y8) (l74 J m M4 [] (succ m))) (by simp only[aT,yH m];rfl)
def aa2:List Nat:=[1,1,0,1,0]
def apK:List Nat:=[1,1,0,1,0,0,1,1]
def aa3:List Nat:=apK++[0,0,1,1]
def e99(J:Q0)(m:Nat):=evAt Tryz.prog env (ct m) J (m+1) 238 39 Tryz.f238 d47
def l99(J:Q0)(m:Nat):=loopAt Tryz.prog env (ct m) J (m+1) 238 39 Tryz.f238 d47
def aa4(a:ByteArray)(b c:Int):St:=⟨tsOf [(0,.dat 9 (.str a)),(18,.dat 3 (.int b)),(19,.dat 3 (.int c))],[],0⟩
def aa5(a:ByteArray)(b c:Int)(d:Bool):St:=⟨tsOf [(0,.dat 9 (.str a)),(18,.dat 3 (.int b)),(19,.dat 3 (.int c)),(37,.dat 4 (.bool d))],[],0⟩
def aa6(a:ByteArray)(b:Bool):St:=⟨tsOf [(0,.dat 9 (.str a)),(16,.dat 4 (.bool b))],[],0⟩
abbrev apL(m e:Nat)(a:Q28):Prop:=∀b c d,l99 jn m aa2 [] e (aa4 b c d)=a b c d
theorem DY m b a(h:apL m b a) c d e f:e99 jn m aa3 [b] (aa5 c d e f)=fP m a c d e f:=
 tq (g:=fun J=>cond f (some false) (jj J 1 4 b (aa4 c d (wrap .i64 (e+1))) (l99 J m aa2 [] b))) (by simp only[aT,h];rfl)
theorem vH m:∀b c d a,l99 jn m aa2 [] b (aa4 c d a)=fQ m b c d a
 |0,_,_,_=>rfl
 |b+1,c,d,a=>
  tl (g:=fun J=>cond (a<d) ((idxS c a).bind fun e=>cond (e<33) (jj J 0 7 0 (aa5 c d a true) (e99 J m aa3 [b])) ((idxS c a).bind fun f=>cond (126<f) (jj J 0 7 0 (aa5 c d a true) (e99 J m aa3 [b])) ((idxS c a).bind fun h=>jj J 0 7 0 (aa5 c d a (h==46)) (e99 J m aa3 [b])))) (some true)) (by simp only[aT,DY m b (fQ m b) (vH m b)];rfl)
theorem DZ m a b:e99 jn m [1,0,1] [] (aa6 a b)=fT m a b:=
 tq (g:=fun J=>cond b (some false) (jj J 1 4 (succ m) (aa4 a (a.size:Int) 0) (l99 J m aa2 [] (succ m)))) (by simp only[aT,vH m];rfl)
theorem JA m a:e99 jn m [] [] ⟨[.dat 9 (.str a)],[],0⟩=mW (m+1) a:=
 tq (g:=fun J=>cond ((a.size:Int)<1) (jj J 0 2 0 (aa6 a true) (e99 J m [1,0,1] [])) (bif 32<(a.size:Int)then jj J 0 2 0 (aa6 a true) (e99 J m [1,0,1] [])else(idxS a 0).bind fun b=>jj J 0 2 0 (aa6 a (b==36)) (e99 J m [1,0,1] []))) (by simp only[aT,DZ m];rfl)
def Qu:List Nat:=[1,1,1,0,1]
def Qv:List Nat:=[1,1,1,1,0,1]
def Qw:List Nat:=[1,1,1,1,1,0,1,0,1]
def apM:List Nat:=Qw++[1,1,1,1,1,1,1,1,1,1,1,1,0,0,1]
def ahN:List Nat:=apM++[0]
def e78(J:Q0)(m:Nat):=evAt Tryz.prog env (ct m) J (m+1) 171 132 Tryz.f171 d47
def l78(J:Q0)(m:Nat):=loopAt Tryz.prog env (ct m) J (m+1) 171 132 Tryz.f171 d47
def YN(a:List Dt)(b c:Int):St:=⟨tsOf [(117,.dat 23 (.lst a)),(118,.dat 3 (.int b)),(119,.dat 3 (.int c))],[],0⟩
def Wi(a:Int)(b:Bool)(c:Dt):St:=⟨tsOf [(1,.ptr 0 [] 0),(70,.dat 3 (.int a)),(71,.dat 4 (.bool b))],[.box 26 (.dat 26 c)],0⟩
def Qx(a:Bool)(b:Dt):St:=⟨tsOf [(1,.ptr 0 [] 0),(68,.dat 4 (.bool a))],[.box 26 (.dat 26 b)],0⟩
def Qy(a:Bool)(b:Dt):St:=⟨tsOf [(1,.ptr 0 [] 0),(48,.dat 4 (.bool a))],[.box 26 (.dat 26 b)],0⟩
def aa7(a b:Bool)(c:Dt):St:=⟨tsOf [(1,.ptr 0 [] 0),(3,.dat 4 (.bool a)),(4,.dat 4 (.bool b))],[.box 26 (.dat 26 c)],0⟩
def aa8(a:Bool)(b:Dt):St:=⟨tsOf [(1,.ptr 0 [] 0),(3,.dat 4 (.bool a))],[.box 26 (.dat 26 b)],0⟩
theorem wU m:∀a c d b,l78 jn m ahN [] a (YN c d b)=l8 m (bM m) (bK m) a c d b
 |0,_,_,_=>rfl
 |a+1,c,d,b=>
  tl (g:=fun J=>cond (b<d) ((idx c b).bind fun e=>(bM m e).bind fun f=>cond (!f) (some false) (jj J 1 25 a (YN c d (wrap .i64 (b+1))) (l78 J m ahN [] a))) (some true)) (by simp only[aT,(wU m a)];rfl)
theorem FI m b c a:e78 jn m Qw [] (Wi b c a)=fK m (bM m) (bK m) b c a:=
 tq (g:=fun J=>cond c (some true) (cond (b==9) (cond (I a 1==0) (some true) (some (I a 1==1))) (cond (b==10) (some (decide (0<=I a 1))) (cond (b==4) (cond (((S a 2).size:Int)<=4096) ((utf8_ValidString (S a 2)).bind fun d=>some d) (some false)) (cond (b==7) (some (decide (((S a 2).size:Int)<=4096))) (cond (b==8) (some (((S a 2).size:Int)==12)) (cond (b==6) (jj J 1 25 (succ m) (YN (L a 3) ((L a 3).length:Int) 0) (l78 J m ahN [] (succ m))) (cond (b==5) ((bK m (L a 4)).bind fun e=>some e) (some false))))))))) (by simp only[aT,wU m];rfl)
theorem FJ m b a:e78 jn m Qv [] (Qx b a)=gI m (bM m) (bK m) b a:=
 tq (g:=fun J=>cond b (some false) (cond (I a 0==1) (jj J 0 12 0 (Wi (I a 0) (I a 0==1) a) (e78 J m Qw [])) (cond (I a 0==2) (jj J 0 12 0 (Wi (I a 0) (I a 0==2) a) (e78 J m Qw [])) (cond (I a 0==11) (jj J 0 12 0 (Wi (I a 0) (I a 0==11) a) (e78 J m Qw [])) (jj J 0 12 0 (Wi (I a 0) (I a 0==3) a) (e78 J m Qw [])))))) (by simp only[aT,FI m];rfl)
theorem FK m b a:e78 jn m Qu [] (Qy b a)=gJ m (bM m) (bK m) b a:=
 tq (g:=fun J=>cond b (some false) (cond (I a 0 !=6) (cond (0<((L a 3).length:Int)) (jj J 0 6 0 (Qx true a) (e78 J m Qv [])) (cond (I a 0 !=5) (jj J 0 6 0 (Qx (decide (0<((L a 4).length:Int))) a) (e78 J m Qv [])) (jj J 0 6 0 (Qx false a) (e78 J m Qv [])))) (cond (I a 0 !=5) (jj J 0 6 0 (Qx (decide (0<((L a 4).length:Int))) a) (e78 J m Qv [])) (jj J 0 6 0 (Qx false a) (e78 J m Qv []))))) (by simp only[aT,FJ m];rfl)
theorem FL m c b a:e78 jn m [1,1,1] [] (aa7 c b a)=gK m (bM m) (bK m) c b a:=
 tq (g:=fun J=>cond (!c) (cond (I a 1 !=0) (jj J 0 4 0 (Qy true a) (e78 J m Qu [])) (cond (!b) (jj J 0 4 0 (Qy (!(S a 2).toList==[]) a) (e78 J m Qu [])) (jj J 0 4 0 (Qy false a) (e78 J m Qu [])))) (cond (!b) (jj J 0 4 0 (Qy (!(S a 2).toList==[]) a) (e78 J m Qu [])) (jj J 0 4 0 (Qy false a) (e78 J m Qu [])))) (by simp only[aT,FK m];rfl)
theorem FM m b a:e78 jn m [1,1] [] (aa8 b a)=gL m (bM m) (bK m) b a:=
 tq (g:=fun J=>cond (I a 0==4) (jj J 0 3 0 (aa7 b true a) (e78 J m [1,1,1] [])) (cond (I a 0==7) (jj J 0 3 0 (aa7 b true a) (e78 J m [1,1,1] [])) (jj J 0 3 0 (aa7 b (I a 0==8) a) (e78 J m [1,1,1] [])))) (by simp only[aT,FL m];rfl)
theorem M5 m a:e78 jn m [] [] ⟨[.dat 26 a],[],0⟩=bM (m+1) a:=
 tq (g:=fun J=>cond (I a 0==3) (jj J 0 2 0 (aa8 true a) (e78 J m [1,1] [])) (cond (I a 0==9) (jj J 0 2 0 (aa8 true a) (e78 J m [1,1] [])) (jj J 0 2 0 (aa8 (I a 0==10) a) (e78 J m [1,1] [])))) (by simp only[aT,FM m];rfl)
def aa9:List Nat:=[1,1,0,1,0]
def apN:List Nat:=[1,1,0,1,0,0,1,1]
def abb:List Nat:=apN++[0,0,1,0,1]
def e92(J:Q0)(m:Nat):=evAt Tryz.prog env (ct m) J (m+1) 221 33 Tryz.f221 d47
def l92(J:Q0)(m:Nat):=loopAt Tryz.prog env (ct m) J (m+1) 221 33 Tryz.f221 d47
def abd(a:List Dt)(b c:Int)(d:List Dt):St:=⟨tsOf [(3,.row 0),(7,.dat 24 (.lst a)),(8,.dat 3 (.int b)),(9,.dat 3 (.int c))],[(.map 223 d)],0⟩
def abe(a:List Dt)(b c:Int)(d:Bool)(e:List Dt)(f:Dt):St:=⟨tsOf [(3,.row 0),(5,.ptr 1 [] 0),(7,.dat 24 (.lst a)),(8,.dat 3 (.int b)),(9,.dat 3 (.int c)),(28,.dat 4 (.bool d))],[(.map 223 e),.box 48 (.dat 48 f)],0⟩
abbrev apO(m f:Nat)(a:Q24):Prop:=∀b c d e,l92 jn m aa9 [] f (abd b c d e)=a b c d e
theorem yI m b a(j:apO m b a) c d e f h i:e92 jn m abb [b] (abe c d e f h i)=eZ m (bM m) a c d e f h i:=
 tq (g:=fun J=>cond f (some false) (jj J 1 3 b (abd c d (wrap .i64 (e+1)) (mput h (S i 0) (bool true))) (l92 J m aa9 [] b))) (by simp only[aT,j];rfl)
theorem qB m:∀a c d b e,l92 jn m aa9 [] a (abd c d b e)=eB m (bM m) a c d b e
 |0,_,_,_,_=>rfl
 |a+1,c,d,b,e=>
  tl (g:=fun J=>cond (b<d) ((idx c b).bind fun f=>(mW m (S f 0)).bind fun h=>cond (!h) (jj J 0 6 0 (abe c d b true e f) (e92 J m abb [a])) (bif Dt.toBool (mgetD e (S f 0) (bool false))then jj J 0 6 0 (abe c d b true e f) (e92 J m abb [a])else(bM m (fld f 1)).bind fun i=>jj J 0 6 0 (abe c d b (!i) e f) (e92 J m abb [a]))) (some true)) (by simp only[aT,yI m a (eB m (bM m) a) (qB m a)];rfl)
theorem AU m a:e92 jn m [] [] ⟨[.dat 24 (.lst a)],[],0⟩=bK (m+1) a:=
 tq (g:=fun J=>jj J 1 3 (succ m) (abd a (a.length:Int) 0 []) (l92 J m aa9 [] (succ m))) (by simp only[aT,qB m];rfl)
def e53(J:Q0)(m:Nat):=evAt Tryz.prog env (ct m) J (m+1) 122 15 Tryz.f122 d47
theorem M6 m a:e53 jn m [] [] ⟨[.dat 26 a],[],0⟩=kH (m+1) a:=
 tq (g:=fun J=>(mK m a).bind fun b=>cond (b<=1024) ((mM m a).bind fun c=>cond (c<=16) ((bM m a).bind fun d=>some d) (some false)) (some false)) (by rfl)
def e40(J:Q4)(m:Nat):=evAt Tryz.prog env (ct m) J (m+1) 84 21 Tryz.f84 d23
theorem Td m a b c:e40 jn m [] [] ⟨[.dat 29 a,.dat 26 b,.dat 160 c],[],0⟩=bU (m+1) a b c:=
 tq (g:=fun J=>(dA m a b c).bind fun d=>cond (I d 0==0) (some aC) ((kH m d).bind fun e=>cond (!e) ((cB m).bind fun f=>some f) (some d))) (by rfl)
def ahO:List Nat:=[1,1,1,0,1,0]
def D5:List Nat:=[1,1,1,1,0,1,0,1]
def y8:List Nat:=D5++[1,1]
def YO:List Nat:=[1,0,1,0,1,1,1,1,1,1,1]
def apP:List Nat:=[1,0,1,0,1,1,1,1,1,0,0,1]
def D6:List Nat:=y8++[1,1]
def ahP:List Nat:=apP++[0]
def D7:List Nat:=D6++[1,1]
def M7:List Nat:=D7++[1,1]
def e52(J:Q4)(m:Nat):=evAt Tryz.prog env (ct m) J (m+1) 121 149 Tryz.f121 d23
def l52(J:Q4)(m:Nat):=loopAt Tryz.prog env (ct m) J (m+1) 121 149 Tryz.f121 d23
def ahQ(a b c:Dt):St:=⟨tsOf [(3,.ptr 0 [] 0),(6,.ptr 1 [] 0),(7,.dat 160 a)],[.box 29 (.dat 29 b),.box 26 (.dat 26 c)],0⟩
def YP(a:Dt)(b:List Dt)(c d:Int)(e f g:Dt)(h:List Dt):St:=⟨tsOf [(2,.dat 160 a),(3,.ptr 0 [] 0),(4,.ptr 1 [] 0),(6,.ptr 2 [] 0),(8,.row 3),(59,.dat 27 (.lst b)),(60,.dat 3 (.int c)),(61,.dat 3 (.int d))],[.box 29 (.dat 29 e),.box 26 (.dat 26 f),.box 26 (.dat 26 g),.row 23 h],0⟩
def D8(a:Int)(b:Bool)(c d:Dt)(e:List Dt):St:=⟨tsOf [(3,.ptr 0 [] 0),(6,.ptr 1 [] 0),(8,.row 2),(75,.dat 3 (.int a)),(124,.dat 4 (.bool b))],[.box 29 (.dat 29 c),.box 26 (.dat 26 d),.row 23 e],0⟩
def Iq(a:Int)(b:Bool)(c d:Dt)(e:List Dt):St:=⟨tsOf [(3,.ptr 0 [] 0),(6,.ptr 1 [] 0),(8,.row 2),(75,.dat 3 (.int a)),(114,.dat 4 (.bool b))],[.box 29 (.dat 29 c),.box 26 (.dat 26 d),.row 23 e],0⟩
def Ir(a:Int)(b:Bool)(c d:Dt)(e:List Dt):St:=⟨tsOf [(3,.ptr 0 [] 0),(6,.ptr 1 [] 0),(8,.row 2),(75,.dat 3 (.int a)),(104,.dat 4 (.bool b))],[.box 29 (.dat 29 c),.box 26 (.dat 26 d),.row 23 e],0⟩
def AX(a:Int)(b:Bool)(c d:Dt)(e:List Dt):St:=⟨tsOf [(3,.ptr 0 [] 0),(6,.ptr 1 [] 0),(8,.row 2),(75,.dat 3 (.int a)),(86,.dat 4 (.bool b))],[.box 29 (.dat 29 c),.box 26 (.dat 26 d),.row 23 e],0⟩
def Iu(a:Int)(b:Bool)(c d:Dt)(e:List Dt):St:=⟨tsOf [(3,.ptr 0 [] 0),(6,.ptr 1 [] 0),(8,.row 2),(75,.dat 3 (.int a)),(76,.dat 4 (.bool b))],[.box 29 (.dat 29 c),.box 26 (.dat 26 d),.row 23 e],0⟩
def ahR(a:Dt)(b:Bool)(c d e:Dt):St:=⟨tsOf [(2,.dat 160 a),(3,.ptr 0 [] 0),(4,.ptr 1 [] 0),(6,.ptr 2 [] 0),(47,.dat 4 (.bool b))],[.box 29 (.dat 29 c),.box 26 (.dat 26 d),.box 26 (.dat 26 e)],0⟩
theorem vI m:∀b a c d,l52 jn m ahP [] b (ahQ a c d)=nD m (bU m) (dF m) b a c d
 |0,_,_,_=>rfl
 |b+1,a,c,d=>
  tl (g:=fun J=>bif !List.isEmpty (toLst a)then(idx (toLst a) 0).bind fun e=>bif (S e 0).toList==(S c 2).toList then(idx (toLst a) 0).bind fun f=>(bY m (fld f 1) (L c 1)).bind fun h=>some h else(idx (toLst a) 0).bind fun i=>jj J 1 8 b (ahQ (fld i 2) c d) (l52 J m ahP [] b)else some aC) (by simp only[aT,(vI m b)];rfl)
theorem Ce m b d c k a:e52 jn m M7 [] (D8 b d c k a)=iq m (bU m) (dF m) b d c k a:=
 tq (g:=fun J=>cond d ((dM m (I c 0) a).bind fun e=>some e) (cond (b==36) ((inL a 0).bind fun l=>(a[0]?).bind fun f=>(bS m (I f 0)).bind fun h=>some h) (cond (b==37) ((oF m a).bind fun i=>some i) ((eF m c a).bind fun j=>some j)))) (by rfl)
theorem Cg m a e b d c:e52 jn m D7 [] (Iq a e b d c)=jH m (bU m) (dF m) a e b d c:=
 tq (g:=fun J=>cond e ((dZ (I b 0) c).bind fun f=>some f) (cond (a==26) (jj J 0 55 0 (D8 a (a==26) b d c) (e52 J m M7 [])) (cond (a==30) (jj J 0 55 0 (D8 a (a==30) b d c) (e52 J m M7 [])) (cond (a==31) (jj J 0 55 0 (D8 a (a==31) b d c) (e52 J m M7 [])) (cond (a==29) (jj J 0 55 0 (D8 a (a==29) b d c) (e52 J m M7 [])) (cond (a==27) (jj J 0 55 0 (D8 a (a==27) b d c) (e52 J m M7 [])) (jj J 0 55 0 (D8 a (a==28) b d c) (e52 J m M7 [])))))))) (by simp only[aT,Ce m];rfl)
theorem Ch m a e b d c:e52 jn m D6 [] (Ir a e b d c)=jI m (bU m) (dF m) a e b d c:=
 tq (g:=fun J=>cond e ((gH m (I b 0) c).bind fun f=>some f) (cond (a==21) (jj J 0 48 0 (Iq a (a==21) b d c) (e52 J m D7 [])) (cond (a==22) (jj J 0 48 0 (Iq a (a==22) b d c) (e52 J m D7 [])) (cond (a==23) (jj J 0 48 0 (Iq a (a==23) b d c) (e52 J m D7 [])) (cond (a==24) (jj J 0 48 0 (Iq a (a==24) b d c) (e52 J m D7 [])) (jj J 0 48 0 (Iq a (a==25) b d c) (e52 J m D7 []))))))) (by simp only[aT,Cg m];rfl)
theorem Ci m a e c d b:e52 jn m y8 [] (AX a e c d b)=fZ m (bU m) (dF m) a e c d b:=
 tq (g:=fun J=>cond e ((inL b 0).bind fun k=>(b[0]?).bind fun f=>(inL b 1).bind fun l=>(b[1]?).bind fun h=>(aW m f h).bind fun i=>(jg m (I c 0) i).bind fun j=>some j) (cond (a==16) (jj J 0 42 0 (Ir a (a==16) c d b) (e52 J m D6 [])) (cond (a==17) (jj J 0 42 0 (Ir a (a==17) c d b) (e52 J m D6 [])) (cond (a==18) (jj J 0 42 0 (Ir a (a==18) c d b) (e52 J m D6 [])) (cond (a==19) (jj J 0 42 0 (Ir a (a==19) c d b) (e52 J m D6 [])) (jj J 0 42 0 (Ir a (a==20) c d b) (e52 J m D6 []))))))) (by simp only[aT,Ch m];rfl)
theorem Cj m a e b d c:e52 jn m D5 [] (Iu a e b d c)=jJ m (bU m) (dF m) a e b d c:=
 tq (g:=fun J=>cond e ((dX m (I b 0) c).bind fun f=>some f) (cond (a==9) (jj J 0 36 0 (AX a (a==9) b d c) (e52 J m y8 [])) (cond (a==10) (jj J 0 36 0 (AX a (a==10) b d c) (e52 J m y8 [])) (cond (a==11) (jj J 0 36 0 (AX a (a==11) b d c) (e52 J m y8 [])) (cond (a==12) (jj J 0 36 0 (AX a (a==12) b d c) (e52 J m y8 [])) (cond (a==13) (jj J 0 36 0 (AX a (a==13) b d c) (e52 J m y8 [])) (cond (a==14) (jj J 0 36 0 (AX a (a==14) b d c) (e52 J m y8 [])) (jj J 0 36 0 (AX a (a==15) b d c) (e52 J m y8 []))))))))) (by simp only[aT,Ci m];rfl)
theorem vJ m:∀e f h i c a j d b,l52 jn m ahO [] e (YP f h i c a j d b)=nE m (bU m) (dF m) e f h i c a j d b
 |0,_,_,_,_,_,_,_,_=>rfl
 |e+1,f,h,i,c,a,j,d,b=>
  tl (g:=fun J=>cond (c<i) ((idx h c).bind fun k=>(bU m k j f).bind fun l=>(inL b c).bind fun o=>(b[c.toNat]?).bind fun n=>jj J 1 18 e (YP f h i (wrap .i64 (c+1)) a j d (List.set b c.toNat l)) (l52 J m ahO [] e)) (cond (I a 0==4) (jj J 0 28 0 (Iu (I a 0) (I a 0==4) a d b) (e52 J m D5 [])) (cond (I a 0==5) (jj J 0 28 0 (Iu (I a 0) (I a 0==5) a d b) (e52 J m D5 [])) (cond (I a 0==6) (jj J 0 28 0 (Iu (I a 0) (I a 0==6) a d b) (e52 J m D5 [])) (cond (I a 0==7) (jj J 0 28 0 (Iu (I a 0) (I a 0==7) a d b) (e52 J m D5 [])) (jj J 0 28 0 (Iu (I a 0) (I a 0==8) a d b) (e52 J m D5 []))))))) (by simp only[aT,(vJ m e),Cj m];rfl)
theorem D9 m b d a c e:e52 jn m YO [] (ahR b d a c e)=tN m (bU m) (dF m) b d a c e:=
 tq (g:=fun J=>cond d ((dF m a c b).bind fun f=>some f) ((mkL ((L a 6).length:Int) ((L a 6).length:Int) aC).bind fun h=>jj J 1 18 (succ m) (YP b (L a 6) ((L a 6).length:Int) 0 a c e h) (l52 J m ahO [] (succ m)))) (by simp only[aT,vJ m];rfl)
theorem JB m a b c:e52 jn m [] [] ⟨[.dat 29 a,.dat 26 b,.dat 160 c],[],0⟩=dA (m+1) a b c:=
 tq (g:=fun J=>cond (I a 0==1) (some (fld a 4)) (cond (I a 0==2) ((bY m b (L a 1)).bind fun d=>some d) (cond (I a 0==3) (jj J 1 8 (succ m) (ahQ c a aC) (l52 J m ahP [] (succ m))) (cond (I a 0==32) (jj J 0 15 0 (ahR c (I a 0==32) a b aC) (e52 J m YO [])) (jj J 0 15 0 (ahR c (I a 0==33) a b aC) (e52 J m YO [])))))) (by simp only[aT,vI m,D9 m];rfl)
def apQ:List Nat:=[1,1,1,1,0,1]
def Wj:List Nat:=apQ++[0]
def apR:List Nat:=Wj++[0,1,1]
def abf:List Nat:=apR++[1]
def e67(J:Q4)(m:Nat):=evAt Tryz.prog env (ct m) J (m+1) 160 63 Tryz.f160 d23
def l67(J:Q4)(m:Nat):=loopAt Tryz.prog env (ct m) J (m+1) 160 63 Tryz.f160 d23
def Jh(c:Dt)(d:List Dt)(e f:Int)(g h i:Dt)(j k:Int)(l:ByteArray)(a b:List Dt):St:=⟨tsOf [(2,.dat 160 c),(3,.ptr 0 [] 0),(4,.ptr 1 [] 0),(6,.ptr 2 [] 0),(8,.ptr 3 [] 0),(25,.dat 23 (.lst d)),(26,.dat 3 (.int e)),(27,.dat 3 (.int f))],[.box 29 (.dat 29 g),.box 26 (.dat 26 h),.box 26 (.dat 26 i),.box 26 (.agg 26 [.dat 3 (.int j),.dat 3 (.int k),.dat 9 (.str l),.row 4,.row 5]),.row 23 a,.row 24 b],0⟩
abbrev apS(m o:Nat)(a:Q61):Prop:=∀d e f g h i j k l n b c,l67 jn m Wj [] o (Jh d e f g h i j k l n b c)=a d e f g h i j k l n b c
theorem JC m d a(q:apS m d a) e f h i j k l n o p b c:e67 jn m abf [d] (Jh e f h i j k l n o p b c)=qG m (bU m) a e f h i j k l n o p b c:=
 tq (g:=fun J=>jj J 1 6 d (Jh e f h (wrap .i64 (i+1)) j k l n o p b c) (l67 J m Wj [] d)) (by simp only[aT,q];rfl)
theorem zw m:∀c f h i e d j o k l n a b,l67 jn m Wj [] c (Jh f h i e d j o k l n a b)=kI m (bU m) c f h i e d j o k l n a b
 |0,_,_,_,_,_,_,_,_,_,_,_,_=>rfl
 |c+1,f,h,i,e,d,j,o,k,l,n,a,b=>
  tl (g:=fun J=>cond (e<i) ((idx h e).bind fun p=>(idx (L d 6) 1).bind fun r=>(bU m r j (lst [agg [str (S d 2),p,f]])).bind fun q=>bif I d 0==32 then(gW m q).bind fun s=>(app a [s]).bind fun t=>jj J 0 13 0 (Jh f h i e d j o k l n t b) (e67 J m abf [c])else(eu m q).bind fun u=>cond u ((app a [p]).bind fun v=>jj J 0 13 0 (Jh f h i e d j o k l n v b) (e67 J m abf [c])) (jj J 0 13 0 (Jh f h i e d j o k l n a b) (e67 J m abf [c]))) (some (agg [int k,int l,str n,lst a,lst b]))) (by simp only[aT,JC m c (kI m (bU m) c) (zw m c)];rfl)
theorem Tf m a b c:e67 jn m [] [] ⟨[.dat 29 a,.dat 26 b,.dat 160 c],[],0⟩=dF (m+1) a b c:=
 tq (g:=fun J=>(idx (L a 6) 0).bind fun e=>(bU m e b c).bind fun d=>cond (I d 0 !=6) ((cB m).bind fun f=>some f) (jj J 1 6 (succ m) (Jh c (L d 3) ((L d 3).length:Int) 0 a b aC 6 0 (ByteArray.mk (List.toArray [])) [] []) (l67 J m Wj [] (succ m)))) (by simp only[aT,zw m];rfl)
def YQ:List Nat:=[1,1,1,1,1]
def akS:List Nat:=[1,1,1,1,1,1]
def akT:List Nat:=akS++[1]
def Wl:List Nat:=[1,1,1,1,1,0,1]
def akU:List Nat:=akT++[1]
def Qz:List Nat:=akS++[0,1]
def apT:List Nat:=akU++[1]
def ahS:List Nat:=akT++[0,1]
def zy:List Nat:=akU++[0,1]
def abg:List Nat:=apT++[0,1]
def e51(J:Q1)(m:Nat):=evAt Tryz.prog env (ct m) J (m+1) 158 139 Tryz.f158 d45
def Tg(a:Bool):St:=⟨tsOf [(138,.dat 4 (.bool a))],[],0⟩
def tY(a:Bool)(b:Dt):St:=⟨tsOf [(1,.ptr 0 [] 0),(124,.dat 4 (.bool a))],[.box 29 (.dat 29 b)],0⟩
def YR(a b:Bool)(c:Dt):St:=⟨tsOf [(1,.ptr 0 [] 0),(3,.dat 4 (.bool a)),(4,.dat 4 (.bool b))],[.box 29 (.dat 29 c)],0⟩
def YS(a b c:Bool)(d:Dt):St:=⟨tsOf [(1,.ptr 0 [] 0),(3,.dat 4 (.bool a)),(4,.dat 4 (.bool b)),(96,.dat 4 (.bool c))],[.box 29 (.dat 29 d)],0⟩
def QA(a b c:Bool)(d:Dt):St:=⟨tsOf [(1,.ptr 0 [] 0),(3,.dat 4 (.bool a)),(4,.dat 4 (.bool b)),(87,.dat 4 (.bool c))],[.box 29 (.dat 29 d)],0⟩
def Wm(a b c:Bool)(d:Dt):St:=⟨tsOf [(1,.ptr 0 [] 0),(3,.dat 4 (.bool a)),(4,.dat 4 (.bool b)),(69,.dat 4 (.bool c))],[.box 29 (.dat 29 d)],0⟩
def ahT(a:Bool)(b:Dt):St:=⟨tsOf [(1,.ptr 0 [] 0),(3,.dat 4 (.bool a))],[.box 29 (.dat 29 b)],0⟩
def ahU(a:Bool)(b:Dt):St:=⟨tsOf [(1,.ptr 0 [] 0),(34,.dat 4 (.bool a))],[.box 29 (.dat 29 b)],0⟩
def abh(a:Bool)(b:Dt):St:=⟨tsOf [(1,.ptr 0 [] 0),(22,.dat 4 (.bool a))],[.box 29 (.dat 29 b)],0⟩
theorem zH m a:e51 jn m abg [] (Tg a)=jQ m a:=
 tq (g:=fun J=>cond a (some 4) (some 0)) (by rfl)
theorem zI m b a:e51 jn m zy [] (tY b a)=dh m b a:=
 tq (g:=fun J=>cond b (some 4) (cond (I a 0 !=1) ((oz m (fld a 4)).bind fun c=>cond (!c) (jj J 0 16 0 (Tg true) (e51 J m abg [])) (jj J 0 16 0 (Tg (I a 5 !=0)) (e51 J m abg []))) (jj J 0 16 0 (Tg (I a 5 !=0)) (e51 J m abg [])))) (by simp only[aT,zH m];rfl)
theorem zJ m c b d a:e51 jn m ahS [] (YS c b d a)=mX m c b d a:=
 tq (g:=fun J=>cond d (some 8) (cond (!c) (cond (0<((L a 1).length:Int)) (jj J 0 14 0 (tY true a) (e51 J m zy [])) (cond (!b) (cond (!(S a 2).toList==[]) (jj J 0 14 0 (tY true a) (e51 J m zy [])) (cond (I a 0 !=34) (jj J 0 14 0 (tY (decide (0<((L a 3).length:Int))) a) (e51 J m zy [])) (jj J 0 14 0 (tY false a) (e51 J m zy [])))) (cond (I a 0 !=34) (jj J 0 14 0 (tY (decide (0<((L a 3).length:Int))) a) (e51 J m zy [])) (jj J 0 14 0 (tY false a) (e51 J m zy []))))) (cond (!b) (cond (!(S a 2).toList==[]) (jj J 0 14 0 (tY true a) (e51 J m zy [])) (cond (I a 0 !=34) (jj J 0 14 0 (tY (decide (0<((L a 3).length:Int))) a) (e51 J m zy [])) (jj J 0 14 0 (tY false a) (e51 J m zy [])))) (cond (I a 0 !=34) (jj J 0 14 0 (tY (decide (0<((L a 3).length:Int))) a) (e51 J m zy [])) (jj J 0 14 0 (tY false a) (e51 J m zy [])))))) (by simp only[aT,zI m];rfl)
theorem AY m b c d a:e51 jn m Qz [] (QA b c d a)=gM m b c d a:=
 tq (g:=fun J=>cond d (some 9) (cond (I a 0==1) ((kH m (fld a 4)).bind fun e=>jj J 0 12 0 (YS b c (!e) a) (e51 J m ahS [])) (jj J 0 12 0 (YS b c false a) (e51 J m ahS [])))) (by simp only[aT,zJ m];rfl)
theorem AZ m c b d a:e51 jn m Wl [] (Wm c b d a)=iU m c b d a:=
 tq (g:=fun J=>cond d (some 10) (cond b ((kD m (S a 2)).bind fun e=>cond (!e) (jj J 0 10 0 (QA c b true a) (e51 J m Qz [])) (cond (I a 0==34) ((eY m (L a 3)).bind fun f=>jj J 0 10 0 (QA c b (!f) a) (e51 J m Qz [])) (jj J 0 10 0 (QA c b false a) (e51 J m Qz [])))) (cond (I a 0==34) ((eY m (L a 3)).bind fun h=>jj J 0 10 0 (QA c b (!h) a) (e51 J m Qz [])) (jj J 0 10 0 (QA c b false a) (e51 J m Qz []))))) (by simp only[aT,AY m];rfl)
theorem A8 m b c a:e51 jn m YQ [] (YR b c a)=kJ m b c a:=
 tq (g:=fun J=>cond b ((mU m (L a 1)).bind fun d=>cond (!d) (cond (I a 0==2) (jj J 0 8 0 (Wm b c true a) (e51 J m Wl [])) (jj J 0 8 0 (Wm b c (decide (0<((L a 1).length:Int))) a) (e51 J m Wl []))) (jj J 0 8 0 (Wm b c false a) (e51 J m Wl []))) (jj J 0 8 0 (Wm b c false a) (e51 J m Wl []))) (by simp only[aT,AZ m];rfl)
theorem A9 m b a:e51 jn m [1,1,1,1] [] (ahT b a)=nT m b a:=
 tq (g:=fun J=>cond (I a 0==3) (jj J 0 7 0 (YR b true a) (e51 J m YQ [])) ((oC m (I a 0)).bind fun c=>jj J 0 7 0 (YR b (c==3) a) (e51 J m YQ []))) (by simp only[aT,A8 m];rfl)
theorem Ba m b a:e51 jn m [1,1,0,1] [] (ahU b a)=nU m b a:=
 tq (g:=fun J=>cond b (some 11) (cond (I a 0==2) (jj J 0 6 0 (ahT true a) (e51 J m [1,1,1,1] [])) (jj J 0 6 0 (ahT (I a 0==3) a) (e51 J m [1,1,1,1] [])))) (by simp only[aT,A9 m];rfl)
theorem Bb m b a:e51 jn m [1,0,1] [] (abh b a)=kK m b a:=
 tq (g:=fun J=>cond b (some 11) (cond (I a 0==34) (jj J 0 4 0 (ahU (((L a 6).length:Int) !=((L a 3).length:Int)) a) (e51 J m [1,1,0,1] [])) (jj J 0 4 0 (ahU false a) (e51 J m [1,1,0,1] [])))) (by simp only[aT,Ba m];rfl)
theorem FN m a:e51 jn m [] [] ⟨[.dat 29 a],[],0⟩=jR (m+1) a:=
 tq (g:=fun J=>cond (I a 0<1) (jj J 0 2 0 (abh true a) (e51 J m [1,0,1] [])) (cond (37<I a 0) (jj J 0 2 0 (abh true a) (e51 J m [1,0,1] [])) ((oC m (I a 0)).bind fun b=>(oN m b ((L a 6).length:Int)).bind fun c=>jj J 0 2 0 (abh (!c) a) (e51 J m [1,0,1] [])))) (by simp only[aT,Bb m];rfl)
def apU:List Nat:=[1,1,1,1,0,1]
def ahV:List Nat:=apU++[0]
def e50(J:Q29)(m:Nat):=evAt Tryz.prog env (ct m) J (m+1) 120 45 Tryz.f120 d50
def l50(J:Q29)(m:Nat):=loopAt Tryz.prog env (ct m) J (m+1) 120 45 Tryz.f120 d50
def ahW(a:Int)(b:List Dt)(c d e:Int):St:=⟨tsOf [(1,.dat 3 (.int a)),(2,.ptr 0 [] 0),(30,.dat 27 (.lst b)),(31,.dat 3 (.int c)),(32,.dat 3 (.int d))],[.box 3 (.dat 3 (.int e))],1⟩
def ahX(a:Int)(b:Bool)(c:Int)(d:Dt):St:=⟨tsOf [(1,.dat 3 (.int a)),(2,.ptr 0 [] 0),(3,.ptr 1 [] 0),(18,.dat 4 (.bool b))],[.box 3 (.dat 3 (.int c)),.box 29 (.dat 29 d)],1⟩
theorem QB m:∀a c d e b f,l50 jn m ahV [] a (ahW c d e b f)=F9 m (i50 m) a c d e b f
 |0,_,_,_,_,_=>rfl
 |a+1,c,d,e,b,f=>
  tl (g:=fun J=>cond (b<e) ((idx d b).bind fun i=>(i50 m i (wrap .i64 (c+1)) f).bind fun h=>cond (h.1 !=0) (some (h.1,h.2)) (jj J 1 8 a (ahW c d e (wrap .i64 (b+1)) h.2) (l50 J m ahV [] a))) (some (0,f))) (by simp only[aT,(QB m a)];rfl)
theorem acQ m c d a b:e50 jn m [1,0,1] [] (ahX c d a b)=Rh m (i50 m) c d a b:=
 tq (g:=fun J=>cond d (some (2,a)) ((jR m b).bind fun e=>cond (e !=0) (some (e,wrap .i64 (a+1))) (jj J 1 8 (succ m) (ahW c (L b 6) ((L b 6).length:Int) 0 (wrap .i64 (a+1))) (l50 J m ahV [] (succ m))))) (by simp only[aT,QB m];rfl)
theorem amT m c a b:e50 jn m [] [] ⟨[.dat 29 c,.dat 3 (.int a),.ptr 0 [] 0],[.box 3 (.dat 3 (.int b))],1⟩=i50 (m+1) c a b:=
 tq (g:=fun J=>cond (16<a) (jj J 0 2 0 (ahX a true b c) (e50 J m [1,0,1] [])) (jj J 0 2 0 (ahX a (b==256) b c) (e50 J m [1,0,1] []))) (by simp only[aT,acQ m];rfl)
def e39(J:Q1)(m:Nat):=evAt Tryz.prog env (ct m) J (m+1) 82 6 Tryz.f82 d45
theorem OG m a:e39 jn m [] [] ⟨[.dat 29 a],[],0⟩=qh (m+1) a:=
 tq (g:=fun J=>(i50 m a 1 0).bind fun b=>some b.1) (by rfl)
def e17(J:Q4)(m:Nat):=evAt Tryz.prog env (ct m) J (m+1) 40 13 Tryz.f40 d23
theorem Ti m a b:e17 jn m [] [] ⟨[.dat 29 a,.dat 26 b],[],0⟩=gT (m+1) a b:=
 tq (g:=fun J=>(qh m a).bind fun c=>cond (c !=0) (some aC) ((bU m a b (lst [])).bind fun d=>(bO m d).bind fun e=>some e)) (by rfl)
def apV:List Nat:=[1,1,1,1,1]
def ahY:List Nat:=[1,1,1,0,1,0]
def aqz:List Nat:=[1,1,1,1,0,1]
def ahZ:List Nat:=aqz++[0]
def ajU:List Nat:=ahY++[0,1,1]
def apW:List Nat:=ajU++[1]
def amU:List Nat:=ahZ++[0,1,1]
def apX:List Nat:=amU++[1]
def ajV:List Nat:=ajU++[0,0,1,1,1]
def amV:List Nat:=ajV++[1,1]
def e5(J:Q10)(m:Nat):=evAt Tryz.prog env (ct m) J (m+1) 14 83 Tryz.f14 d46
def l5(J:Q10)(m:Nat):=loopAt Tryz.prog env (ct m) J (m+1) 14 83 Tryz.f14 d46
def Wn(a:List Dt)(b c:Int)(d:Dt)(e f g h:List Dt):St:=⟨tsOf [(2,.ptr 0 [] 0),(5,.ptr 1 [] 0),(6,.row 4),(7,.row 5),(15,.dat 23 (.lst a)),(16,.dat 3 (.int b)),(17,.dat 3 (.int c))],[.box 29 (.dat 29 d),.box 23 (.row 2),(.rowD 23 24 (some 4) 3 e none),(.tok 24 f),.row 75 g,.row 75 h],0⟩
def amW(a:Int)(b:List Dt)(c d:Int)(e:Dt)(f g h i:List Dt):St:=⟨tsOf [(2,.ptr 0 [] 0),(5,.ptr 1 [] 0),(6,.row 4),(7,.row 5),(11,.dat 3 (.int a)),(15,.dat 23 (.lst b)),(16,.dat 3 (.int c)),(17,.dat 3 (.int d))],[.box 29 (.dat 29 e),.box 23 (.row 2),(.rowD 23 24 (some 4) 3 f none),(.tok 24 g),.row 75 h,.row 75 i],0⟩
def amX(a:List Dt)(b c:Int)(d:Dt)(e f g h:List Dt)(i:Dt):St:=⟨tsOf [(2,.ptr 0 [] 0),(5,.ptr 1 [] 0),(6,.row 4),(7,.row 5),(10,.ptr 6 [] 0),(15,.dat 23 (.lst a)),(16,.dat 3 (.int b)),(17,.dat 3 (.int c))],[.box 29 (.dat 29 d),.box 23 (.row 2),(.rowD 23 24 (some 4) 3 e none),(.tok 24 f),.row 75 g,.row 75 h,.box 26 (.dat 26 i)],0⟩
def Ji(a:List Dt)(b c:Int)(d e:List Dt):St:=⟨tsOf [(5,.ptr 0 [] 0),(63,.dat 75 (.lst a)),(64,.dat 3 (.int b)),(65,.dat 3 (.int c))],[.box 23 (.row 1),(.rowD 23 24 (some 4) 2 d none),(.tok 24 e)],0⟩
def akV(a:List Dt):St:=⟨tsOf [(5,.ptr 0 [] 0)],[.box 23 (.row 1),.row 23 a],0⟩
def apY(a b c:List Dt):St:=⟨tsOf [(5,.ptr 0 [] 0),(6,.row 3)],[.box 23 (.row 1),(.rowD 23 24 (some 4) 2 a none),(.tok 24 b),.row 75 c],0⟩
abbrev ajW(m j:Nat)(a:Q39):Prop:=∀b c d e f g h i,l5 jn m ahY [] j (Wn b c d e f g h i)=a b c d e f g h i
theorem Ck m b a(l:ajW m b a) c d e f h i j k:e5 jn m apW [b] (Wn c d e f h i j k)=rM m a c d e f h i j k:=
 tq (g:=fun J=>jj J 1 4 b (Wn c d (wrap .i64 (e+1)) f h i j k) (l5 J m ahY [] b)) (by simp only[aT,l];rfl)
theorem Cm m e a(p:ajW m e a) f h i j k l n c d:e5 jn m amV [e] (amW f h i j k l n c d)=jK m a f h i j k l n c d:=
 tq (g:=fun J=>(inL d f).bind fun t=>(d[f.toNat]?).bind fun b=>(inL c (toInt b)).bind fun q=>(c[(toInt b).toNat]?).bind fun o=>(inL c (toInt b)).bind fun r=>(c[(toInt b).toNat]?).bind fun s=>jj J 0 15 0 (Wn h i j k l n (List.set c (toInt b).toNat (int (wrap .i64 (toInt o+1)))) d) (e5 J m apW [e])) (by simp only[aT,Ck m e a p];rfl)
theorem Co m c a(q:ajW m c a) h i j k b d l e n:e5 jn m ajV [c] (amX h i j k b d l e n)=iw m a h i j k b d l e n:=
 tq (g:=fun J=>(i18 m e n (lst (frzD (Option.some 4) b d))).bind fun o=>cond (!o.2) ((kS o.1 e [int (b.length:Int)]).bind fun r=>(eD m n 0).bind fun f=>(app b [aC]).bind fun p=>(inL p (b.length:Int)).bind fun t=>(p[(b.length:Int).toNat]?).bind fun u=>(app l [int 0]).bind fun s=>jj J 0 14 0 (amW o.1 h i j k (List.set p (b.length:Int).toNat (agg [int f.1,int f.2.1,str f.2.2.1,lst f.2.2.2.1,bool true])) (List.set (d++[lst []]) (b.length:Int).toNat (lst f.2.2.2.2)) s r) (e5 J m amV [c])) (jj J 0 14 0 (amW o.1 h i j k b d l e) (e5 J m amV [c]))) (by simp only[aT,Cm m c a q];rfl)
theorem Cq m b a(n:ajW m b a) c f d e h i j k:e5 jn m ajU [b] (Wn c f d e h i j k)=rO m a c f d e h i j k:=
 tq (g:=fun J=>(idx c d).bind fun o=>(gT m e o).bind fun l=>cond (I l 0==0) (jj J 0 9 0 (amX c f d e h i j k mP) (e5 J m ajV [b])) (jj J 0 9 0 (amX c f d e h i j k l) (e5 J m ajV [b]))) (by simp only[aT,Co m b a n];rfl)
abbrev apZ(m g:Nat)(a:Q63):Prop:=∀b c d e f,l5 jn m ahZ [] g (Ji b c d e f)=a b c d e f
theorem Bc m b a(i:apZ m b a) c d e f h:e5 jn m apX [b] (Ji c d e f h)=qJ m a c d e f h:=
 tq (g:=fun J=>jj J 1 17 b (Ji c d (wrap .i64 (e+1)) f h) (l5 J m ahZ [] b)) (by simp only[aT,i];rfl)
theorem Cr m e a(o:apZ m e a) f i b d h:e5 jn m amU [e] (Ji f i b d h)=rP m a f i b d h:=
 tq (g:=fun J=>(idx f b).bind fun j=>(inL d b).bind fun p=>(d[b.toNat]?).bind fun k=>cond (lkd (Option.some 4) k) ((h[b.toNat]?).bind fun c=>(gU m (toInt j)).bind fun l=>(inL (toLst c) 1).bind fun q=>((toLst c)[1]?).bind fun n=>jj J 0 20 0 (Ji f i b d (List.set (List.set h b.toNat (lst [])) b.toNat (lst (List.set (toLst c) 1 (agg [str (S n 0),l]))))) (e5 J m apX [e])) none) (by simp only[aT,Bc m e a o];rfl)
theorem Bd m a:e5 jn m apV [] (akV a)=kL m a:=
 tq (g:=fun J=>(i24 m a).bind fun b=>some b) (by rfl)
theorem uy m:∀a f b c d e,l5 jn m ahZ [] a (Ji f b c d e)=jL m a f b c d e
 |0,_,_,_,_,_=>rfl
 |a+1,f,b,c,d,e=>
  tl (g:=fun J=>cond (c<b) (jj J 0 18 0 (Ji f b c d e) (e5 J m amU [a])) (jj J 0 21 0 (akV (frzD (Option.some 4) d e)) (e5 J m apV []))) (by simp only[aT,Cr m a (jL m a) (uy m a),Bd m];rfl)
theorem Ct m b c a:e5 jn m [1,1,1,1] [] (apY b c a)=mo m b c a:=
 tq (g:=fun J=>jj J 1 17 (succ m) (Ji a (a.length:Int) 0 b c) (l5 J m ahZ [] (succ m))) (by simp only[aT,uy m];rfl)
theorem uz m:∀a h b c i d e f j,l5 jn m ahY [] a (Wn h b c i d e f j)=iA m a h b c i d e f j
 |0,_,_,_,_,_,_,_,_=>rfl
 |a+1,h,b,c,i,d,e,f,j=>
  tl (g:=fun J=>cond (c<b) (jj J 0 5 0 (Wn h b c i d e f j) (e5 J m ajU [a])) (jj J 0 16 0 (apY d e f) (e5 J m [1,1,1,1] []))) (by simp only[aT,Cq m a (iA m a) (uz m a),Ct m];rfl)
theorem Iw m b a:e5 jn m [] [] ⟨[.dat 29 b,.dat 23 (.lst a)],[],0⟩=jF (m+1) b a:=
 tq (g:=fun J=>jj J 1 4 (succ m) (Wn a (a.length:Int) 0 b [] [] [] []) (l5 J m ahY [] (succ m))) (by simp only[aT,uz m];rfl)
end Go.Proofs.YtmecfjhdnbgfeaaGreatDoor
noncomputable section
namespace Go.Proofs.YtmecfjhdnbgfeaaGreatDoor
open Nat (succ)
open IntKind (wrap)
open Go.Am Dt
set_option maxRecDepth 100000
def amY:List Nat:=[1,1,0,1,0]
def ap0:List Nat:=[1,1,1,1,1,1]
def ap1:List Nat:=[1,1,1,1,1,0,1]
def acR:List Nat:=ap1++[0]
def ap2:List Nat:=ap0++[1,0,1]
def ajX:List Nat:=ap2++[0]
def aqA:List Nat:=acR++[0,1,1]
def ajY:List Nat:=aqA++[0,0,1,1,1,1]
def amZ:List Nat:=ajY++[0,1]
def e7(J:Q10)(m:Nat):=evAt Tryz.prog env (ct m) J (m+1) 19 107 Tryz.f19 d46
def l7(J:Q10)(m:Nat):=loopAt Tryz.prog env (ct m) J (m+1) 19 107 Tryz.f19 d46
def am0(a b:List Dt)(c:Int)(d:Dt):St:=⟨tsOf [(1,.dat 23 (.lst a)),(2,.dat 23 (.lst b)),(3,.ptr 0 [] 0),(7,.dat 3 (.int c))],[.box 29 (.dat 29 d)],0⟩
def Wo(a:List Dt)(b:Int)(c:List Dt)(d e:Int)(f:Dt)(g:List Dt):St:=⟨tsOf [(1,.dat 23 (.lst a)),(3,.ptr 0 [] 0),(8,.row 1),(9,.dat 3 (.int b)),(41,.dat 23 (.lst c)),(42,.dat 3 (.int d)),(43,.dat 3 (.int e))],[.box 29 (.dat 29 f),.row 75 g],0⟩
def ah0(a:List Dt)(b c:Int)(d:List Dt)(e f:Int)(g:Dt)(h:List Dt):St:=⟨tsOf [(1,.dat 23 (.lst a)),(3,.ptr 0 [] 0),(8,.row 1),(9,.dat 3 (.int b)),(13,.dat 3 (.int c)),(41,.dat 23 (.lst d)),(42,.dat 3 (.int e)),(43,.dat 3 (.int f))],[.box 29 (.dat 29 g),.row 75 h],0⟩
def ah1(a:List Dt)(b c:Int)(d:List Dt)(e f:Int)(g:Bool)(h:Dt)(i:List Dt):St:=⟨tsOf [(1,.dat 23 (.lst a)),(3,.ptr 0 [] 0),(8,.row 1),(9,.dat 3 (.int b)),(13,.dat 3 (.int c)),(41,.dat 23 (.lst d)),(42,.dat 3 (.int e)),(43,.dat 3 (.int f)),(68,.dat 4 (.bool g))],[.box 29 (.dat 29 h),.row 75 i],0⟩
def abj(a:List Dt)(b:Int)(c:List Dt)(d e:Int)(f:List Dt):St:=⟨tsOf [(1,.dat 23 (.lst a)),(9,.dat 3 (.int b)),(15,.row 0),(78,.dat 75 (.lst c)),(79,.dat 3 (.int d)),(80,.dat 3 (.int e))],[.row 23 f],0⟩
abbrev ap3(m i:Nat)(a:Q38):Prop:=∀b c d e f g h,l7 jn m acR [] i (Wo b c d e f g h)=a b c d e f g h
theorem zK m d a(n:ap3 m d a) e f c h i j l k b:e7 jn m amZ [d] (ah1 e f c h i j l k b)=jS m a e f c h i j l k b:=
 tq (g:=fun J=>cond l (jj J 1 11 d (Wo e (wrap .i64 (f+1)) h i (wrap .i64 (j+1)) k b) (l7 J m acR [] d)) ((inL b c).bind fun q=>(b[c.toNat]?).bind fun o=>(inL b c).bind fun r=>(b[c.toNat]?).bind fun p=>jj J 1 11 d (Wo e f h i (wrap .i64 (j+1)) k (List.set b c.toNat (int (wrap .i64 (toInt o+1))))) (l7 J m acR [] d))) (by simp only[aT,n];rfl)
theorem Bf m c a(l:ap3 m c a) d e b f h i j k:e7 jn m ajY [c] (ah0 d e b f h i j k)=gP m a d e b f h i j k:=
 tq (g:=fun J=>cond (b<0) (jj J 0 18 0 (ah1 d e b f h i true j k) (e7 J m amZ [c])) (jj J 0 18 0 (ah1 d e b f h i (decide (wrap .i64 ((d.length:Int)-1)<=b)) j k) (e7 J m amZ [c]))) (by simp only[aT,zK m c a l];rfl)
theorem rz m:∀a h e i j d f,l7 jn m ajX [] a (abj h e i j d f)=jU m a h e i j d f
 |0,_,_,_,_,_,_=>rfl
 |a+1,h,e,i,j,d,f=>
  tl (g:=fun J=>cond (d<j) ((idx i d).bind fun k=>cond (0<toInt k) ((idx h d).bind fun l=>(bR m l).bind fun n=>(eD m n (toInt k)).bind fun b=>(app f [agg [int b.1,int b.2.1,str b.2.2.1,lst b.2.2.2.1,lst b.2.2.2.2]]).bind fun o=>jj J 1 23 a (abj h e i j (wrap .i64 (d+1)) o) (l7 J m ajX [] a)) (jj J 1 23 a (abj h e i j (wrap .i64 (d+1)) f) (l7 J m ajX [] a))) (cond (0<e) ((eD m mP e).bind fun c=>(app f [agg [int c.1,int c.2.1,str c.2.2.1,lst c.2.2.2.1,lst c.2.2.2.2]]).bind fun p=>some p) (some f))) (by simp only[aT,(rz m a)];rfl)
theorem tH m:∀a b e f h c i d,l7 jn m acR [] a (Wo b e f h c i d)=dI m a b e f h c i d
 |0,_,_,_,_,_,_,_=>rfl
 |a+1,b,e,f,h,c,i,d=>
  tl (g:=fun J=>cond (c<h) ((idx f c).bind fun k=>(gT m i k).bind fun l=>(i32 m b l).bind fun j=>cond (!j.2) (jj J 0 17 0 (ah0 b e (wrap .i64 (j.1-1)) f h c i d) (e7 J m ajY [a])) (jj J 0 17 0 (ah0 b e j.1 f h c i d) (e7 J m ajY [a]))) (jj J 1 23 (succ m) (abj b e d (d.length:Int) 0 []) (l7 J m ajX [] (succ m)))) (by simp only[aT,Bf m a (dI m a) (tH m a),rz m];rfl)
theorem tJ m:∀c a d b e,l7 jn m amY [] c (am0 a d b e)=kM m c a d b e
 |0,_,_,_,_=>rfl
 |c+1,a,d,b,e=>
  tl (g:=fun J=>bif b<(a.length:Int)then(idx a (wrap .i64 (b-1))).bind fun f=>(idx a b).bind fun h=>(aW m f h).bind fun i=>cond (0<=i) (some []) (jj J 1 4 c (am0 a d (wrap .i64 (b+1)) e) (l7 J m amY [] c))else(mkL (a.length:Int) (a.length:Int) (int 0)).bind fun j=>jj J 1 11 (succ m) (Wo a 0 d (d.length:Int) 0 e j) (l7 J m acR [] (succ m))) (by simp only[aT,(tJ m c),tH m];rfl)
theorem FP m b a c:e7 jn m [] [] ⟨[.dat 29 b,.dat 23 (.lst a),.dat 23 (.lst c)],[],0⟩=iP (m+1) b a c:=
 tq (g:=fun J=>cond ((a.length:Int)<2) (some []) (jj J 1 4 (succ m) (am0 a c 1 b) (l7 J m amY [] (succ m)))) (by simp only[aT,tJ m];rfl)
def RN:List Nat:=[1,1,1,0,1,0]
def aqB:List Nat:=[1,1,1,1,1,1,0,1]
def ah2:List Nat:=aqB++[0]
def Xt:List Nat:=ah2++[0,1,1]
def ajZ:List Nat:=Xt++[0,0,1,1]
def e0(J:Q0)(m:Nat):=evAt Tryz.prog env (ct m) J (m+1) 5 126 Tryz.f5 d47
def l0(J:Q0)(m:Nat):=loopAt Tryz.prog env (ct m) J (m+1) 5 126 Tryz.f5 d47
def acS(a b:List Dt)(c:Bool)(d e:Int)(f:Dt):St:=⟨tsOf [(1,.dat 23 (.lst a)),(2,.dat 23 (.lst b)),(3,.ptr 0 [] 0),(7,.dat 4 (.bool c)),(30,.dat 3 (.int d)),(31,.dat 3 (.int e))],[.box 29 (.dat 29 f)],0⟩
def abk(a b:List Dt)(c:Bool)(d:List Dt)(e f:Int)(g:Dt):St:=⟨tsOf [(1,.dat 23 (.lst a)),(2,.dat 23 (.lst b)),(3,.ptr 0 [] 0),(7,.dat 4 (.bool c)),(9,.fn 22 []),(10,.dat 23 (.lst d)),(64,.dat 3 (.int e)),(65,.dat 3 (.int f))],[.box 29 (.dat 29 g)],0⟩
def abl(a b:List Dt)(c:Bool)(d:List Dt)(e f:Int)(g:Bool)(h:Dt):St:=⟨tsOf [(1,.dat 23 (.lst a)),(2,.dat 23 (.lst b)),(3,.ptr 0 [] 0),(7,.dat 4 (.bool c)),(9,.fn 22 []),(10,.dat 23 (.lst d)),(64,.dat 3 (.int e)),(65,.dat 3 (.int f)),(100,.dat 4 (.bool g))],[.box 29 (.dat 29 h)],0⟩
def aj0(a b:List Dt)(c:Bool)(d:Dt):St:=⟨tsOf [(1,.dat 23 (.lst a)),(2,.dat 23 (.lst b)),(3,.ptr 0 [] 0),(24,.dat 4 (.bool c))],[.box 29 (.dat 29 d)],0⟩
abbrev aqC(m i:Nat)(a:Q45):Prop:=∀b c d e f g h,l0 jn m ah2 [] i (abk b c d e f g h)=a b c d e f g h
theorem vK m b a(l:aqC m b a) c d e f h i j k:e0 jn m ajZ [b] (abl c d e f h i j k)=eP m a c d e f h i j k:=
 tq (g:=fun J=>cond j (some false) (jj J 1 12 b (abk c d e f h (wrap .i64 (i+1)) k) (l0 J m ah2 [] b))) (by simp only[aT,l];rfl)
theorem o9 m:∀c e d f b h a i,l0 jn m ah2 [] c (abk e d f b h a i)=dN m c e d f b h a i
 |0,_,_,_,_,_,_,_=>rfl
 |c+1,e,d,f,b,h,a,i=>
  tl (g:=fun J=>bif a<h then(idx b a).bind fun j=>cond (((L j 4).length:Int) !=2) (jj J 0 15 0 (abl e d f b h a true i) (e0 J m ajZ [c])) (cond (0<a) ((idx b (wrap .i64 (a-1))).bind fun k=>(idx (L k 4) 1).bind fun l=>(idx b a).bind fun n=>(idx (L n 4) 1).bind fun o=>jj J 0 15 0 (abl e d f b h a (decide (I (fld l 1) 1<I (fld o 1) 1)) i) (e0 J m ajZ [c])) (jj J 0 15 0 (abl e d f b h a false i) (e0 J m ajZ [c])))else(cO m b).bind fun p=>cond (p==(d.length:Int)) (cond (!f) ((xI).bind fun q=>some q) ((iP m i e d).bind fun r=>(cO m r).bind fun s=>cond (s==(d.length:Int)) ((xI).bind fun t=>some t) (some false))) (some false)) (by simp only[aT,vK m c (dN m c) (o9 m c)];rfl)
theorem pq m:∀b c d h f a e,l0 jn m RN [] b (acS c d h f a e)=dO m b c d h f a e
 |0,_,_,_,_,_,_=>rfl
 |b+1,c,d,h,f,a,e=>
  tl (g:=fun J=>cond (a<f) (cond h (bif a==0 then(idx c a).bind fun j=>(fF m j).bind fun k=>jj J 1 5 b (acS c d k f (wrap .i64 (a+1)) e) (l0 J m RN [] b)else(idx c (wrap .i64 (a-1))).bind fun l=>(idx c a).bind fun n=>(bP m l n).bind fun o=>cond (o<0) ((idx c a).bind fun p=>(fF m p).bind fun q=>jj J 1 5 b (acS c d q f (wrap .i64 (a+1)) e) (l0 J m RN [] b)) (jj J 1 5 b (acS c d false f (wrap .i64 (a+1)) e) (l0 J m RN [] b))) (jj J 1 5 b (acS c d false f (wrap .i64 (a+1)) e) (l0 J m RN [] b))) ((jF m e d).bind fun i=>jj J 1 12 (succ m) (abk c d h i (i.length:Int) 0 e) (l0 J m ah2 [] (succ m)))) (by simp only[aT,(pq m b),o9 m];rfl)
theorem vO m a b c d:e0 jn m [1,0,1] [] (aj0 a b c d)=dD m a b c d:=
 tq (g:=fun J=>cond c ((xI).bind fun e=>some e) (jj J 1 5 (succ m) (acS a b (decide (2<=(a.length:Int))) (a.length:Int) 0 d) (l0 J m RN [] (succ m)))) (by simp only[aT,pq m];rfl)
theorem y9 m a b c:e0 jn m [] [] ⟨[.dat 29 a,.dat 23 (.lst b),.dat 23 (.lst c)],[],0⟩=jo (m+1) a b c:=
 tq (g:=fun J=>(iN m c).bind fun e=>cond (!e) (jj J 0 2 0 (aj0 b c true a) (e0 J m [1,0,1] [])) (bif 30<(b.length:Int)then jj J 0 2 0 (aj0 b c true a) (e0 J m [1,0,1] [])else(kC m a).bind fun d=>jj J 0 2 0 (aj0 b c (d !=0) a) (e0 J m [1,0,1] []))) (by simp only[aT,vO m];rfl)
end Go.Proofs.YtmecfjhdnbgfeaaGreatDoor
namespace Go.Proofs.YtmecfjhdnbgfeaaGreatDoor
open Go.Am
set_option maxRecDepth 100000
theorem mixed:Tryz.prog.follows .mixedOrders=true:=by kernel_rfl
abbrev CtH(m:Nat):Prop:=∀R,CallOK (R:=R) Tryz.prog (ct m)
abbrev CtK(m:Nat):Prop:=∀k,k<m->CtH k
abbrev FQ{R:Type}(f:Nat)(args:List AV)(objs:List Ob)(K:Res->Option R)(r:R):Prop:=∃q:Res,K q=some r∧FX Tryz.prog f args objs q.1 q.2∧HasBody Tryz.prog f
theorem fo{R:Type}{m f:Nat}{fn:Func}{c:Code}{args:List AV}{objs:List Ob}{res:AV}{ro:List Ob}{dec:Res->Option R}{r:R}(hct:CtH m)(hf:Tryz.prog.funcs[f]? =some fn)(hc:fn.body=some c)(hl:Nat.ble args.length fn.ntmps=true)(hd:∀{b:Res},dec b=some r->Sim Tryz.prog b (res,ro))(h:ev Tryz.prog env (ct m) jn (m+1) f fn.ntmps c ⟨args,objs,objs.length⟩ (fun e σ=>(Sb Tryz.prog env f fn e σ).bind dec)=some r):FX Tryz.prog f args objs res ro:=
 FX_of (q:=(res,ro)) (E:=env) (m:=m+1) (dec:=dec) jn_ok (hct _) mixed hf hc (aK hl) (fun _ hb=>hd hb) h
abbrev FE(f:FuncId)(s:SR)(sh:List SA)(F:CF sh (Option s.T)):Prop:=FG Tryz.prog f s sh F fun l=>l
theorem fe{f:FuncId}{s:SR}{sh:List SA}{X:Nat->CF sh (Option s.T)}(m:Nat)(ck:CtK m)(ho:oksA Tryz.prog sh)(hb:HasBody Tryz.prog f)(a:∀m,CtH m->FE f s sh (X (m+1)))(b:FZ sh (X 0)):EOK Tryz.prog f ⟨sh,s,X m⟩:=
 ⟨ho,match m,ck with
  |0,_=>b.fg
  |m+1,ck=>a m (ck m (Nat.lt_succ_self m)),hb⟩
section
variable{R:Type}{args:List AV}{objs:List Ob}{K:Res->Option R}{r:R}
theorem OH m(hct:CtH m):FE 60 jY Ma (dQ (m+1)):=fun a b r h=>
 fo hct Tryz.func60 (dec:=d15) rfl rfl (SR.sim gQ) ((Oo m a b).trans h)
theorem M8 m(hct:CtH m):FE 61 jY Z6 (jw (m+1)):=fun a b r h=>
 fo hct Tryz.func61 (dec:=d15) rfl rfl (SR.sim gQ) ((Mh m a b).trans h)
theorem Iy m(hct:CtH m):FE 21 jY L9 (bP (m+1)):=fun a b r h=>
 fo hct Tryz.func21 (dec:=d15) rfl rfl (SR.sim gQ) ((GZ m a b).trans h)
theorem Ea m(hct:CtH m):FE 48 res1 AA (gU (m+1)):=fun a r h=>
 fo hct Tryz.func48 (dec:=d23) rfl rfl (SR.sim iY) ((Dv m a).trans h)
theorem Eb m(hct:CtH m)(a:Dt)(b:Int){r:Int×Int×ByteArray×List Dt×List Dt}(h:eD (m+1) a b=some r):FX Tryz.prog 47 [.dat 26 a,.dat 3 (.int b)] [] (.agg 26 [.dat 3 (.int r.1),.dat 3 (.int r.2.1),.dat 9 (.str r.2.2.1),.row 0,.row 1]) [.row 23 r.2.2.2.1,.row 24 r.2.2.2.2]:=
 fo hct Tryz.func47 rfl rfl aag ((Dw m a b).trans h)
theorem am1 m(hct:CtH m)(a b c:Int)(d:List Dt){r:List Dt}(h:i30 (m+1) a b c d=some r):FX Tryz.prog 225 [.row 0,.dat 3 (.int a),.dat 3 (.int b),.dat 3 (.int c),.fn 50 []] [.row 23 d] (.tup []) [.row 23 r]:=
 fo hct Tryz.func225 rfl rfl BM ((ams m a b c d).trans h)
theorem am2 m(hct:CtH m)(a b c:Int)(d:List Dt){r:List Dt}(h:i29 (m+1) a b c d=some r):FX Tryz.prog 190 [.row 0,.dat 3 (.int a),.dat 3 (.int b),.dat 3 (.int c),.fn 50 []] [.row 23 d] (.tup []) [.row 23 r]:=
 fo hct Tryz.func190 rfl rfl BM ((amt m a b c d).trans h)
theorem Bg m(hct:CtH m):FE 58 res1 qO (bR (m+1)):=fun a r h=>
 fo hct Tryz.func58 (dec:=d23) rfl rfl (SR.sim iY) ((AP m a).trans h)
theorem OJ m(hct:CtH m):FE 83 res1 qO (bO (m+1)):=fun a r h=>
 fo hct Tryz.func83 (dec:=d23) rfl rfl (SR.sim iY) ((Oq m a).trans h)
theorem Wp m(hct:CtH m):FE 62 jY Mc (zR (m+1)):=fun a b r h=>
 fo hct Tryz.func62 (dec:=d15) rfl rfl (SR.sim gQ) ((VX m a b).trans h)
theorem Tj m(hct:CtH m):FE 23 res2 Mc (uJ (m+1)):=fun a b r h=>
 fo hct Tryz.func23 (dec:=d31) rfl rfl (SR.sim ajN) ((SN m a b).trans h)
theorem xO m(hct:CtH m):FE 22 jY Ym (cO (m+1)):=fun a r h=>
 fo hct Tryz.func22 (dec:=d15) rfl rfl (SR.sim gQ) ((xL m a).trans h)
theorem M9 m(hct:CtH m):FE 133 VL qO (ku (m+1)):=fun a r h=>
 fo hct Tryz.func133 (dec:=d46) rfl rfl (SR.sim SI) ((Mi m a).trans h)
theorem JD m(hct:CtH m):FE 92 jY EZ (eO (m+1)):=fun a b r h=>
 fo hct Tryz.func92 (dec:=d15) rfl rfl (SR.sim gQ) ((Jq m a b).trans h)
theorem Na m(hct:CtH m):FE 54 jY qO (mH (m+1)):=fun a r h=>
 fo hct Tryz.func54 (dec:=d15) rfl rfl (SR.sim gQ) ((Mj m a).trans h)
theorem Nb m(hct:CtH m):FE 93 jY EZ (iM (m+1)):=fun a b r h=>
 fo hct Tryz.func93 (dec:=d15) rfl rfl (SR.sim gQ) ((Mk m a b).trans h)
theorem Nc m(hct:CtH m):FE 55 jY qO (mI (m+1)):=fun a r h=>
 fo hct Tryz.func55 (dec:=d15) rfl rfl (SR.sim gQ) ((Ml m a).trans h)
theorem OL m(hct:CtH m):FE 134 gB aff (p8 (m+1)):=fun a b c r h=>
 fo hct Tryz.func134 (dec:=d47) rfl rfl (SR.sim eU) ((Ot m a b c).trans h)
theorem OM m(hct:CtH m):FE 94 gB wG (p9 (m+1)):=fun a r h=>
 fo hct Tryz.func94 (dec:=d47) rfl rfl (SR.sim eU) ((Ou m a).trans h)
theorem OO m(hct:CtH m):FE 97 gB wG (gY (m+1)):=fun a r h=>
 fo hct Tryz.func97 (dec:=d47) rfl rfl (SR.sim eU) ((Ov m a).trans h)
theorem OP m(hct:CtH m):FE 135 gB wG (mQ (m+1)):=fun a r h=>
 fo hct Tryz.func135 (dec:=d47) rfl rfl (SR.sim eU) ((Ow m a).trans h)
theorem JE m(hct:CtH m):FE 56 gB afb (bF (m+1)):=fun a b r h=>
 fo hct Tryz.func56 (dec:=d47) rfl rfl (SR.sim eU) ((Jr m a b).trans h)
theorem JF m(hct:CtH m):FE 95 gB afb (dz (m+1)):=fun a b r h=>
 fo hct Tryz.func95 (dec:=d47) rfl rfl (SR.sim eU) ((Js m a b).trans h)
theorem Nf m(hct:CtH m):FE 18 gB qO (fF (m+1)):=fun a r h=>
 fo hct Tryz.func18 (dec:=d47) rfl rfl (SR.sim eU) ((Mq m a).trans h)
theorem Iz m(hct:CtH m):FE 33 gB qO (iF (m+1)):=fun a r h=>
 fo hct Tryz.func33 (dec:=d47) rfl rfl (SR.sim eU) ((Hy m a).trans h)
theorem am3 m(hct:CtH m):FE 53 jY afa (i10 (m+1)):=fun a r h=>
 fo hct Tryz.func53 (dec:=d15) rfl rfl (SR.sim gQ) ((amw m a).trans h)
theorem ap4 m(hct:CtH m):FE 16 gB afa (i9 (m+1)):=fun a r h=>
 fo hct Tryz.func16 (dec:=d47) rfl rfl (SR.sim eU) ((ao2 m a).trans h)
theorem Ng m(hct:CtH m):FE 8 gB Ym (iN (m+1)):=fun a r h=>
 fo hct Tryz.func8 (dec:=d47) rfl rfl (SR.sim eU) ((Mr m a).trans h)
theorem yT m(hct:CtH m):FE 123 res1 ajK (cB (m+1)):=fun r h=>
 fo hct Tryz.func123 (dec:=d23) rfl rfl (SR.sim iY) ((yS m).trans h)
theorem Tk m(hct:CtH m):FE 128 gB AA (qw (m+1)):=fun a r h=>
 fo hct Tryz.func128 (dec:=d47) rfl rfl (SR.sim eU) ((SQ m a).trans h)
theorem Nh m(hct:CtH m):FE 86 jY Ma (eX (m+1)):=fun a b r h=>
 fo hct Tryz.func86 (dec:=d15) rfl rfl (SR.sim gQ) ((Mt m a b).trans h)
theorem IB m(hct:CtH m):FE 45 jY L9 (aW (m+1)):=fun a b r h=>
 fo hct Tryz.func45 (dec:=d15) rfl rfl (SR.sim gQ) ((HV m a b).trans h)
theorem am4 m(hct:CtH m)(a:Int)(b c:Dt){r:Int}(h:i19 (m+1) a b c=some r):FX Tryz.prog 44 [.dat 3 (.int a),.dat 26 b,.rptr 23 c] [] (.dat 3 (.int r)) []:=
 fo hct Tryz.func44 (dec:=d15) rfl rfl (SR.sim gQ) ((amy m a b c).trans h)
theorem am5 m(hct:CtH m)(a:List Dt)(b c:Dt){r:Int×Bool}(h:i18 (m+1) a b c=some r):FX Tryz.prog 43 [.dat 75 (.lst a),.dat 26 b,.fn 44 [.rptr 23 c]] [] (.tup [.dat 3 (.int r.1),.dat 4 (.bool r.2)]) []:=
 fo hct Tryz.func43 (dec:=d18) rfl rfl (SR.sim aae) ((amz m a b c).trans h)
theorem Ec m(hct:CtH m):FE 50 jY L9 (dB (m+1)):=fun a b r h=>
 fo hct Tryz.func50 (dec:=d15) rfl rfl (SR.sim gQ) ((DJ m a b).trans h)
theorem am6 m(hct:CtH m)(a b:Int)(c:List Dt){r:List Dt}(h:i26 (m+1) a b c=some r):FX Tryz.prog 131 [.row 0,.dat 3 (.int a),.dat 3 (.int b),.fn 50 []] [.row 23 c] (.tup []) [.row 23 r]:=
 fo hct Tryz.func131 rfl rfl BM ((amA m a b c).trans h)
theorem am7 m(hct:CtH m)(a b c:Int)(d:List Dt){r:List Dt}(h:i28 (m+1) a b c d=some r):FX Tryz.prog 132 [.row 0,.dat 3 (.int a),.dat 3 (.int b),.dat 3 (.int c),.fn 50 []] [.row 23 d] (.tup []) [.row 23 r]:=
 fo hct Tryz.func132 rfl rfl BM ((amE m a b c d).trans h)
theorem am8 m(hct:CtH m)(a:Int)(b:List Dt){r:List Dt}(h:i25 (m+1) a b=some r):FX Tryz.prog 90 [.row 0,.dat 3 (.int a),.fn 50 []] [.row 23 b] (.tup []) [.row 23 r]:=
 fo hct Tryz.func90 rfl rfl BM ((amF m a b).trans h)
theorem am9 m(hct:CtH m)(a:List Dt){r:List Dt}(h:i24 (m+1) a=some r):FX Tryz.prog 49 [.row 0,.fn 50 []] [.row 23 a] (.tup []) [.row 23 r]:=
 fo hct Tryz.func49 rfl rfl BM ((amG m a).trans h)
theorem ana m(hct:CtH m):FE 57 ajL afd (i32 (m+1)):=fun a b r h=>
 fo hct Tryz.func57 (dec:=d18) rfl rfl (SR.sim aae) ((amH m a b).trans h)
theorem Ni m(hct:CtH m):FE 65 gB E8 (iO (m+1)):=fun a r h=>
 fo hct Tryz.func65 (dec:=d47) rfl rfl (SR.sim eU) ((MI m a).trans h)
theorem OQ m(hct:CtH m):FE 108 gB L9 (bH (m+1)):=fun a b r h=>
 fo hct Tryz.func108 (dec:=d47) rfl rfl (SR.sim eU) ((Ox m a b).trans h)
theorem Nj m(hct:CtH m):FE 107 gB E8 (mJ (m+1)):=fun a r h=>
 fo hct Tryz.func107 (dec:=d47) rfl rfl (SR.sim eU) ((MJ m a).trans h)
theorem OT m(hct:CtH m):FE 106 jY AA (ow (m+1)):=fun a r h=>
 fo hct Tryz.func106 (dec:=d15) rfl rfl (SR.sim gQ) ((Oy m a).trans h)
theorem OU m(hct:CtH m):FE 75 Om SG (qb (m+1)):=fun a r h=>
 fo hct Tryz.func75 (dec:=d45) rfl rfl (SR.sim Ko) ((Oz m a).trans h)
theorem Nk m(hct:CtH m):FE 34 ajM afe (fG (m+1)):=fun a b c r h=>
 fo hct Tryz.func34 (dec:=d34) rfl rfl (SR.sim ajO) ((MK m a b c).trans h)
theorem Nl m(hct:CtH m):FE 9 Om SG (kC (m+1)):=fun a r h=>
 fo hct Tryz.func9 (dec:=d45) rfl rfl (SR.sim Ko) ((ML m a).trans h)
theorem Nn m(hct:CtH m):FE 208 gB qO (oz (m+1)):=fun a r h=>
 fo hct Tryz.func208 (dec:=d47) rfl rfl (SR.sim eU) ((MN m a).trans h)
theorem OV m(hct:CtH m):FE 205 jY AA (oC (m+1)):=fun a r h=>
 fo hct Tryz.func205 (dec:=d15) rfl rfl (SR.sim gQ) ((OA m a).trans h)
theorem JG m(hct:CtH m):FE 204 gB Ma (oN (m+1)):=fun a b r h=>
 fo hct Tryz.func204 (dec:=d47) rfl rfl (SR.sim eU) ((Jt m a b).trans h)
theorem JH m(hct:CtH m):FE 159 res1 afg (bY (m+1)):=fun a b r h=>
 fo hct Tryz.func159 (dec:=d23) rfl rfl (SR.sim iY) ((Ju m a b).trans h)
theorem tT m(hct:CtH m):FE 166 res1 AA (bS (m+1)):=fun a r h=>
 fo hct Tryz.func166 (dec:=d23) rfl rfl (SR.sim iY) ((tQ m a).trans h)
theorem JJ m(hct:CtH m):FE 198 gB wG (mR (m+1)):=fun a r h=>
 fo hct Tryz.func198 (dec:=d47) rfl rfl (SR.sim eU) ((Jv m a).trans h)
theorem anb m(hct:CtH m):FE 230 jY VK (i80 (m+1)):=fun a r h=>
 fo hct Tryz.func230 (dec:=d15) rfl rfl (SR.sim gQ) ((amI m a).trans h)
theorem anc m(hct:CtH m):FE 197 gB VK (i79 (m+1)):=fun a r h=>
 fo hct Tryz.func197 (dec:=d47) rfl rfl (SR.sim eU) ((amJ m a).trans h)
theorem OW m(hct:CtH m):FE 147 gB E8 (mU (m+1)):=fun a r h=>
 fo hct Tryz.func147 (dec:=d47) rfl rfl (SR.sim eU) ((OB m a).trans h)
theorem Np m(hct:CtH m):FE 206 gB wG (kD (m+1)):=fun a r h=>
 fo hct Tryz.func206 (dec:=d47) rfl rfl (SR.sim eU) ((MP m a).trans h)
theorem zL m(hct:CtH m):FE 207 gB E8 (eY (m+1)):=fun a r h=>
 fo hct Tryz.func207 (dec:=d47) rfl rfl (SR.sim eU) ((zF m a).trans h)
theorem Nq m(hct:CtH m):FE 209 res1 qO (gW (m+1)):=fun a r h=>
 fo hct Tryz.func209 (dec:=d23) rfl rfl (SR.sim iY) ((MQ m a).trans h)
theorem Ed m(hct:CtH m):FE 168 res1 ae9 (eF (m+1)):=fun a b r h=>
 fo hct Tryz.func168 (dec:=d23) rfl rfl (SR.sim iY) ((DT m a b).trans h)
theorem Nr m(hct:CtH m):FE 210 gB qO (eu (m+1)):=fun a r h=>
 fo hct Tryz.func210 (dec:=d47) rfl rfl (SR.sim eU) ((MS m a).trans h)
theorem IC m(hct:CtH m):FE 211 jY Ma (iJ (m+1)):=fun a b r h=>
 fo hct Tryz.func211 (dec:=d15) rfl rfl (SR.sim gQ) ((Im m a b).trans h)
theorem Ee m(hct:CtH m):FE 161 res1 I8 (dX (m+1)):=fun a b r h=>
 fo hct Tryz.func161 (dec:=d23) rfl rfl (SR.sim iY) ((DU m a b).trans h)
theorem JK m(hct:CtH m):FE 212 res1 afh (bW (m+1)):=fun a r h=>
 fo hct Tryz.func212 (dec:=d23) rfl rfl (SR.sim iY) ((Jw m a).trans h)
theorem Ef m(hct:CtH m):FE 162 res1 Ma (jg (m+1)):=fun a b r h=>
 fo hct Tryz.func162 (dec:=d23) rfl rfl (SR.sim iY) ((DV m a b).trans h)
theorem OX m(hct:CtH m):FE 163 res1 I8 (gH (m+1)):=fun a b r h=>
 fo hct Tryz.func163 (dec:=d23) rfl rfl (SR.sim iY) ((OC m a b).trans h)
theorem Ns m(hct:CtH m):FE 141 gB L9 (jE (m+1)):=fun a b r h=>
 fo hct Tryz.func141 (dec:=d47) rfl rfl (SR.sim eU) ((MU m a b).trans h)
theorem JL m(hct:CtH m):FE 217 res1 afi (kE (m+1)):=fun a b r h=>
 fo hct Tryz.func217 (dec:=d23) rfl rfl (SR.sim iY) ((Jy m a b).trans h)
theorem JM m(hct:CtH m):FE 165 res1 I8 (dM (m+1)):=fun a b r h=>
 fo hct Tryz.func165 (dec:=d23) rfl rfl (SR.sim iY) ((Jz m a b).trans h)
theorem Nt m(hct:CtH m):FE 218 jY EZ (kF (m+1)):=fun a b r h=>
 fo hct Tryz.func218 (dec:=d15) rfl rfl (SR.sim gQ) ((MV m a b).trans h)
theorem ane m(hct:CtH m)(a:Dt)(b c:Int){r:Int×Int}(h:i95 (m+1) a b c=some r):FX Tryz.prog 234 [.dat 26 a,(.fn 235 [.ptr 0 [] 0,.ptr 1 [] 0])] [.box 3 (.dat 3 (.int b)),.box 3 (.dat 3 (.int c))] (.tup []) [.box 3 (.dat 3 (.int r.1)),.box 3 (.dat 3 (.int r.2))]:=
 fo hct Tryz.func234 rfl rfl aah ((amP m a b c).trans h)
theorem anf m(hct:CtH m)(a:Dt)(b c:Int){r:Bool×Int×Int}(h:i96 (m+1) a b c=some r):FX Tryz.prog 235 [.dat 26 a,.ptr 0 [] 0,.ptr 1 [] 0] [.box 3 (.dat 3 (.int b)),.box 3 (.dat 3 (.int c))] (.dat 4 (.bool r.1)) [.box 3 (.dat 3 (.int r.2.1)),.box 3 (.dat 3 (.int r.2.2))]:=
 fo hct Tryz.func235 rfl rfl aai ((amQ m a b c).trans h)
theorem Nu m(hct:CtH m):FE 169 jY qO (mK (m+1)):=fun a r h=>
 fo hct Tryz.func169 (dec:=d15) rfl rfl (SR.sim gQ) ((MW m a).trans h)
theorem Nv m(hct:CtH m):FE 219 jY EZ (kG (m+1)):=fun a b r h=>
 fo hct Tryz.func219 (dec:=d15) rfl rfl (SR.sim gQ) ((MX m a b).trans h)
theorem ang m(hct:CtH m)(a:Dt)(b c:Int){r:Int×Int}(h:i97 (m+1) a b c=some r):FX Tryz.prog 234 [.dat 26 a,(.fn 236 [.ptr 0 [] 0,.ptr 1 [] 0])] [.box 3 (.dat 3 (.int b)),.box 3 (.dat 3 (.int c))] (.tup []) [.box 3 (.dat 3 (.int r.1)),.box 3 (.dat 3 (.int r.2))]:=
 fo hct Tryz.func234 rfl rfl aah ((amR m a b c).trans h)
theorem anh m(hct:CtH m)(a:Dt)(b c:Int){r:Bool×Int×Int}(h:i98 (m+1) a b c=some r):FX Tryz.prog 236 [.dat 26 a,.ptr 0 [] 0,.ptr 1 [] 0] [.box 3 (.dat 3 (.int b)),.box 3 (.dat 3 (.int c))] (.dat 4 (.bool r.1)) [.box 3 (.dat 3 (.int r.2.1)),.box 3 (.dat 3 (.int r.2.2))]:=
 fo hct Tryz.func236 rfl rfl aai ((amS m a b c).trans h)
theorem Nw m(hct:CtH m):FE 170 jY qO (mM (m+1)):=fun a r h=>
 fo hct Tryz.func170 (dec:=d15) rfl rfl (SR.sim gQ) ((MZ m a).trans h)
theorem Ny m(hct:CtH m)(a:Dt){r:Int×Int×ByteArray×List Dt×List Dt}(h:dx (m+1) a=some r):FX Tryz.prog 156 [.dat 26 a] [] (.agg 26 [.dat 3 (.int r.1),.dat 3 (.int r.2.1),.dat 9 (.str r.2.2.1),.row 0,.row 1]) [.row 23 r.2.2.2.1,.row 24 r.2.2.2.2]:=
 fo hct Tryz.func156 rfl rfl aag ((M0 m a).trans h)
theorem OY m(hct:CtH m):FE 157 jY Mc (qc (m+1)):=fun a b r h=>
 fo hct Tryz.func157 (dec:=d15) rfl rfl (SR.sim gQ) ((OD m a b).trans h)
theorem Tm m(hct:CtH m):FE 119 res1 afj (rJ (m+1)):=fun a b c r h=>
 fo hct Tryz.func119 (dec:=d23) rfl rfl (SR.sim iY) ((Tc m a b c).trans h)
theorem OZ m(hct:CtH m):FE 167 res1 Ym (oF (m+1)):=fun a r h=>
 fo hct Tryz.func167 (dec:=d23) rfl rfl (SR.sim iY) ((OE m a).trans h)
theorem JN m(hct:CtH m):FE 238 gB wG (mW (m+1)):=fun a r h=>
 fo hct Tryz.func238 (dec:=d47) rfl rfl (SR.sim eU) ((JA m a).trans h)
theorem Nz m(hct:CtH m):FE 171 gB qO (bM (m+1)):=fun a r h=>
 fo hct Tryz.func171 (dec:=d47) rfl rfl (SR.sim eU) ((M5 m a).trans h)
theorem Bh m(hct:CtH m):FE 221 gB afk (bK (m+1)):=fun a r h=>
 fo hct Tryz.func221 (dec:=d47) rfl rfl (SR.sim eU) ((AU m a).trans h)
theorem NA m(hct:CtH m):FE 122 gB qO (kH (m+1)):=fun a r h=>
 fo hct Tryz.func122 (dec:=d47) rfl rfl (SR.sim eU) ((M6 m a).trans h)
theorem Tn m(hct:CtH m):FE 84 res1 Md (bU (m+1)):=fun a b c r h=>
 fo hct Tryz.func84 (dec:=d23) rfl rfl (SR.sim iY) ((Td m a b c).trans h)
theorem JO m(hct:CtH m):FE 121 res1 Md (dA (m+1)):=fun a b c r h=>
 fo hct Tryz.func121 (dec:=d23) rfl rfl (SR.sim iY) ((JB m a b c).trans h)
theorem Tp m(hct:CtH m):FE 160 res1 Md (dF (m+1)):=fun a b c r h=>
 fo hct Tryz.func160 (dec:=d23) rfl rfl (SR.sim iY) ((Tf m a b c).trans h)
theorem FR m(hct:CtH m):FE 158 Om SG (jR (m+1)):=fun a r h=>
 fo hct Tryz.func158 (dec:=d45) rfl rfl (SR.sim Ko) ((FN m a).trans h)
theorem ani m(hct:CtH m)(a:Dt)(b c:Int){r:Int×Int}(h:i50 (m+1) a b c=some r):FX Tryz.prog 120 [.dat 29 a,.dat 3 (.int b),.ptr 0 [] 0] [.box 3 (.dat 3 (.int c))] (.dat 31 (.int r.1)) [.box 3 (.dat 3 (.int r.2))]:=
 fo hct Tryz.func120 rfl rfl ajP ((amT m a b c).trans h)
theorem O0 m(hct:CtH m):FE 82 Om SG (qh (m+1)):=fun a r h=>
 fo hct Tryz.func82 (dec:=d45) rfl rfl (SR.sim Ko) ((OG m a).trans h)
theorem Tq m(hct:CtH m):FE 40 res1 afc (gT (m+1)):=fun a b r h=>
 fo hct Tryz.func40 (dec:=d23) rfl rfl (SR.sim iY) ((Ti m a b).trans h)
theorem IE m(hct:CtH m):FE 14 VL ae9 (jF (m+1)):=fun a b r h=>
 fo hct Tryz.func14 (dec:=d46) rfl rfl (SR.sim SI) ((Iw m a b).trans h)
theorem FT m(hct:CtH m):FE 19 VL ae8 (iP (m+1)):=fun a b c r h=>
 fo hct Tryz.func19 (dec:=d46) rfl rfl (SR.sim SI) ((FP m a b c).trans h)
theorem qQ m(hct:CtH m):FE 5 gB ae8 (jo (m+1)):=fun a b c r h=>
 fo hct Tryz.func5 (dec:=d47) rfl rfl (SR.sim eU) ((y9 m a b c).trans h)
theorem aj1 m(hct:CtK m)(h:amg m args objs K=some r):FQ 43 args objs K r:=by
 unfold amg at h;split at h
 ·rename_i l hl;obtain⟨x,hx,hk⟩:=ak.1 h;obtain⟨a,b⟩:=afv hl;cases m with
  |zero=>cases hx
  |succ m=>exact⟨_,hk,(am5 m (hct m (Nat.lt_succ_self m)) _ _ _ hx).conv a b,⟨_,Tryz.func43,rfl,by decide⟩⟩
 cases h
theorem aj2 m(hct:CtK m)(h:amh m args objs K=some r):FQ 44 args objs K r:=by
 unfold amh at h;split at h
 ·rename_i l hl;obtain⟨x,hx,hk⟩:=ak.1 h;obtain⟨a,b⟩:=afx hl;cases m with
  |zero=>cases hx
  |succ m=>exact⟨_,hk,(am4 m (hct m (Nat.lt_succ_self m)) _ _ _ hx).conv a b,⟨_,Tryz.func44,rfl,by decide⟩⟩
 cases h
theorem aj3 m(hct:CtK m)(h:ami m args objs K=some r):FQ 46 args objs K r:=by
 unfold ami at h;split at h
 ·rename_i l hl;obtain⟨x,hx,hk⟩:=ak.1 h;obtain⟨a,b⟩:=afz hl;exact⟨_,hk,(abG hx).conv a b,⟨_,Tryz.func46,rfl,by decide⟩⟩
 cases h
theorem aj4 m(hct:CtK m)(h:amj m args objs K=some r):FQ 47 args objs K r:=by
 unfold amj at h;split at h
 ·rename_i l hl;obtain⟨x,hx,hk⟩:=ak.1 h;obtain⟨a,b⟩:=afB hl;cases m with
  |zero=>cases hx
  |succ m=>exact⟨_,hk,(Eb m (hct m (Nat.lt_succ_self m)) _ _ hx).conv a b,⟨_,Tryz.func47,rfl,by decide⟩⟩
 cases h
theorem aj5 m(hct:CtK m)(h:amk m args objs K=some r):FQ 49 args objs K r:=by
 unfold amk at h;split at h
 ·rename_i l hl;obtain⟨x,hx,hk⟩:=ak.1 h;obtain⟨a,b⟩:=afD hl;cases m with
  |zero=>cases hx
  |succ m=>exact⟨_,hk,(am9 m (hct m (Nat.lt_succ_self m)) _ hx).conv a b,⟨_,Tryz.func49,rfl,by decide⟩⟩
 cases h
theorem aj6 m(hct:CtK m)(h:aml m args objs K=some r):FQ 90 args objs K r:=by
 unfold aml at h;split at h
 ·rename_i l hl;obtain⟨x,hx,hk⟩:=ak.1 h;obtain⟨a,b⟩:=afF hl;cases m with
  |zero=>cases hx
  |succ m=>exact⟨_,hk,(am8 m (hct m (Nat.lt_succ_self m)) _ _ hx).conv a b,⟨_,Tryz.func90,rfl,by decide⟩⟩
 cases h
theorem ah3 m(hct:CtK m)(h:afO m args objs K=some r):FQ 131 args objs K r:=by
 unfold afO at h;split at h
 ·rename_i l hl;obtain⟨x,hx,hk⟩:=ak.1 h;obtain⟨a,b⟩:=afH hl;cases m with
  |zero=>cases hx
  |succ m=>exact⟨_,hk,(am6 m (hct m (Nat.lt_succ_self m)) _ _ _ hx).conv a b,⟨_,Tryz.func131,rfl,by decide⟩⟩
 cases h
theorem ah4 m(hct:CtK m)(h:afP m args objs K=some r):FQ 132 args objs K r:=by
 unfold afP at h;split at h
 ·rename_i l hl;obtain⟨x,hx,hk⟩:=ak.1 h;obtain⟨a,b⟩:=Mg hl;cases m with
  |zero=>cases hx
  |succ m=>exact⟨_,hk,(am7 m (hct m (Nat.lt_succ_self m)) _ _ _ _ hx).conv a b,⟨_,Tryz.func132,rfl,by decide⟩⟩
 cases h
theorem ah5 m(hct:CtK m)(h:afQ m args objs K=some r):FQ 190 args objs K r:=by
 unfold afQ at h;split at h
 ·rename_i l hl;obtain⟨x,hx,hk⟩:=ak.1 h;obtain⟨a,b⟩:=Mg hl;cases m with
  |zero=>cases hx
  |succ m=>exact⟨_,hk,(am2 m (hct m (Nat.lt_succ_self m)) _ _ _ _ hx).conv a b,⟨_,Tryz.func190,rfl,by decide⟩⟩
 cases h
theorem ah6 m(hct:CtK m)(h:afR m args objs K=some r):FQ 225 args objs K r:=by
 unfold afR at h;split at h
 ·rename_i l hl;obtain⟨x,hx,hk⟩:=ak.1 h;obtain⟨a,b⟩:=Mg hl;cases m with
  |zero=>cases hx
  |succ m=>exact⟨_,hk,(am1 m (hct m (Nat.lt_succ_self m)) _ _ _ _ hx).conv a b,⟨_,Tryz.func225,rfl,by decide⟩⟩
 cases h
theorem ah7 m(hct:CtK m)(h:afS m args objs K=some r):FQ 120 args objs K r:=by
 unfold afS at h;split at h
 ·rename_i l hl;obtain⟨x,hx,hk⟩:=ak.1 h;obtain⟨a,b⟩:=afJ hl;cases m with
  |zero=>cases hx
  |succ m=>exact⟨_,hk,(ani m (hct m (Nat.lt_succ_self m)) _ _ _ hx).conv a b,⟨_,Tryz.func120,rfl,by decide⟩⟩
 cases h
theorem ah8 m(hct:CtK m)(h:afT m args objs K=some r):FQ 156 args objs K r:=by
 unfold afT at h;split at h
 ·rename_i l hl;obtain⟨x,hx,hk⟩:=ak.1 h;obtain⟨a,b⟩:=RI hl;cases m with
  |zero=>cases hx
  |succ m=>exact⟨_,hk,(Ny m (hct m (Nat.lt_succ_self m)) _ hx).conv a b,⟨_,Tryz.func156,rfl,by decide⟩⟩
 cases h
theorem ah9 m(hct:CtK m)(h:afU m args objs K=some r):FQ 234 args objs K r:=by
 unfold afU at h;split at h
 ·rename_i l hl;obtain⟨x,hx,hk⟩:=ak.1 h;obtain⟨a,b⟩:=afL hl;cases m with
  |zero=>cases hx
  |succ m=>exact⟨_,hk,(ane m (hct m (Nat.lt_succ_self m)) _ _ _ hx).conv a b,⟨_,Tryz.func234,rfl,by decide⟩⟩
 split at h
 ·rename_i l hl;obtain⟨x,hx,hk⟩:=ak.1 h;obtain⟨a,b⟩:=afN hl;cases m with
  |zero=>cases hx
  |succ m=>exact⟨_,hk,(ang m (hct m (Nat.lt_succ_self m)) _ _ _ hx).conv a b,⟨_,Tryz.func234,rfl,by decide⟩⟩
 cases h
theorem aia m(hct:CtK m)(h:afV m args objs K=some r):FQ 235 args objs K r:=by
 unfold afV at h;split at h
 ·rename_i l hl;obtain⟨x,hx,hk⟩:=ak.1 h;obtain⟨a,b⟩:=VQ hl;cases m with
  |zero=>cases hx
  |succ m=>exact⟨_,hk,(anf m (hct m (Nat.lt_succ_self m)) _ _ _ hx).conv a b,⟨_,Tryz.func235,rfl,by decide⟩⟩
 cases h
theorem aib m(hct:CtK m)(h:afW m args objs K=some r):FQ 236 args objs K r:=by
 unfold afW at h;split at h
 ·rename_i l hl;obtain⟨x,hx,hk⟩:=ak.1 h;obtain⟨a,b⟩:=VQ hl;cases m with
  |zero=>cases hx
  |succ m=>exact⟨_,hk,(anh m (hct m (Nat.lt_succ_self m)) _ _ _ hx).conv a b,⟨_,Tryz.func236,rfl,by decide⟩⟩
 cases h
end
theorem anj m(ck:CtK m)(f:FuncId)(e:Ent):ctE m f=some e->EOK Tryz.prog f e:=
 .st (fe m ck Z7 ⟨_,Tryz.func5,rfl,by decide⟩ qQ (fun _ _ _=>rfl))<|
 .st (fe m ck SH ⟨_,Tryz.func8,rfl,by decide⟩ Ng (fun _=>rfl))<|
 .st ⟨Z8,fun r h=>abY h,⟨_,Tryz.func10,rfl,by decide⟩⟩<|
 .st (fe m ck nX ⟨_,Tryz.func18,rfl,by decide⟩ Nf (fun _=>rfl))<|
 .st (fe m ck E9 ⟨_,Tryz.func21,rfl,by decide⟩ Iy (fun _ _=>rfl))<|
 .st (fe m ck Z9 ⟨_,Tryz.func14,rfl,by decide⟩ IE (fun _ _=>rfl))<|
 .st (fe m ck SH ⟨_,Tryz.func22,rfl,by decide⟩ xO (fun _=>rfl))<|
 .st (fe m ck Z7 ⟨_,Tryz.func19,rfl,by decide⟩ FT (fun _ _ _=>rfl))<|
 .st (fe m ck Kn ⟨_,Tryz.func9,rfl,by decide⟩ Nl (fun _=>rfl))<|
 .st (fe m ck aac ⟨_,Tryz.func16,rfl,by decide⟩ ap4 (fun _=>rfl))<|
 .st (fe m ck aac ⟨_,Tryz.func53,rfl,by decide⟩ am3 (fun _=>rfl))<|
 .st (fe m ck nX ⟨_,Tryz.func33,rfl,by decide⟩ Iz (fun _=>rfl))<|
 .st (fe m ck nX ⟨_,Tryz.func54,rfl,by decide⟩ Na (fun _=>rfl))<|
 .st (fe m ck nX ⟨_,Tryz.func55,rfl,by decide⟩ Nc (fun _=>rfl))<|
 .st (fe m ck aad ⟨_,Tryz.func56,rfl,by decide⟩ JE (fun _ _=>rfl))<|
 .st (fe m ck Fa ⟨_,Tryz.func60,rfl,by decide⟩ OH (fun _ _=>rfl))<|
 .st (fe m ck VN ⟨_,Tryz.func61,rfl,by decide⟩ M8 (fun _ _=>rfl))<|
 .st (fe m ck afl ⟨_,Tryz.func40,rfl,by decide⟩ Tq (fun _ _=>rfl))<|
 .st (fe m ck E9 ⟨_,Tryz.func45,rfl,by decide⟩ IB (fun _ _=>rfl))<|
 .st (fe m ck AJ ⟨_,Tryz.func48,rfl,by decide⟩ Ea (fun _=>rfl))<|
 .st (fe m ck E9 ⟨_,Tryz.func50,rfl,by decide⟩ Ec (fun _ _=>rfl))<|
 .st (fe m ck Me ⟨_,Tryz.func23,rfl,by decide⟩ Tj (fun _ _=>rfl))<|
 .st (fe m ck afm ⟨_,Tryz.func57,rfl,by decide⟩ ana (fun _ _=>rfl))<|
 .st (fe m ck nX ⟨_,Tryz.func58,rfl,by decide⟩ Bg (fun _=>rfl))<|
 .st (fe m ck afn ⟨_,Tryz.func34,rfl,by decide⟩ Nk (fun _ _ _=>rfl))<|
 .st (fe m ck Fb ⟨_,Tryz.func92,rfl,by decide⟩ JD (fun _ _=>rfl))<|
 .st (fe m ck Fb ⟨_,Tryz.func93,rfl,by decide⟩ Nb (fun _ _=>rfl))<|
 .st (fe m ck vg ⟨_,Tryz.func94,rfl,by decide⟩ OM (fun _=>rfl))<|
 .st (fe m ck aad ⟨_,Tryz.func95,rfl,by decide⟩ JF (fun _ _=>rfl))<|
 .st (fe m ck Kn ⟨_,Tryz.func82,rfl,by decide⟩ O0 (fun _=>rfl))<|
 .st (fe m ck Mf ⟨_,Tryz.func84,rfl,by decide⟩ Tn (fun _ _ _=>rfl))<|
 .st (fe m ck nX ⟨_,Tryz.func83,rfl,by decide⟩ OJ (fun _=>rfl))<|
 .st (fe m ck Fa ⟨_,Tryz.func86,rfl,by decide⟩ Nh (fun _ _=>rfl))<|
 .st ⟨VN,fun _ _ r h=>Yg h,⟨_,Tryz.func87,rfl,by decide⟩⟩<|
 .st (fe m ck Me ⟨_,Tryz.func62,rfl,by decide⟩ Wp (fun _ _=>rfl))<|
 .st (fe m ck Kn ⟨_,Tryz.func75,rfl,by decide⟩ OU (fun _=>rfl))<|
 .st (fe m ck nX ⟨_,Tryz.func133,rfl,by decide⟩ M9 (fun _=>rfl))<|
 .st (fe m ck afo ⟨_,Tryz.func134,rfl,by decide⟩ OL (fun _ _ _=>rfl))<|
 .st (fe m ck vg ⟨_,Tryz.func97,rfl,by decide⟩ OO (fun _=>rfl))<|
 .st (fe m ck vg ⟨_,Tryz.func135,rfl,by decide⟩ OP (fun _=>rfl))<|
 .st (fe m ck Kn ⟨_,Tryz.func158,rfl,by decide⟩ FR (fun _=>rfl))<|
 .st (fe m ck Mf ⟨_,Tryz.func121,rfl,by decide⟩ JO (fun _ _ _=>rfl))<|
 .st (fe m ck nX ⟨_,Tryz.func122,rfl,by decide⟩ NA (fun _=>rfl))<|
 .st (fe m ck Z8 ⟨_,Tryz.func123,rfl,by decide⟩ yT (rfl))<|
 .st (fe m ck AJ ⟨_,Tryz.func128,rfl,by decide⟩ Tk (fun _=>rfl))<|
 .st (fe m ck Fe ⟨_,Tryz.func65,rfl,by decide⟩ Ni (fun _=>rfl))<|
 .st (fe m ck E9 ⟨_,Tryz.func108,rfl,by decide⟩ OQ (fun _ _=>rfl))<|
 .st (fe m ck Fe ⟨_,Tryz.func107,rfl,by decide⟩ Nj (fun _=>rfl))<|
 .st (fe m ck AJ ⟨_,Tryz.func106,rfl,by decide⟩ OT (fun _=>rfl))<|
 .st (fe m ck Fe ⟨_,Tryz.func147,rfl,by decide⟩ OW (fun _=>rfl))<|
 .st (fe m ck vg ⟨_,Tryz.func206,rfl,by decide⟩ Np (fun _=>rfl))<|
 .st (fe m ck nX ⟨_,Tryz.func208,rfl,by decide⟩ Nn (fun _=>rfl))<|
 .st (fe m ck Fe ⟨_,Tryz.func207,rfl,by decide⟩ zL (fun _=>rfl))<|
 .st (fe m ck AJ ⟨_,Tryz.func205,rfl,by decide⟩ OV (fun _=>rfl))<|
 .st (fe m ck Fa ⟨_,Tryz.func204,rfl,by decide⟩ JG (fun _ _=>rfl))<|
 .st (fe m ck afp ⟨_,Tryz.func159,rfl,by decide⟩ JH (fun _ _=>rfl))<|
 .st (fe m ck Mf ⟨_,Tryz.func160,rfl,by decide⟩ Tp (fun _ _ _=>rfl))<|
 .st (fe m ck Fg ⟨_,Tryz.func161,rfl,by decide⟩ Ee (fun _ _=>rfl))<|
 .st (fe m ck Fa ⟨_,Tryz.func162,rfl,by decide⟩ Ef (fun _ _=>rfl))<|
 .st (fe m ck Fg ⟨_,Tryz.func163,rfl,by decide⟩ OX (fun _ _=>rfl))<|
 .st ⟨Fg,fun _ _ r h=>Gm h,⟨_,Tryz.func164,rfl,by decide⟩⟩<|
 .st (fe m ck Fg ⟨_,Tryz.func165,rfl,by decide⟩ JM (fun _ _=>rfl))<|
 .st (fe m ck AJ ⟨_,Tryz.func166,rfl,by decide⟩ tT (fun _=>rfl))<|
 .st (fe m ck SH ⟨_,Tryz.func167,rfl,by decide⟩ OZ (fun _=>rfl))<|
 .st (fe m ck Z9 ⟨_,Tryz.func168,rfl,by decide⟩ Ed (fun _ _=>rfl))<|
 .st (fe m ck nX ⟨_,Tryz.func169,rfl,by decide⟩ Nu (fun _=>rfl))<|
 .st (fe m ck nX ⟨_,Tryz.func170,rfl,by decide⟩ Nw (fun _=>rfl))<|
 .st (fe m ck nX ⟨_,Tryz.func171,rfl,by decide⟩ Nz (fun _=>rfl))<|
 .st (fe m ck VO ⟨_,Tryz.func197,rfl,by decide⟩ anc (fun _=>rfl))<|
 .st (fe m ck VO ⟨_,Tryz.func230,rfl,by decide⟩ anb (fun _=>rfl))<|
 .st (fe m ck vg ⟨_,Tryz.func198,rfl,by decide⟩ JJ (fun _=>rfl))<|
 .st (fe m ck nX ⟨_,Tryz.func209,rfl,by decide⟩ Nq (fun _=>rfl))<|
 .st (fe m ck nX ⟨_,Tryz.func210,rfl,by decide⟩ Nr (fun _=>rfl))<|
 .st (fe m ck Fa ⟨_,Tryz.func211,rfl,by decide⟩ IC (fun _ _=>rfl))<|
 .st (fe m ck afq ⟨_,Tryz.func212,rfl,by decide⟩ JK (fun _=>rfl))<|
 .st (fe m ck E9 ⟨_,Tryz.func141,rfl,by decide⟩ Ns (fun _ _=>rfl))<|
 .st (fe m ck afr ⟨_,Tryz.func217,rfl,by decide⟩ JL (fun _ _=>rfl))<|
 .st (fe m ck afs ⟨_,Tryz.func119,rfl,by decide⟩ Tm (fun _ _ _=>rfl))<|
 .st (fe m ck Fb ⟨_,Tryz.func218,rfl,by decide⟩ Nt (fun _ _=>rfl))<|
 .st (fe m ck Fb ⟨_,Tryz.func219,rfl,by decide⟩ Nv (fun _ _=>rfl))<|
 .st ⟨vg,fun _ r h=>LZ h,⟨_,Tryz.func220,rfl,by decide⟩⟩<|
 .st (fe m ck aft ⟨_,Tryz.func221,rfl,by decide⟩ Bh (fun _=>rfl))<|
 .st (fe m ck Me ⟨_,Tryz.func157,rfl,by decide⟩ OY (fun _ _=>rfl))<|
 .st (fe m ck vg ⟨_,Tryz.func238,rfl,by decide⟩ JN (fun _=>rfl))<|
 nofun
theorem ank m(ck:CtK m){R:Type}{f:FuncId}{args:List AV}{objs:List Ob}{K:Res->Option R}{r:R}(h:ctX m f args objs K=some r):FQ f args objs K r:=by
 unfold ctX at h;rcases dG h with⟨hb,a⟩| ⟨_,h⟩;·cases beq_eq hb;exact aj1 m ck a
 rcases dG h with⟨hb,a⟩| ⟨_,h⟩;·cases beq_eq hb;exact aj2 m ck a
 rcases dG h with⟨hb,a⟩| ⟨_,h⟩;·cases beq_eq hb;exact aj3 m ck a
 rcases dG h with⟨hb,a⟩| ⟨_,h⟩;·cases beq_eq hb;exact aj4 m ck a
 rcases dG h with⟨hb,a⟩| ⟨_,h⟩;·cases beq_eq hb;exact aj5 m ck a
 rcases dG h with⟨hb,a⟩| ⟨_,h⟩;·cases beq_eq hb;exact aj6 m ck a
 rcases dG h with⟨hb,a⟩| ⟨_,h⟩;·cases beq_eq hb;exact ah3 m ck a
 rcases dG h with⟨hb,a⟩| ⟨_,h⟩;·cases beq_eq hb;exact ah4 m ck a
 rcases dG h with⟨hb,a⟩| ⟨_,h⟩;·cases beq_eq hb;exact ah5 m ck a
 rcases dG h with⟨hb,a⟩| ⟨_,h⟩;·cases beq_eq hb;exact ah6 m ck a
 rcases dG h with⟨hb,a⟩| ⟨_,h⟩;·cases beq_eq hb;exact ah7 m ck a
 rcases dG h with⟨hb,a⟩| ⟨_,h⟩;·cases beq_eq hb;exact ah8 m ck a
 rcases dG h with⟨hb,a⟩| ⟨_,h⟩;·cases beq_eq hb;exact ah9 m ck a
 rcases dG h with⟨hb,a⟩| ⟨_,h⟩;·cases beq_eq hb;exact aia m ck a
 rcases dG h with⟨hb,a⟩| ⟨_,h⟩;·cases beq_eq hb;exact aib m ck a
 cases h
theorem ct_ok(m:Nat):CtH m:=Nat.strongRecOn m fun m ck R f args objs K r h=>by
 unfold ct at h;split at h
 ·rename_i e he;exact(anj m ck f e he).run h
 ·exact ank m ck h
