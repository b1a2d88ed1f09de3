/- Generated: the functions as contracts for their callers.
Generated:each function's run in the abstract machine is its shallow function.
Generated:each function's run in the abstract machine is its shallow function.
Generated:each function's run in the abstract machine is its shallow function.
Generated:the contracts. -/
import Derived.Test.YtmecfjhdnbgfeaaGreatDoorSh
import Derived.Test.YtmecfjhdnbgfeaaGreatDoorA3
import Derived.Test.YtmecfjhdnbgfeaaGreatDoorProg
import Derived.KernelRfl
import Derived.Test.YtmecfjhdnbgfeaaGreatDoorAmEnv
set_option linter.all false
noncomputable section
namespace Go.Proofs.YtmecfjhdnbgfeaaGreatDoor
open Go.Am
def F5:List SA:=[.d 29 .a,.d 23 .l]
def Pg:List SA:=[.d 23 .l]
def ahq:List SA:=[]
def arl:List SA:=[.d 23 .l,.d 23 .l]
def Xj:List SA:=[.d 29 .a]
def ajS:List SA:=[.d 23 .l,.f 33]
def sH:List SA:=[.d 26 .a]
def acy:List SA:=[.d 29 .a,.d 26 .a]
def Di:List SA:=[.d 26 .a,.d 26 .a]
def F6:List SA:=[.d 3 .i]
def Dj:List SA:=[.d 26 .a,.d 3 .i]
def ajT:List SA:=[.d 29 .a,.d 3 .i,.d 3 .i]
def Ph:List SA:=[.d 29 .a,.d 26 .a,.d 160 .a]
def Z4:List SA:=[.d 29 .a,.d 26 .a,.d 161 .l]
def Ae:List SA:=[.d 3 .i,.d 3 .i]
def ae2:List SA:=[.d 9 .s,.d 9 .s]
def Z5:List SA:=[.d 26 .a,.d 4 .b]
def Z6:List SA:=[.d 26 .a,.d 22 .l]
def Ip:List SA:=[.d 22 .l]
def vY:List SA:=[.d 9 .s]
def BJ:List SA:=[.d 3 .i,.d 23 .l]
def Pj:List SA:=[.d 26 .a,.d 9 .s]
def Z7:List SA:=[.d 4 .b]
def ajU:List SA:=[.d 9 .s,.d 4 .b]
def ajV:List SA:=[.d 26 .a,.d 26 .a,.d 26 .a]
def ajW:List SA:=[.d 3 .i,.d 26 .a]
def Z8:List SA:=[.d 23 .l,.d 26 .a]
def ajX:List SA:=[.d 3 .i,.d 26 .a,.d 26 .a]
def ajY:List SA:=[.d 9 .s,.d 3 .i,.d 3 .i]
def Z9:List SA:=[.d 22 .l,.f 198]
def aac:List SA:=[.d 26 .a,.d 9 .s,.d 26 .a]
def ajZ:List SA:=[.d 24 .l]
def aj0:List SA:=[.d 23 .l,.d 3 .i]
def eU:SR:= .d 4 .b
def res1:SR:= .d 26 .a
def res2:SR:= .d 3 .i
def auK:SR:= .t [(3,.i),(4,.b)]
def aom:SR:= .d 9 .s
def aad:SR:= .d 23 .l
def RY:SR:= .d 31 .i
def aon:SR:= .t [(3,.i),(31,.i)]
def aoo:SR:= .t [(26,.a),(4,.b)]
def ahr:SR:= .t [(23,.l),(31,.i)]
theorem Br:oksA Tryz.prog F5:=⟨trivial,⟨_,Tryz.underlying23⟩,trivial⟩
theorem Iq:oksA Tryz.prog Pg:=⟨⟨_,Tryz.underlying23⟩,trivial⟩
theorem Xk:oksA Tryz.prog ahq:=trivial
theorem aop:oksA Tryz.prog arl:=⟨⟨_,Tryz.underlying23⟩,⟨_,Tryz.underlying23⟩,trivial⟩
theorem Nz:oksA Tryz.prog Xj:=⟨trivial,trivial⟩
theorem ae3:oksA Tryz.prog ajS:=⟨⟨_,Tryz.underlying23⟩,trivial⟩
theorem oq:oksA Tryz.prog sH:=⟨trivial,trivial⟩
theorem Xl:oksA Tryz.prog acy:=⟨trivial,trivial,trivial⟩
theorem yI:oksA Tryz.prog Di:=⟨trivial,trivial,trivial⟩
theorem Bt:oksA Tryz.prog F6:=⟨⟨_,Tryz.underlying3⟩,trivial⟩
theorem Dk:oksA Tryz.prog Dj:=⟨trivial,⟨_,Tryz.underlying3⟩,trivial⟩
theorem aj1:oksA Tryz.prog ajT:=⟨trivial,⟨_,Tryz.underlying3⟩,⟨_,Tryz.underlying3⟩,trivial⟩
theorem Pk:oksA Tryz.prog Ph:=⟨trivial,trivial,trivial,trivial⟩
theorem aae:oksA Tryz.prog Z4:=⟨trivial,trivial,⟨_,Tryz.underlying161⟩,trivial⟩
theorem Af:oksA Tryz.prog Ae:=⟨⟨_,Tryz.underlying3⟩,⟨_,Tryz.underlying3⟩,trivial⟩
theorem aaf:oksA Tryz.prog ae2:=⟨Tryz.underlying9,Tryz.underlying9,trivial⟩
theorem aag:oksA Tryz.prog Z5:=⟨trivial,Tryz.underlying4,trivial⟩
theorem aah:oksA Tryz.prog Z6:=⟨trivial,⟨_,Tryz.underlying22⟩,trivial⟩
theorem Ir:oksA Tryz.prog Ip:=⟨⟨_,Tryz.underlying22⟩,trivial⟩
theorem vL:oksA Tryz.prog vY:=⟨Tryz.underlying9,trivial⟩
theorem Ag:oksA Tryz.prog BJ:=⟨⟨_,Tryz.underlying3⟩,⟨_,Tryz.underlying23⟩,trivial⟩
theorem Pm:oksA Tryz.prog Pj:=⟨trivial,Tryz.underlying9,trivial⟩
theorem aai:oksA Tryz.prog Z7:=⟨Tryz.underlying4,trivial⟩
theorem aj2:oksA Tryz.prog ajU:=⟨Tryz.underlying9,Tryz.underlying4,trivial⟩
theorem aj3:oksA Tryz.prog ajV:=⟨trivial,trivial,trivial,trivial⟩
theorem aj4:oksA Tryz.prog ajW:=⟨⟨_,Tryz.underlying3⟩,trivial,trivial⟩
theorem aaj:oksA Tryz.prog Z8:=⟨⟨_,Tryz.underlying23⟩,trivial,trivial⟩
theorem aj5:oksA Tryz.prog ajX:=⟨⟨_,Tryz.underlying3⟩,trivial,trivial,trivial⟩
theorem aj6:oksA Tryz.prog ajY:=⟨Tryz.underlying9,⟨_,Tryz.underlying3⟩,⟨_,Tryz.underlying3⟩,trivial⟩
theorem aak:oksA Tryz.prog Z9:=⟨⟨_,Tryz.underlying22⟩,trivial⟩
theorem aal:oksA Tryz.prog aac:=⟨trivial,Tryz.underlying9,trivial,trivial⟩
theorem aj7:oksA Tryz.prog ajZ:=⟨⟨_,Tryz.underlying24⟩,trivial⟩
theorem aj8:oksA Tryz.prog aj0:=⟨⟨_,Tryz.underlying23⟩,⟨_,Tryz.underlying3⟩,trivial⟩
theorem dQ:eU.ok Tryz.prog:=Tryz.underlying4
theorem dB:res1.ok Tryz.prog:=trivial
theorem gZ:res2.ok Tryz.prog:=⟨_,Tryz.underlying3⟩
theorem aoq:auK.ok Tryz.prog:=⟨⟨_,Tryz.underlying3⟩,Tryz.underlying4,trivial⟩
theorem aor:aom.ok Tryz.prog:=Tryz.underlying9
theorem Xm:aad.ok Tryz.prog:=⟨_,Tryz.underlying23⟩
theorem NA:RY.ok Tryz.prog:=⟨_,Tryz.underlying31⟩
theorem aos:aon.ok Tryz.prog:=⟨⟨_,Tryz.underlying3⟩,⟨_,Tryz.underlying31⟩,trivial⟩
theorem aot:aoo.ok Tryz.prog:=⟨trivial,Tryz.underlying4,trivial⟩
theorem ae4:ahr.ok Tryz.prog:=⟨⟨_,Tryz.underlying23⟩,⟨_,Tryz.underlying31⟩,trivial⟩
def d5:Res->Option (Bool):=SR.g eU
def d20:Res->Option (Dt):=SR.g res1
def d39:Res->Option (Int):=SR.g res2
def d15:Res->Option (Int×Bool):=SR.g auK
def d92:Res->Option (ByteArray):=SR.g aom
def Xn:Res->Option (List Dt):=SR.g aad
def d42:Res->Option (Int):=SR.g RY
def d31:Res->Option (Int×Int):=SR.g aon
def d84:Res->Option (Dt×Bool):=SR.g aoo
def d4:Res->Option (List Dt×Int):=SR.g ahr
def aj9(args:List AV)(objs:List Ob):Option Dt:=match args,objs with
 | [.dat T0 a],[]=>bif Nat.beq T0 26 then some a else none
 |_,_=>none
theorem akb{args:List AV}{objs:List Ob}{l:Dt}(h:aj9 args objs=some l):CnA Tryz.prog args [.dat 26 l]∧CnOL Tryz.prog objs []:=by
 unfold aj9 at h;split at h
 ·obtain⟨hc,a⟩:=aO h;cases a;have e0:=beq_eq hc;subst e0;exact⟨(.cons (.of .same rfl rfl) .nil),.nil⟩
 ·cases h
def akc(args:List AV)(objs:List Ob):Option (List Dt×Dt×Dt):=match args,objs with
 | [.dat T0 a,.dat T1 b,.fn T2 [.rptr T3 c]],[]=>bif (Nat.beq T0 75&&(Nat.beq T1 26&&(Nat.beq T2 44&&Nat.beq T3 23)))then some (a.toLst,b,c)else none
 |_,_=>none
theorem akd{args:List AV}{objs:List Ob}{l:List Dt×Dt×Dt}(h:akc args objs=some l):CnA Tryz.prog args [.dat 75 (.lst l.1),.dat 26 l.2.1,.fn 44 [.rptr 23 l.2.2]]∧CnOL Tryz.prog objs []:=by
 unfold akc at h;split at h
 ·obtain⟨hc,a⟩:=aO h;cases a;have e0:=beq_eq (bg hc);have hc:=aQ hc;have e1:=beq_eq (bg hc);have hc:=aQ hc;have e2:=beq_eq (bg hc);have hc:=aQ hc;have e3:=beq_eq hc;subst e0 e1 e2 e3;exact⟨(.cons (.of (.dat (.lst Tryz.underlying75)) rfl rfl) (.cons (.of .same rfl rfl) (.cons (.of (.fn (.cons .same .nil)) rfl rfl) .nil))),.nil⟩
 ·cases h
def ake(args:List AV)(objs:List Ob):Option (Int×Dt×Dt):=match args,objs with
 | [.dat T0 a,.dat T1 b,.rptr T2 c],[]=>bif (Nat.beq T0 3&&(Nat.beq T1 26&&Nat.beq T2 23))then some (a.toInt,b,c)else none
 |_,_=>none
theorem akf{args:List AV}{objs:List Ob}{l:Int×Dt×Dt}(h:ake args objs=some l):CnA Tryz.prog args [.dat 3 (.int l.1),.dat 26 l.2.1,.rptr 23 l.2.2]∧CnOL Tryz.prog objs []:=by
 unfold ake at h;split at h
 ·obtain⟨hc,a⟩:=aO h;cases a;have e0:=beq_eq (bg hc);have hc:=aQ hc;have e1:=beq_eq (bg hc);have hc:=aQ hc;have e2:=beq_eq hc;subst e0 e1 e2;exact⟨(.cons (.of (.dat (.int Tryz.underlying3)) rfl rfl) (.cons (.of .same rfl rfl) (.cons (.of .same rfl rfl) .nil))),.nil⟩
 ·cases h
def akg(args:List AV)(objs:List Ob):Option (Int×List Dt×List Dt):=match args,objs with
 | [.row n0,.dat T1 a,.row n2],[.row T3 b,.row T4 c]=>bif (Nat.beq n0 0&&(Nat.beq T1 3&&(Nat.beq n2 1&&(Nat.beq T3 75&&Nat.beq T4 75))))then some (a.toInt,b,c)else none
 |_,_=>none
theorem akh{args:List AV}{objs:List Ob}{l:Int×List Dt×List Dt}(h:akg args objs=some l):CnA Tryz.prog args [.row 0,.dat 3 (.int l.1),.row 1]∧CnOL Tryz.prog objs [.row 75 l.2.1,.row 75 l.2.2]:=by
 unfold akg at h;split at h
 ·obtain⟨hc,a⟩:=aO h;cases a;have e0:=beq_eq (bg hc);have hc:=aQ hc;have e1:=beq_eq (bg hc);have hc:=aQ hc;have e2:=beq_eq (bg hc);have hc:=aQ hc;have e3:=beq_eq (bg hc);have hc:=aQ hc;have e4:=beq_eq hc;subst e0 e1 e2 e3 e4;exact⟨(.cons (.of .same rfl rfl) (.cons (.of (.dat (.int Tryz.underlying3)) rfl rfl) (.cons (.of .same rfl rfl) .nil))),(.cons .same (.cons .same .nil))⟩
 ·cases h
def aki(args:List AV)(objs:List Ob):Option (Dt×Int):=match args,objs with
 | [.dat T0 a,.dat T1 b],[]=>bif (Nat.beq T0 26&&Nat.beq T1 3)then some (a,b.toInt)else none
 |_,_=>none
theorem akj{args:List AV}{objs:List Ob}{l:Dt×Int}(h:aki args objs=some l):CnA Tryz.prog args [.dat 26 l.1,.dat 3 (.int l.2)]∧CnOL Tryz.prog objs []:=by
 unfold aki at h;split at h
 ·obtain⟨hc,a⟩:=aO h;cases a;have e0:=beq_eq (bg hc);have hc:=aQ hc;have e1:=beq_eq hc;subst e0 e1;exact⟨(.cons (.of .same rfl rfl) (.cons (.of (.dat (.int Tryz.underlying3)) rfl rfl) .nil)),.nil⟩
 ·cases h
def akk(args:List AV)(objs:List Ob):Option (List Dt):=match args,objs with
 | [.row n0,.fn T1 []],[.row T2 a]=>bif (Nat.beq n0 0&&(Nat.beq T1 50&&Nat.beq T2 23))then some a else none
 |_,_=>none
theorem akl{args:List AV}{objs:List Ob}{l:List Dt}(h:akk args objs=some l):CnA Tryz.prog args [.row 0,.fn 50 []]∧CnOL Tryz.prog objs [.row 23 l]:=by
 unfold akk at h;split at h
 ·obtain⟨hc,a⟩:=aO h;cases a;have e0:=beq_eq (bg hc);have hc:=aQ hc;have e1:=beq_eq (bg hc);have hc:=aQ hc;have e2:=beq_eq hc;subst e0 e1 e2;exact⟨(.cons (.of .same rfl rfl) (.cons (.of (.fn .nil) rfl rfl) .nil)),(.cons .same .nil)⟩
 ·cases h
def akm(args:List AV)(objs:List Ob):Option (Int×List Dt):=match args,objs with
 | [.row n0,.dat T1 a,.fn T2 []],[.row T3 b]=>bif (Nat.beq n0 0&&(Nat.beq T1 3&&(Nat.beq T2 50&&Nat.beq T3 23)))then some (a.toInt,b)else none
 |_,_=>none
theorem akn{args:List AV}{objs:List Ob}{l:Int×List Dt}(h:akm args objs=some l):CnA Tryz.prog args [.row 0,.dat 3 (.int l.1),.fn 50 []]∧CnOL Tryz.prog objs [.row 23 l.2]:=by
 unfold akm at h;split at h
 ·obtain⟨hc,a⟩:=aO h;cases a;have e0:=beq_eq (bg hc);have hc:=aQ hc;have e1:=beq_eq (bg hc);have hc:=aQ hc;have e2:=beq_eq (bg hc);have hc:=aQ hc;have e3:=beq_eq hc;subst e0 e1 e2 e3;exact⟨(.cons (.of .same rfl rfl) (.cons (.of (.dat (.int Tryz.underlying3)) rfl rfl) (.cons (.of (.fn .nil) rfl rfl) .nil))),(.cons .same .nil)⟩
 ·cases h
def ako(args:List AV)(objs:List Ob):Option (Int×Int×List Dt):=match args,objs with
 | [.row n0,.dat T1 a,.dat T2 b,.fn T3 []],[.row T4 c]=>bif (Nat.beq n0 0&&(Nat.beq T1 3&&(Nat.beq T2 3&&(Nat.beq T3 50&&Nat.beq T4 23))))then some (a.toInt,b.toInt,c)else none
 |_,_=>none
theorem akp{args:List AV}{objs:List Ob}{l:Int×Int×List Dt}(h:ako args objs=some l):CnA Tryz.prog args [.row 0,.dat 3 (.int l.1),.dat 3 (.int l.2.1),.fn 50 []]∧CnOL Tryz.prog objs [.row 23 l.2.2]:=by
 unfold ako at h;split at h
 ·obtain⟨hc,a⟩:=aO h;cases a;have e0:=beq_eq (bg hc);have hc:=aQ hc;have e1:=beq_eq (bg hc);have hc:=aQ hc;have e2:=beq_eq (bg hc);have hc:=aQ hc;have e3:=beq_eq (bg hc);have hc:=aQ hc;have e4:=beq_eq hc;subst e0 e1 e2 e3 e4;exact⟨(.cons (.of .same rfl rfl) (.cons (.of (.dat (.int Tryz.underlying3)) rfl rfl) (.cons (.of (.dat (.int Tryz.underlying3)) rfl rfl) (.cons (.of (.fn .nil) rfl rfl) .nil)))),(.cons .same .nil)⟩
 ·cases h
def aam(args:List AV)(objs:List Ob):Option (Int×Int×Int×List Dt):=match args,objs with
 | [.row n0,.dat T1 a,.dat T2 b,.dat T3 c,.fn T4 []],[.row T5 d]=>bif (Nat.beq n0 0&&(Nat.beq T1 3&&(Nat.beq T2 3&&(Nat.beq T3 3&&(Nat.beq T4 50&&Nat.beq T5 23)))))then some (a.toInt,b.toInt,c.toInt,d)else none
 |_,_=>none
theorem Pn{args:List AV}{objs:List Ob}{l:Int×Int×Int×List Dt}(h:aam args objs=some l):CnA Tryz.prog args [.row 0,.dat 3 (.int l.1),.dat 3 (.int l.2.1),.dat 3 (.int l.2.2.1),.fn 50 []]∧CnOL Tryz.prog objs [.row 23 l.2.2.2]:=by
 unfold aam at h;split at h
 ·obtain⟨hc,a⟩:=aO h;cases a;have e0:=beq_eq (bg hc);have hc:=aQ hc;have e1:=beq_eq (bg hc);have hc:=aQ hc;have e2:=beq_eq (bg hc);have hc:=aQ hc;have e3:=beq_eq (bg hc);have hc:=aQ hc;have e4:=beq_eq (bg hc);have hc:=aQ hc;have e5:=beq_eq hc;subst e0 e1 e2 e3 e4 e5;exact⟨(.cons (.of .same rfl rfl) (.cons (.of (.dat (.int Tryz.underlying3)) rfl rfl) (.cons (.of (.dat (.int Tryz.underlying3)) rfl rfl) (.cons (.of (.dat (.int Tryz.underlying3)) rfl rfl) (.cons (.of (.fn .nil) rfl rfl) .nil))))),(.cons .same .nil)⟩
 ·cases h
def akq(args:List AV)(objs:List Ob):Option (Dt×Int×Int):=match args,objs with
 | [.dat T0 a,.dat T1 b,.ptr n2 p2 o2],[.box T3 (.dat T4 c)]=>bif (Nat.beq T0 29&&(Nat.beq T1 3&&(Nat.beq n2 0&&(natsB p2 []&&(Nat.beq o2 0&&(Nat.beq T3 3&&Nat.beq T4 3))))))then some (a,b.toInt,c.toInt)else none
 |_,_=>none
theorem akr{args:List AV}{objs:List Ob}{l:Dt×Int×Int}(h:akq args objs=some l):CnA Tryz.prog args [.dat 29 l.1,.dat 3 (.int l.2.1),.ptr 0 [] 0]∧CnOL Tryz.prog objs [.box 3 (.dat 3 (.int l.2.2))]:=by
 unfold akq at h;split at h
 ·obtain⟨hc,a⟩:=aO h;cases a;have e0:=beq_eq (bg hc);have hc:=aQ hc;have e1:=beq_eq (bg hc);have hc:=aQ hc;have e2:=beq_eq (bg hc);have hc:=aQ hc;have e3:=vH (bg hc);have hc:=aQ hc;have e4:=beq_eq (bg hc);have hc:=aQ hc;have e5:=beq_eq (bg hc);have hc:=aQ hc;have e6:=beq_eq hc;subst e0 e1 e2 e3 e4 e5 e6;exact⟨(.cons (.of .same rfl rfl) (.cons (.of (.dat (.int Tryz.underlying3)) rfl rfl) (.cons (.of .same rfl rfl) .nil))),(.cons (.box (.dat (.int Tryz.underlying3))) .nil)⟩
 ·cases h
def acz(args:List AV)(objs:List Ob):Option (Dt×Int×Int):=match args,objs with
 | [.dat T0 a,.fn T1 [.ptr n2 p2 o2,.ptr n3 p3 o3]],[.box T4 (.dat T5 b),.box T6 (.dat T7 c)]=>bif (Nat.beq T0 26&&(Nat.beq T1 235&&(Nat.beq n2 0&&(natsB p2 []&&(Nat.beq o2 0&&(Nat.beq n3 1&&(natsB p3 []&&(Nat.beq o3 0&&(Nat.beq T4 3&&(Nat.beq T5 3&&(Nat.beq T6 3&&Nat.beq T7 3)))))))))))then some (a,b.toInt,c.toInt)else none
 |_,_=>none
theorem ahs{args:List AV}{objs:List Ob}{l:Dt×Int×Int}(h:acz args objs=some l):CnA Tryz.prog args [.dat 26 l.1,(.fn 235 [.ptr 0 [] 0,.ptr 1 [] 0])]∧CnOL Tryz.prog objs [.box 3 (.dat 3 (.int l.2.1)),.box 3 (.dat 3 (.int l.2.2))]:=by
 unfold acz at h;split at h
 ·obtain⟨hc,a⟩:=aO h;cases a;have e0:=beq_eq (bg hc);have hc:=aQ hc;have e1:=beq_eq (bg hc);have hc:=aQ hc;have e2:=beq_eq (bg hc);have hc:=aQ hc;have e3:=vH (bg hc);have hc:=aQ hc;have e4:=beq_eq (bg hc);have hc:=aQ hc;have e5:=beq_eq (bg hc);have hc:=aQ hc;have e6:=vH (bg hc);have hc:=aQ hc;have e7:=beq_eq (bg hc);have hc:=aQ hc;have e8:=beq_eq (bg hc);have hc:=aQ hc;have e9:=beq_eq (bg hc);have hc:=aQ hc;have e10:=beq_eq (bg hc);have hc:=aQ hc;have e11:=beq_eq hc;subst e0 e1 e2 e3 e4 e5 e6 e7 e8 e9 e10 e11;exact⟨(.cons (.of .same rfl rfl) (.cons (.of (.fn (.cons .same (.cons .same .nil))) rfl rfl) .nil)),(.cons (.box (.dat (.int Tryz.underlying3))) (.cons (.box (.dat (.int Tryz.underlying3))) .nil))⟩
 ·cases h
def Xo(args:List AV)(objs:List Ob):Option (Dt×Int×Int):=match args,objs with
 | [.dat T0 a,.ptr n1 p1 o1,.ptr n2 p2 o2],[.box T3 (.dat T4 b),.box T5 (.dat T6 c)]=>bif (Nat.beq T0 26&&(Nat.beq n1 0&&(natsB p1 []&&(Nat.beq o1 0&&(Nat.beq n2 1&&(natsB p2 []&&(Nat.beq o2 0&&(Nat.beq T3 3&&(Nat.beq T4 3&&(Nat.beq T5 3&&Nat.beq T6 3))))))))))then some (a,b.toInt,c.toInt)else none
 |_,_=>none
theorem UK{args:List AV}{objs:List Ob}{l:Dt×Int×Int}(h:Xo args objs=some l):CnA Tryz.prog args [.dat 26 l.1,.ptr 0 [] 0,.ptr 1 [] 0]∧CnOL Tryz.prog objs [.box 3 (.dat 3 (.int l.2.1)),.box 3 (.dat 3 (.int l.2.2))]:=by
 unfold Xo at h;split at h
 ·obtain⟨hc,a⟩:=aO h;cases a;have e0:=beq_eq (bg hc);have hc:=aQ hc;have e1:=beq_eq (bg hc);have hc:=aQ hc;have e2:=vH (bg hc);have hc:=aQ hc;have e3:=beq_eq (bg hc);have hc:=aQ hc;have e4:=beq_eq (bg hc);have hc:=aQ hc;have e5:=vH (bg hc);have hc:=aQ hc;have e6:=beq_eq (bg hc);have hc:=aQ hc;have e7:=beq_eq (bg hc);have hc:=aQ hc;have e8:=beq_eq (bg hc);have hc:=aQ hc;have e9:=beq_eq (bg hc);have hc:=aQ hc;have e10:=beq_eq hc;subst e0 e1 e2 e3 e4 e5 e6 e7 e8 e9 e10;exact⟨(.cons (.of .same rfl rfl) (.cons (.of .same rfl rfl) (.cons (.of .same rfl rfl) .nil))),(.cons (.box (.dat (.int Tryz.underlying3))) (.cons (.box (.dat (.int Tryz.underlying3))) .nil))⟩
 ·cases h
def acA(args:List AV)(objs:List Ob):Option (Dt×Int×Int):=match args,objs with
 | [.dat T0 a,.fn T1 [.ptr n2 p2 o2,.ptr n3 p3 o3]],[.box T4 (.dat T5 b),.box T6 (.dat T7 c)]=>bif (Nat.beq T0 26&&(Nat.beq T1 236&&(Nat.beq n2 0&&(natsB p2 []&&(Nat.beq o2 0&&(Nat.beq n3 1&&(natsB p3 []&&(Nat.beq o3 0&&(Nat.beq T4 3&&(Nat.beq T5 3&&(Nat.beq T6 3&&Nat.beq T7 3)))))))))))then some (a,b.toInt,c.toInt)else none
 |_,_=>none
theorem aht{args:List AV}{objs:List Ob}{l:Dt×Int×Int}(h:acA args objs=some l):CnA Tryz.prog args [.dat 26 l.1,(.fn 236 [.ptr 0 [] 0,.ptr 1 [] 0])]∧CnOL Tryz.prog objs [.box 3 (.dat 3 (.int l.2.1)),.box 3 (.dat 3 (.int l.2.2))]:=by
 unfold acA at h;split at h
 ·obtain⟨hc,a⟩:=aO h;cases a;have e0:=beq_eq (bg hc);have hc:=aQ hc;have e1:=beq_eq (bg hc);have hc:=aQ hc;have e2:=beq_eq (bg hc);have hc:=aQ hc;have e3:=vH (bg hc);have hc:=aQ hc;have e4:=beq_eq (bg hc);have hc:=aQ hc;have e5:=beq_eq (bg hc);have hc:=aQ hc;have e6:=vH (bg hc);have hc:=aQ hc;have e7:=beq_eq (bg hc);have hc:=aQ hc;have e8:=beq_eq (bg hc);have hc:=aQ hc;have e9:=beq_eq (bg hc);have hc:=aQ hc;have e10:=beq_eq (bg hc);have hc:=aQ hc;have e11:=beq_eq hc;subst e0 e1 e2 e3 e4 e5 e6 e7 e8 e9 e10 e11;exact⟨(.cons (.of .same rfl rfl) (.cons (.of (.fn (.cons .same (.cons .same .nil))) rfl rfl) .nil)),(.cons (.box (.dat (.int Tryz.underlying3))) (.cons (.box (.dat (.int Tryz.underlying3))) .nil))⟩
 ·cases h
section
variable{R:Type}(m:Nat)(args:List AV)(objs:List Ob)(K:Res->Option R)
def arn:Option R:=match akc args objs with
 |some l=>(i15 m l.1 l.2.1 l.2.2).bind fun r=>K ((.tup [.dat 3 (.int r.1),.dat 4 (.bool r.2)]),[])
 |none=>none
def aro:Option R:=match ake args objs with
 |some l=>(i16 m l.1 l.2.1 l.2.2).bind fun r=>K ((.dat 3 (.int r)),[])
 |none=>none
def arp{R:Type}(m:Nat)(args:List AV)(objs:List Ob)(K:Res->Option R):Option R:=match akg args objs with
 |some l=>(lV l.1 l.2.1 l.2.2).bind fun r=>K ((.row 2),[.gone,.gone,.row 75 r])
 |none=>none
def arq:Option R:=match aki args objs with
 |some l=>(kK m l.1 l.2).bind fun r=>K ((.agg 26 [.dat 3 (.int r.1),.dat 3 (.int r.2.1),.dat 9 (.str r.2.2.1),.row 0,.row 1]),[.row 23 r.2.2.2.1,.row 24 r.2.2.2.2])
 |none=>none
def ars:Option R:=match akk args objs with
 |some l=>(i21 m l).bind fun r=>K ((.tup []),[.row 23 r])
 |none=>none
def aru:Option R:=match akm args objs with
 |some l=>(i22 m l.1 l.2).bind fun r=>K ((.tup []),[.row 23 r])
 |none=>none
def aks:Option R:=match ako args objs with
 |some l=>(i23 m l.1 l.2.1 l.2.2).bind fun r=>K ((.tup []),[.row 23 r])
 |none=>none
def akt:Option R:=match aam args objs with
 |some l=>(i25 m l.1 l.2.1 l.2.2.1 l.2.2.2).bind fun r=>K ((.tup []),[.row 23 r])
 |none=>none
def aku:Option R:=match aam args objs with
 |some l=>(i26 m l.1 l.2.1 l.2.2.1 l.2.2.2).bind fun r=>K ((.tup []),[.row 23 r])
 |none=>none
def akv:Option R:=match aam args objs with
 |some l=>(i27 m l.1 l.2.1 l.2.2.1 l.2.2.2).bind fun r=>K ((.tup []),[.row 23 r])
 |none=>none
def akw:Option R:=match akq args objs with
 |some l=>(i46 m l.1 l.2.1 l.2.2).bind fun r=>K ((.dat 31 (.int r.1)),[.box 3 (.dat 3 (.int r.2))])
 |none=>none
def akx:Option R:=match aj9 args objs with
 |some l=>(dA m l).bind fun r=>K ((.agg 26 [.dat 3 (.int r.1),.dat 3 (.int r.2.1),.dat 9 (.str r.2.2.1),.row 0,.row 1]),[.row 23 r.2.2.2.1,.row 24 r.2.2.2.2])
 |none=>none
def aky:Option R:=match acz args objs with
 |some l=>(agr m l.1 l.2.1 l.2.2).bind fun r=>K ((.tup []),[.box 3 (.dat 3 (.int r.1)),.box 3 (.dat 3 (.int r.2))])
 |none=>match acA args objs with
 |some l=>(i127 m l.1 l.2.1 l.2.2).bind fun r=>K ((.tup []),[.box 3 (.dat 3 (.int r.1)),.box 3 (.dat 3 (.int r.2))])
 |none=>none
def akz:Option R:=match Xo args objs with
 |some l=>(Fy m l.1 l.2.1 l.2.2).bind fun r=>K ((.dat 4 (.bool r.1)),[.box 3 (.dat 3 (.int r.2.1)),.box 3 (.dat 3 (.int r.2.2))])
 |none=>none
def akA:Option R:=match Xo args objs with
 |some l=>(Fz m l.1 l.2.1 l.2.2).bind fun r=>K ((.dat 4 (.bool r.1)),[.box 3 (.dat 3 (.int r.2.1)),.box 3 (.dat 3 (.int r.2.2))])
 |none=>none
end
def d19(q:Res):Option (Int×Int×ByteArray×List Dt×List Dt):=match q with
 |(.agg T0 [.dat T1 a,.dat T2 b,.dat T3 c,.row n4,.row n5],[.row T6 d,.row T7 e])=>bif (Nat.beq T0 26&&(Nat.beq T1 3&&(Nat.beq T2 3&&(Nat.beq T3 9&&(Nat.beq n4 0&&(Nat.beq n5 1&&(Nat.beq T6 23&&Nat.beq T7 24)))))))then some (a.toInt,b.toInt,c.toStr,d,e)else none
 |_=>none
theorem ae5{b:Res}{r:Int×Int×ByteArray×List Dt×List Dt}(h:d19 b=some r):Sim Tryz.prog b ((.agg 26 [.dat 3 (.int r.1),.dat 3 (.int r.2.1),.dat 9 (.str r.2.2.1),.row 0,.row 1]),[.row 23 r.2.2.2.1,.row 24 r.2.2.2.2]):=by
 unfold d19 at h;split at h
 ·obtain⟨hc,a⟩:=aO h;cases a;have e0:=beq_eq (bg hc);have hc:=aQ hc;have e1:=beq_eq (bg hc);have hc:=aQ hc;have e2:=beq_eq (bg hc);have hc:=aQ hc;have e3:=beq_eq (bg hc);have hc:=aQ hc;have e4:=beq_eq (bg hc);have hc:=aQ hc;have e5:=beq_eq (bg hc);have hc:=aQ hc;have e6:=beq_eq (bg hc);have hc:=aQ hc;have e7:=beq_eq hc;subst e0 e1 e2 e3 e4 e5 e6 e7;exact Sim.of (.of (.agg (.cons (.dat (.int Tryz.underlying3)) (.cons (.dat (.int Tryz.underlying3)) (.cons (.dat (.str Tryz.underlying9)) (.cons .same (.cons .same .nil)))))) rfl rfl) (.cons .same (.cons .same .nil))
 ·cases h
def d27(q:Res):Option (List Dt):=match q with
 |(.tup [],[.row T0 a])=>bif Nat.beq T0 23 then some a else none
 |_=>none
theorem Er{b:Res}{r:List Dt}(h:d27 b=some r):Sim Tryz.prog b ((.tup []),[.row 23 r]):=by
 unfold d27 at h;split at h
 ·obtain⟨hc,a⟩:=aO h;cases a;have e0:=beq_eq hc;subst e0;exact Sim.of (.tup .nil) (.cons .same .nil)
 ·cases h
def ahu(q:Res):Option (Int×Int):=match q with
 |(.tup [],[.box T0 (.dat T1 a),.box T2 (.dat T3 b)])=>bif (Nat.beq T0 3&&(Nat.beq T1 3&&(Nat.beq T2 3&&Nat.beq T3 3)))then some (a.toInt,b.toInt)else none
 |_=>none
theorem aan{b:Res}{r:Int×Int}(h:ahu b=some r):Sim Tryz.prog b ((.tup []),[.box 3 (.dat 3 (.int r.1)),.box 3 (.dat 3 (.int r.2))]):=by
 unfold ahu at h;split at h
 ·obtain⟨hc,a⟩:=aO h;cases a;have e0:=beq_eq (bg hc);have hc:=aQ hc;have e1:=beq_eq (bg hc);have hc:=aQ hc;have e2:=beq_eq (bg hc);have hc:=aQ hc;have e3:=beq_eq hc;subst e0 e1 e2 e3;exact Sim.of (.tup .nil) (.cons (.box (.dat (.int Tryz.underlying3))) (.cons (.box (.dat (.int Tryz.underlying3))) .nil))
 ·cases h
def aou(q:Res):Option (Bool×Int×Int):=match q with
 |(.dat T0 a,[.box T1 (.dat T2 b),.box T3 (.dat T4 c)])=>bif (Nat.beq T0 4&&(Nat.beq T1 3&&(Nat.beq T2 3&&(Nat.beq T3 3&&Nat.beq T4 3))))then some (a.toBool,b.toInt,c.toInt)else none
 |_=>none
theorem aao{b:Res}{r:Bool×Int×Int}(h:aou b=some r):Sim Tryz.prog b ((.dat 4 (.bool r.1)),[.box 3 (.dat 3 (.int r.2.1)),.box 3 (.dat 3 (.int r.2.2))]):=by
 unfold aou at h;split at h
 ·obtain⟨hc,a⟩:=aO h;cases a;have e0:=beq_eq (bg hc);have hc:=aQ hc;have e1:=beq_eq (bg hc);have hc:=aQ hc;have e2:=beq_eq (bg hc);have hc:=aQ hc;have e3:=beq_eq (bg hc);have hc:=aQ hc;have e4:=beq_eq hc;subst e0 e1 e2 e3 e4;exact Sim.of (.of (.dat (.bool Tryz.underlying4)) rfl rfl) (.cons (.box (.dat (.int Tryz.underlying3))) (.cons (.box (.dat (.int Tryz.underlying3))) .nil))
 ·cases h
def d46(q:Res):Option (Int×Int):=match q with
 |(.dat T0 a,[.box T1 (.dat T2 b)])=>bif (Nat.beq T0 31&&(Nat.beq T1 3&&Nat.beq T2 3))then some (a.toInt,b.toInt)else none
 |_=>none
theorem aov{b:Res}{r:Int×Int}(h:d46 b=some r):Sim Tryz.prog b ((.dat 31 (.int r.1)),[.box 3 (.dat 3 (.int r.2))]):=by
 unfold d46 at h;split at h
 ·obtain⟨hc,a⟩:=aO h;cases a;have e0:=beq_eq (bg hc);have hc:=aQ hc;have e1:=beq_eq (bg hc);have hc:=aQ hc;have e2:=beq_eq hc;subst e0 e1 e2;exact Sim.of (.of (.dat (.int Tryz.underlying31)) rfl rfl) (.cons (.box (.dat (.int Tryz.underlying3))) .nil)
 ·cases h
def ctE(m:Nat)(f:FuncId):Option Ent:=
 bif Nat.beq f 3 then some ⟨F5,eU,lN m⟩else
 bif Nat.beq f 8 then some ⟨Pg,eU,nP m⟩else
 bif Nat.beq f 10 then some ⟨ahq,eU,FN⟩else
 bif Nat.beq f 11 then some ⟨F5,ahr,qO m⟩else
 bif Nat.beq f 12 then some ⟨F5,ahr,uF m⟩else
 bif Nat.beq f 13 then some ⟨arl,eU,bY m⟩else
 bif Nat.beq f 14 then some ⟨F5,aad,mq m⟩else
 bif Nat.beq f 15 then some ⟨F5,aad,qB m⟩else
 bif Nat.beq f 9 then some ⟨Xj,RY,jL m⟩else
 bif Nat.beq f 16 then some ⟨ajS,eU,i9 m⟩else
 bif Nat.beq f 53 then some ⟨ajS,res2,i10 m⟩else
 bif Nat.beq f 33 then some ⟨sH,eU,l9 m⟩else
 bif Nat.beq f 40 then some ⟨acy,res1,kR m⟩else
 bif Nat.beq f 41 then some ⟨acy,res1,ko m⟩else
 bif Nat.beq f 42 then some ⟨Di,eU,dO m⟩else
 bif Nat.beq f 45 then some ⟨Di,res2,bD m⟩else
 bif Nat.beq f 48 then some ⟨F6,res1,ig m⟩else
 bif Nat.beq f 50 then some ⟨Di,res2,dF m⟩else
 bif Nat.beq f 51 then some ⟨acy,res1,pJ m⟩else
 bif Nat.beq f 21 then some ⟨Di,res2,bF m⟩else
 bif Nat.beq f 52 then some ⟨Dj,res1,o7 m⟩else
 bif Nat.beq f 34 then some ⟨ajT,aon,fJ m⟩else
 bif Nat.beq f 18 then some ⟨sH,eU,iX m⟩else
 bif Nat.beq f 82 then some ⟨Xj,RY,sF m⟩else
 bif Nat.beq f 84 then some ⟨Ph,res1,cZ m⟩else
 bif Nat.beq f 83 then some ⟨sH,res1,bR m⟩else
 bif Nat.beq f 85 then some ⟨Z4,res1,bM m⟩else
 bif Nat.beq f 86 then some ⟨Ae,res2,eX m⟩else
 bif Nat.beq f 87 then some ⟨ae2,res2,strings_Compare⟩else
 bif Nat.beq f 60 then some ⟨Ae,res2,dP m⟩else
 bif Nat.beq f 61 then some ⟨ae2,res2,jE m⟩else
 bif Nat.beq f 91 then some ⟨F6,res1,ru m⟩else
 bif Nat.beq f 75 then some ⟨Xj,RY,r9 m⟩else
 bif Nat.beq f 54 then some ⟨sH,res2,nN m⟩else
 bif Nat.beq f 55 then some ⟨sH,res2,nO m⟩else
 bif Nat.beq f 56 then some ⟨Z5,eU,bH m⟩else
 bif Nat.beq f 158 then some ⟨Xj,RY,kC m⟩else
 bif Nat.beq f 121 then some ⟨Ph,res1,fF m⟩else
 bif Nat.beq f 122 then some ⟨sH,eU,lH m⟩else
 bif Nat.beq f 123 then some ⟨ahq,res1,cO m⟩else
 bif Nat.beq f 127 then some ⟨ahq,res1,cK m⟩else
 bif Nat.beq f 124 then some ⟨Z6,res1,iA m⟩else
 bif Nat.beq f 125 then some ⟨Z4,res1,dK m⟩else
 bif Nat.beq f 126 then some ⟨F5,res1,aV m⟩else
 bif Nat.beq f 128 then some ⟨F6,eU,sI m⟩else
 bif Nat.beq f 65 then some ⟨Ip,eU,iV m⟩else
 bif Nat.beq f 97 then some ⟨vY,eU,iE m⟩else
 bif Nat.beq f 108 then some ⟨Di,eU,bJ m⟩else
 bif Nat.beq f 107 then some ⟨Ip,eU,nK m⟩else
 bif Nat.beq f 106 then some ⟨F6,res2,qg m⟩else
 bif Nat.beq f 92 then some ⟨Dj,res2,eP m⟩else
 bif Nat.beq f 93 then some ⟨Dj,res2,iW m⟩else
 bif Nat.beq f 94 then some ⟨vY,eU,rZ m⟩else
 bif Nat.beq f 95 then some ⟨Z5,eU,dD m⟩else
 bif Nat.beq f 147 then some ⟨Ip,eU,nY m⟩else
 bif Nat.beq f 206 then some ⟨vY,eU,kX m⟩else
 bif Nat.beq f 208 then some ⟨sH,eU,qh m⟩else
 bif Nat.beq f 207 then some ⟨Ip,eU,eY m⟩else
 bif Nat.beq f 205 then some ⟨F6,res2,qj m⟩else
 bif Nat.beq f 204 then some ⟨Ae,eU,qK m⟩else
 bif Nat.beq f 159 then some ⟨Z6,res1,bZ m⟩else
 bif Nat.beq f 160 then some ⟨Ph,res1,eG m⟩else
 bif Nat.beq f 161 then some ⟨BJ,res1,dW m⟩else
 bif Nat.beq f 162 then some ⟨Ae,res1,jy m⟩else
 bif Nat.beq f 163 then some ⟨BJ,res1,gQ m⟩else
 bif Nat.beq f 164 then some ⟨BJ,res1,d9⟩else
 bif Nat.beq f 165 then some ⟨BJ,res1,dM m⟩else
 bif Nat.beq f 166 then some ⟨F6,res1,bU m⟩else
 bif Nat.beq f 167 then some ⟨Pg,res1,qD m⟩else
 bif Nat.beq f 168 then some ⟨F5,res1,eF m⟩else
 bif Nat.beq f 169 then some ⟨sH,res2,nQ m⟩else
 bif Nat.beq f 170 then some ⟨sH,res2,nR m⟩else
 bif Nat.beq f 171 then some ⟨sH,eU,bP m⟩else
 bif Nat.beq f 23 then some ⟨Pj,aoo,sJ m⟩else
 bif Nat.beq f 172 then some ⟨sH,res1,nV m⟩else
 bif Nat.beq f 173 then some ⟨sH,eU,gB m⟩else
 bif Nat.beq f 174 then some ⟨BJ,res1,fU m⟩else
 bif Nat.beq f 175 then some ⟨BJ,res1,nL m⟩else
 bif Nat.beq f 176 then some ⟨Z7,res1,bW m⟩else
 bif Nat.beq f 177 then some ⟨Pg,res1,lC m⟩else
 bif Nat.beq f 178 then some ⟨F6,res1,dX m⟩else
 bif Nat.beq f 180 then some ⟨ajU,aom,gL m⟩else
 bif Nat.beq f 179 then some ⟨vY,res1,jY m⟩else
 bif Nat.beq f 181 then some ⟨ajV,res1,nM m⟩else
 bif Nat.beq f 182 then some ⟨ajW,res1,lZ m⟩else
 bif Nat.beq f 183 then some ⟨Di,res1,jG m⟩else
 bif Nat.beq f 184 then some ⟨Z8,eU,j5 m⟩else
 bif Nat.beq f 185 then some ⟨Pg,res1,qx m⟩else
 bif Nat.beq f 186 then some ⟨Pg,res1,nT m⟩else
 bif Nat.beq f 187 then some ⟨ajX,res1,dZ m⟩else
 bif Nat.beq f 133 then some ⟨sH,aad,kW m⟩else
 bif Nat.beq f 134 then some ⟨ajY,eU,rY m⟩else
 bif Nat.beq f 135 then some ⟨vY,eU,nW m⟩else
 bif Nat.beq f 197 then some ⟨Z9,eU,agq m⟩else
 bif Nat.beq f 230 then some ⟨Z9,res2,i105 m⟩else
 bif Nat.beq f 198 then some ⟨vY,eU,nX m⟩else
 bif Nat.beq f 209 then some ⟨sH,res1,iw m⟩else
 bif Nat.beq f 210 then some ⟨sH,eU,eB m⟩else
 bif Nat.beq f 211 then some ⟨Ae,res2,iT m⟩else
 bif Nat.beq f 212 then some ⟨Z7,res1,bX m⟩else
 bif Nat.beq f 141 then some ⟨Di,eU,jM m⟩else
 bif Nat.beq f 217 then some ⟨Z8,res1,kY m⟩else
 bif Nat.beq f 119 then some ⟨aac,res1,uG m⟩else
 bif Nat.beq f 218 then some ⟨Dj,res2,kZ m⟩else
 bif Nat.beq f 219 then some ⟨Dj,res2,lg m⟩else
 bif Nat.beq f 220 then some ⟨vY,eU,utf8_ValidString⟩else
 bif Nat.beq f 221 then some ⟨ajZ,eU,bL m⟩else
 bif Nat.beq f 62 then some ⟨Pj,res2,ni m⟩else
 bif Nat.beq f 222 then some ⟨aj0,eU,iY m⟩else
 bif Nat.beq f 223 then some ⟨Ae,res2,eZ m⟩else
 bif Nat.beq f 224 then some ⟨Di,eU,jN m⟩else
 bif Nat.beq f 105 then some ⟨aac,res1,pG m⟩else
 bif Nat.beq f 157 then some ⟨Pj,res2,sj m⟩else
 bif Nat.beq f 238 then some ⟨vY,eU,og m⟩else
 none
def ctX{R:Type}(m:Nat)(f:FuncId)(args:List AV)(objs:List Ob)(K:Res->Option R):Option R:=
 bif Nat.beq f 43 then arn m args objs K else
 bif Nat.beq f 44 then aro m args objs K else
 bif Nat.beq f 46 then arp m args objs K else
 bif Nat.beq f 47 then arq m args objs K else
 bif Nat.beq f 49 then ars m args objs K else
 bif Nat.beq f 90 then aru m args objs K else
 bif Nat.beq f 131 then aks m args objs K else
 bif Nat.beq f 132 then akt m args objs K else
 bif Nat.beq f 190 then aku m args objs K else
 bif Nat.beq f 225 then akv m args objs K else
 bif Nat.beq f 120 then akw m args objs K else
 bif Nat.beq f 156 then akx m args objs K else
 bif Nat.beq f 234 then aky m args objs K else
 bif Nat.beq f 235 then akz m args objs K else
 bif Nat.beq f 236 then akA m args objs K else
 none
def ct{R:Type}(m:Nat)(f:FuncId)(args:List AV)(objs:List Ob)(K:Res->Option R):Option R:=match ctE m f with
 |some e=>e.run args objs K
 |none=>ctX m f args objs K
section
variable{R:Type}{P:Program}{E:Env}{call:FuncId->List AV->List Ob->(Res->Option R)->Option R}{m n M:Nat}{f:FuncId}{fn:Func}{dec:Res->Option R}{p ms:List Nat}{σ:St}{g:(Nat->Nat->Nat->St->Option R->Option R)->Option R}{r:Option R}
theorem tq(e:g jn=r)(h:∀J,evAt P E call J m f n fn dec p ms σ=g J:=by intro J;kernel_rfl):evAt P E call jn m f n fn dec p ms σ=r:=(h jn).trans e
theorem tl(e:g jn=r)(h:∀J,loopAt P E call J m f n fn dec p ms M σ=g J:=by intro J;kernel_rfl):loopAt P E call jn m f n fn dec p ms M σ=r:=(h jn).trans e
end
end Go.Proofs.YtmecfjhdnbgfeaaGreatDoor
noncomputable section
namespace Go.Proofs.YtmecfjhdnbgfeaaGreatDoor
open Nat (succ)
open IntKind (wrap)
open Go.Am Dt
set_option maxRecDepth 100000
def arv:List Nat:=[1,1,0,1,0]
def e5(J:Q1)(m:Nat):=evAt Tryz.prog env (ct m) J (m+1) 13 27 Tryz.f13 d5
def l5(J:Q1)(m:Nat):=loopAt Tryz.prog env (ct m) J (m+1) 13 27 Tryz.f13 d5
def arw(a b:List Dt)(c d:Int):St:=⟨tsOf [(0,.dat 23 (.lst a)),(1,.dat 23 (.lst b)),(12,.dat 3 (.int c)),(13,.dat 3 (.int d))],[],0⟩
theorem vM m:∀b c d e a,l5 jn m arv [] b (arw c d e a)=kS m (dO m) b c d e a
 |0,_,_,_,_=>rfl
 |b+1,c,d,e,a=>
  tl (g:=fun J=>cond (a<e) ((idx c a).bind fun f=>(idx d a).bind fun h=>(dO m f h).bind fun i=>cond (!i) (some false) (jj J 1 4 b (arw c d e (wrap .i64 (a+1))) (l5 J m arv [] b))) (some true)) (by simp only[aM,(vM m b)];rfl)
theorem Iu m a b:e5 jn m [] [] ⟨[.dat 23 (.lst a),.dat 23 (.lst b)],[],0⟩=bY (m+1) a b:=
 tq (g:=fun J=>cond ((a.length:Int) !=(b.length:Int)) (some false) (jj J 1 4 (succ m) (arw a b (a.length:Int) 0) (l5 J m arv [] (succ m)))) (by simp only[aM,vM m];rfl)
def ae6:List Nat:=[1,1,0,1,0]
def auL:List Nat:=[1,1,0,1,0,0,1,1]
def akB:List Nat:=auL++[0,0,1,1]
def e14(J:Q1)(m:Nat):=evAt Tryz.prog env (ct m) J (m+1) 42 75 Tryz.f42 d5
def l14(J:Q1)(m:Nat):=loopAt Tryz.prog env (ct m) J (m+1) 42 75 Tryz.f42 d5
def ae7(a b:Int)(c d:Dt):St:=⟨tsOf [(2,.ptr 0 [] 0),(3,.ptr 1 [] 0),(36,.dat 3 (.int a)),(37,.dat 3 (.int b))],[.box 26 (.dat 26 c),.box 26 (.dat 26 d)],0⟩
def akC(a b:Int)(c:Bool)(d e:Dt):St:=⟨tsOf [(2,.ptr 0 [] 0),(3,.ptr 1 [] 0),(36,.dat 3 (.int a)),(37,.dat 3 (.int b)),(68,.dat 4 (.bool c))],[.box 26 (.dat 26 d),.box 26 (.dat 26 e)],0⟩
def aap(a:Bool)(b c:Dt):St:=⟨tsOf [(2,.ptr 0 [] 0),(3,.ptr 1 [] 0),(33,.dat 4 (.bool a))],[.box 26 (.dat 26 b),.box 26 (.dat 26 c)],0⟩
abbrev auM(m f:Nat)(a:Q44):Prop:=∀b c d e,l14 jn m ae6 [] f (ae7 b c d e)=a b c d e
theorem J5 m b a(i:auM m b a) c d e f h:e14 jn m akB [b] (akC c d e f h)=uP m (bY m) (dO m) a c d e f h:=
 tq (g:=fun J=>cond e (some false) (jj J 1 4 b (ae7 c (wrap .i64 (d+1)) f h) (l14 J m ae6 [] b))) (by simp only[aM,i];rfl)
theorem Ah m:∀b e a c d,l14 jn m ae6 [] b (ae7 e a c d)=lW m (bY m) (dO m) b e a c d
 |0,_,_,_,_=>rfl
 |b+1,e,a,c,d=>
  tl (g:=fun J=>bif a<e then(idx (L c 4) a).bind fun f=>(idx (L d 4) a).bind fun h=>cond (!(S f 0).toList==(S h 0).toList) (jj J 0 7 0 (akC e a true c d) (e14 J m akB [b])) ((idx (L c 4) a).bind fun i=>(idx (L d 4) a).bind fun j=>(dO m (fld i 1) (fld j 1)).bind fun k=>jj J 0 7 0 (akC e a (!k) c d) (e14 J m akB [b]))else(bY m (L c 3) (L d 3)).bind fun l=>some l) (by simp only[aM,J5 m b (lW m (bY m) (dO m) b) (Ah m b)];rfl)
theorem J6 m b a c:e14 jn m [1,0,1] [] (aap b a c)=oW m (bY m) (dO m) b a c:=
 tq (g:=fun J=>cond b (some false) (jj J 1 4 (succ m) (ae7 ((L a 4).length:Int) 0 a c) (l14 J m ae6 [] (succ m)))) (by simp only[aM,Ah m];rfl)
theorem RZ m a b:e14 jn m [] [] ⟨[.dat 26 a,.dat 26 b],[],0⟩=dO (m+1) a b:=
 tq (g:=fun J=>cond (I a 0 !=I b 0) (jj J 0 2 0 (aap true a b) (e14 J m [1,0,1] [])) (cond (I a 1 !=I b 1) (jj J 0 2 0 (aap true a b) (e14 J m [1,0,1] [])) (cond (!(S a 2).toList==(S b 2).toList) (jj J 0 2 0 (aap true a b) (e14 J m [1,0,1] [])) (jj J 0 2 0 (aap (((L a 4).length:Int) !=((L b 4).length:Int)) a b) (e14 J m [1,0,1] []))))) (by simp only[aM,J6 m];rfl)
def e20(J:Q0)(m:Nat):=evAt Tryz.prog env (ct m) J (m+1) 48 5 Tryz.f48 d20
theorem F7 m a:e20 jn m [] [] ⟨[.dat 3 (.int a)],[],0⟩=ig (m+1) a:=
 tq (g:=fun J=>some (agg [int 3,int a,str (ByteArray.mk (List.toArray [])),lst [],lst []])) (by rfl)
def e19(J:Q53)(m:Nat):=evAt Tryz.prog env (ct m) J (m+1) 47 12 Tryz.f47 d19
theorem F8 m a b:e19 jn m [] [] ⟨[.dat 26 a,.dat 3 (.int b)],[],0⟩=kK (m+1) a b:=
 tq (g:=fun J=>(ig m b).bind fun c=>some (5,0,ByteArray.mk (List.toArray []),[],[agg [str (ByteArray.mk (List.toArray [95,105,100])),a],agg [str (ByteArray.mk (List.toArray [99,111,117,110,116])),c]])) (by rfl)
def e27(J:Q13)(m:Nat):=evAt Tryz.prog env (ct m) J (m+1) 225 38 Tryz.f225 d27
def l27(J:Q13)(m:Nat):=loopAt Tryz.prog env (ct m) J (m+1) 225 38 Tryz.f225 d27
def akD(a b c d:Int)(e:List Dt):St:=⟨tsOf [(0,.row 0),(1,.dat 3 (.int a)),(2,.dat 3 (.int b)),(3,.dat 3 (.int c)),(10,.dat 3 (.int d))],[.row 23 e],1⟩
theorem UL m:∀e c d f a b,l27 jn m [1,0] [] e (akD c d f a b)=Jm m e c d f a b
 |0,_,_,_,_,_=>rfl
 |e+1,c,d,f,a,b=>
  tl (g:=fun J=>cond (a<f) ((inL b (wrap .i64 (d+a))).bind fun j=>(b[(wrap .i64 (d+a)).toNat]?).bind fun h=>(inL b (wrap .i64 (c+a))).bind fun k=>(b[(wrap .i64 (c+a)).toNat]?).bind fun i=>(inL b (wrap .i64 (c+a))).bind fun l=>(b[(wrap .i64 (c+a)).toNat]?).bind fun n=>(inL (List.set b (wrap .i64 (c+a)).toNat h) (wrap .i64 (d+a))).bind fun o=>((List.set b (wrap .i64 (c+a)).toNat h)[(wrap .i64 (d+a)).toNat]?).bind fun p=>jj J 1 1 e (akD c d f (wrap .i64 (a+1)) (List.set (List.set b (wrap .i64 (c+a)).toNat h) (wrap .i64 (d+a)).toNat i)) (l27 J m [1,0] [] e)) (some b)) (by simp only[aM,(UL m e)];rfl)
theorem arx m a b c d:e27 jn m [] [] ⟨[.row 0,.dat 3 (.int a),.dat 3 (.int b),.dat 3 (.int c),.fn 50 []],[.row 23 d],1⟩=i27 (m+1) a b c d:=
 tq (g:=fun J=>jj J 1 1 (succ m) (akD a b c 0 d) (l27 J m [1,0] [] (succ m))) (by simp only[aM,UL m];rfl)
def e26(J:Q13)(m:Nat):=evAt Tryz.prog env (ct m) J (m+1) 190 58 Tryz.f190 d27
def l26(J:Q13)(m:Nat):=loopAt Tryz.prog env (ct m) J (m+1) 190 58 Tryz.f190 d27
def ae8(a b c:Int)(d:List Dt):St:=⟨tsOf [(0,.row 0),(2,.dat 3 (.int a)),(4,.fn 50 []),(10,.dat 3 (.int b)),(11,.dat 3 (.int c))],[.row 23 d],1⟩
theorem UM m:∀d b a c e,l26 jn m [1,1,0,0] [] d (ae8 b a c e)=Cg m d b a c e
 |0,_,_,_,_=>rfl
 |d+1,b,a,c,e=>
  tl (g:=fun J=>cond (a !=c) (bif c<a then(i27 m (wrap .i64 (b-a)) b c e).bind fun f=>jj J 1 2 d (ae8 b (wrap .i64 (a-c)) c f) (l26 J m [1,1,0,0] [] d)else(i27 m (wrap .i64 (b-a)) (wrap .i64 (wrap .i64 (b+c)-a)) a e).bind fun h=>jj J 1 2 d (ae8 b a (wrap .i64 (c-a)) h) (l26 J m [1,1,0,0] [] d)) ((i27 m (wrap .i64 (b-a)) b a e).bind fun i=>some i)) (by simp only[aM,(UM m d)];rfl)
theorem arz m b a c d:e26 jn m [] [] ⟨[.row 0,.dat 3 (.int b),.dat 3 (.int a),.dat 3 (.int c),.fn 50 []],[.row 23 d],1⟩=i26 (m+1) b a c d:=
 tq (g:=fun J=>jj J 1 2 (succ m) (ae8 a (wrap .i64 (a-b)) (wrap .i64 (c-a)) d) (l26 J m [1,1,0,0] [] (succ m))) (by simp only[aM,UM m];rfl)
def auN:List Nat:=[1,1,0,1,0,1,1]
def aaq:List Nat:=auN++[0]
def auO:List Nat:=[1,1,1,0,1,0,1,1]
def Iw:List Nat:=auO++[0]
def akE:List Nat:=aaq++[0,1,1]
def apL:List Nat:=akE++[1]
def aar:List Nat:=Iw++[0,1,1]
def ae9:List Nat:=aar++[1]
def e35(J:Q0)(m:Nat):=evAt Tryz.prog env (ct m) J (m+1) 83 68 Tryz.f83 d20
def l35(J:Q0)(m:Nat):=loopAt Tryz.prog env (ct m) J (m+1) 83 68 Tryz.f83 d20
def LV(a:List Dt)(b c:Int)(d e:Dt)(f g:Int)(h:ByteArray)(i:List Dt):St:=⟨tsOf [(1,.ptr 0 [] 0),(2,.ptr 1 [] 0),(3,.ptr 2 [] 0),(25,.dat 23 (.lst a)),(26,.dat 3 (.int b)),(27,.dat 3 (.int c))],[.box 26 (.dat 26 d),.box 26 (.dat 26 e),.box 26 (.agg 26 [.dat 3 (.int f),.dat 3 (.int g),.dat 9 (.str h),.row 3,.nils 24]),.row 23 i],0⟩
def LX(a:List Dt)(b c:Int)(d:Dt)(e f:Int)(g:ByteArray)(h i:List Dt):St:=⟨tsOf [(2,.ptr 0 [] 0),(3,.ptr 1 [] 0),(49,.dat 24 (.lst a)),(50,.dat 3 (.int b)),(51,.dat 3 (.int c))],[.box 26 (.dat 26 d),.box 26 (.agg 26 [.dat 3 (.int e),.dat 3 (.int f),.dat 9 (.str g),.row 2,.row 3]),.row 23 h,.row 24 i],0⟩
def apM(a:Dt)(b c:Int)(d:ByteArray)(e f:List Dt):St:=⟨tsOf [(2,.ptr 0 [] 0),(3,.ptr 1 [] 0)],[.box 26 (.dat 26 a),.box 26 (.agg 26 [.dat 3 (.int b),.dat 3 (.int c),.dat 9 (.str d),.row 2,.row 3]),.row 23 e,.row 24 f],0⟩
def akF(a:Dt)(b c:Int)(d:ByteArray)(e:List Dt):St:=⟨tsOf [(2,.ptr 0 [] 0),(3,.ptr 1 [] 0)],[.box 26 (.dat 26 a),.box 26 (.agg 26 [.dat 3 (.int b),.dat 3 (.int c),.dat 9 (.str d),.row 2,.nils 24]),.row 23 e],0⟩
def apN(a b:Dt)(c d:Int)(e:ByteArray)(f:List Dt):St:=⟨tsOf [(1,.ptr 0 [] 0),(2,.ptr 1 [] 0),(3,.ptr 2 [] 0)],[.box 26 (.dat 26 a),.box 26 (.dat 26 b),.box 26 (.agg 26 [.dat 3 (.int c),.dat 3 (.int d),.dat 9 (.str e),.row 3,.nils 24]),.row 23 f],0⟩
def Dm(a:List Dt)(b c:Int)(d:Dt)(e f:Int)(g:ByteArray)(h i:List Dt):St:=⟨tsOf [(2,.ptr 0 [] 0),(3,.ptr 1 [] 0),(49,.dat 24 (.lst a)),(50,.dat 3 (.int b)),(51,.dat 3 (.int c))],[.box 26 (.dat 26 d),.box 26 (.agg 26 [.dat 3 (.int e),.dat 3 (.int f),.dat 9 (.str g),.dat 23 (.lst h),.row 2]),.row 24 i],0⟩
def akG(a:Dt)(b c:Int)(d:ByteArray)(e f:List Dt):St:=⟨tsOf [(2,.ptr 0 [] 0),(3,.ptr 1 [] 0)],[.box 26 (.dat 26 a),.box 26 (.agg 26 [.dat 3 (.int b),.dat 3 (.int c),.dat 9 (.str d),.dat 23 (.lst e),.row 2]),.row 24 f],0⟩
def akH(a b:Dt):St:=⟨tsOf [(2,.ptr 0 [] 0),(3,.ptr 1 [] 0)],[.box 26 (.dat 26 a),.box 26 (.dat 26 b)],0⟩
def akI(a b c:Dt):St:=⟨tsOf [(1,.ptr 0 [] 0),(2,.ptr 1 [] 0),(3,.ptr 2 [] 0)],[.box 26 (.dat 26 a),.box 26 (.dat 26 b),.box 26 (.dat 26 c)],0⟩
abbrev apO(m k:Nat)(a:Q57):Prop:=∀b c d e f g h i j,l35 jn m aaq [] k (LV b c d e f g h i j)=a b c d e f g h i j
theorem J7 m b a(n:apO m b a) c d e f h i j k l:e35 jn m apL [b] (LV c d e f h i j k l)=zh m (bR m) a c d e f h i j k l:=
 tq (g:=fun J=>jj J 1 5 b (LV c d (wrap .i64 (e+1)) f h i j k l) (l35 J m aaq [] b)) (by simp only[aM,n];rfl)
theorem J8 m d a(n:apO m d a) e f b h i j k l c:e35 jn m akE [d] (LV e f b h i j k l c)=zk m (bR m) a e f b h i j k l c:=
 tq (g:=fun J=>(idx e b).bind fun o=>(bR m o).bind fun p=>(inL c b).bind fun q=>(c[b.toNat]?).bind fun r=>jj J 0 8 0 (LV e f b h i j k l (List.set c b.toNat p)) (e35 J m apL [d])) (by simp only[aM,J7 m d a n];rfl)
abbrev apP(m k:Nat)(a:Q28):Prop:=∀b c d e f g h i j,l35 jn m Iw [] k (LX b c d e f g h i j)=a b c d e f g h i j
theorem J9 m b a(n:apP m b a) c d e f h i j k l:e35 jn m ae9 [b] (LX c d e f h i j k l)=zl m (bR m) a c d e f h i j k l:=
 tq (g:=fun J=>jj J 1 12 b (LX c d (wrap .i64 (e+1)) f h i j k l) (l35 J m Iw [] b)) (by simp only[aM,n];rfl)
theorem Ka m d a(o:apP m d a) e f b h i j k l c:e35 jn m aar [d] (LX e f b h i j k l c)=zn m (bR m) a e f b h i j k l c:=
 tq (g:=fun J=>(idx e b).bind fun n=>(bR m (fld n 1)).bind fun p=>(inL c b).bind fun q=>(c[b.toNat]?).bind fun r=>jj J 0 15 0 (LX e f b h i j k l (List.set c b.toNat (agg [str (S n 0),p]))) (e35 J m ae9 [d])) (by simp only[aM,J9 m d a o];rfl)
theorem Kc m f a b c d e:e35 jn m [1,1,1,1] [] (apM f a b c d e)=zo m (bR m) f a b c d e:=
 tq (g:=fun J=>some (agg [int a,int b,str c,lst d,lst e])) (by rfl)
theorem Ai m:∀a k b c d e f h i j,l35 jn m Iw [] a (LX k b c d e f h i j)=oZ m (bR m) a k b c d e f h i j
 |0,_,_,_,_,_,_,_,_,_=>rfl
 |a+1,k,b,c,d,e,f,h,i,j=>
  tl (g:=fun J=>cond (c<b) (jj J 0 13 0 (LX k b c d e f h i j) (e35 J m aar [a])) (jj J 0 16 0 (apM d e f h i j) (e35 J m [1,1,1,1] []))) (by simp only[aM,Ka m a (oZ m (bR m) a) (Ai m a),Kc m];rfl)
theorem Iy m e a b c d:e35 jn m [1,1,1,1] [] (akF e a b c d)=Ch m (bR m) e a b c d:=
 tq (g:=fun J=>some (agg [int a,int b,str c,lst d,lst []])) (by rfl)
theorem Ke m a b c d e f:e35 jn m [1,1,1] [] (apN a b c d e f)=zq m (bR m) a b c d e f:=
 tq (g:=fun J=>bif 0<((L a 4).length:Int)then(mkL ((L a 4).length:Int) ((L a 4).length:Int) DX).bind fun h=>jj J 1 12 (succ m) (LX (L a 4) ((L a 4).length:Int) 0 b c d e f h) (l35 J m Iw [] (succ m))else jj J 0 16 0 (akF b c d e f) (e35 J m [1,1,1,1] [])) (by simp only[aM,Ai m,Iy m];rfl)
theorem Aj m:∀a k b c d e f h i j,l35 jn m aaq [] a (LV k b c d e f h i j)=lY m (bR m) a k b c d e f h i j
 |0,_,_,_,_,_,_,_,_,_=>rfl
 |a+1,k,b,c,d,e,f,h,i,j=>
  tl (g:=fun J=>cond (c<b) (jj J 0 6 0 (LV k b c d e f h i j) (e35 J m akE [a])) (jj J 0 9 0 (apN d e f h i j) (e35 J m [1,1,1] []))) (by simp only[aM,J8 m a (lY m (bR m) a) (Aj m a),Ke m];rfl)
abbrev akJ(m b:Nat)(a:Q28):Prop:=∀c d e f g h i j k,l35 jn m Iw [] b (Dm c d e f g h i j k)=a c d e f g h i j k
theorem Iz m b a(c:akJ m b a) d e f h i j k l n:e35 jn m ae9 [b] (Dm d e f h i j k l n)=wM m (bR m) a d e f h i j k l n:=
 tq (g:=fun J=>jj J 1 12 b (Dm d e (wrap .i64 (f+1)) h i j k l n) (l35 J m Iw [] b)) (by simp only[aM,c];rfl)
theorem IB m b a(h:akJ m b a) f i c j k l n o d:e35 jn m aar [b] (Dm f i c j k l n o d)=wN m (bR m) a f i c j k l n o d:=
 tq (g:=fun J=>(idx f c).bind fun e=>(bR m (fld e 1)).bind fun p=>(inL d c).bind fun q=>(d[c.toNat]?).bind fun r=>jj J 0 15 0 (Dm f i c j k l n o (List.set d c.toNat (agg [str (S e 0),p]))) (e35 J m ae9 [b])) (by simp only[aM,Iz m b a h];rfl)
theorem IC m f a b c d e:e35 jn m [1,1,1,1] [] (akG f a b c d e)=wO m (bR m) f a b c d e:=
 tq (g:=fun J=>some (agg [int a,int b,str c,lst d,lst e])) (by rfl)
theorem yJ m:∀a k b c d e f h i j,l35 jn m Iw [] a (Dm k b c d e f h i j)=mD m (bR m) a k b c d e f h i j
 |0,_,_,_,_,_,_,_,_,_=>rfl
 |a+1,k,b,c,d,e,f,h,i,j=>
  tl (g:=fun J=>cond (c<b) (jj J 0 13 0 (Dm k b c d e f h i j) (e35 J m aar [a])) (jj J 0 16 0 (akG d e f h i j) (e35 J m [1,1,1,1] []))) (by simp only[aM,IB m a (mD m (bR m) a) (yJ m a),IC m];rfl)
theorem IE m b a:e35 jn m [1,1,1,1] [] (akH b a)=Ci m (bR m) b a:=
 tq (g:=fun J=>some a) (by rfl)
theorem IG m a c b:e35 jn m [1,1,1] [] (akI a c b)=Cj m (bR m) a c b:=
 tq (g:=fun J=>bif 0<((L a 4).length:Int)then(mkL ((L a 4).length:Int) ((L a 4).length:Int) DX).bind fun d=>jj J 1 12 (succ m) (Dm (L a 4) ((L a 4).length:Int) 0 c (I b 0) (I b 1) (S b 2) (L b 3) d) (l35 J m Iw [] (succ m))else jj J 0 16 0 (akH c b) (e35 J m [1,1,1,1] [])) (by simp only[aM,yJ m,IE m];rfl)
theorem R3 m a:e35 jn m [] [] ⟨[.dat 26 a],[],0⟩=bR (m+1) a:=
 tq (g:=fun J=>bif 0<((L a 3).length:Int)then(mkL ((L a 3).length:Int) ((L a 3).length:Int) aj).bind fun b=>jj J 1 5 (succ m) (LV (L a 3) ((L a 3).length:Int) 0 a aj (I a 0) (I a 1) (S a 2) b) (l35 J m aaq [] (succ m))else jj J 0 9 0 (akI a aj (agg [int (I a 0),int (I a 1),str (S a 2),lst [],lst []])) (e35 J m [1,1,1] [])) (by simp only[aM,Aj m,IG m];rfl)
def e39(J:Q2)(m:Nat):=evAt Tryz.prog env (ct m) J (m+1) 60 11 Tryz.f60 d39
theorem R4 m a b:e39 jn m [] [] ⟨[.dat 3 (.int a),.dat 3 (.int b)],[],0⟩=dP (m+1) a b:=
 tq (g:=fun J=>cond (a<b) (some (-1)) (cond (b<a) (some 1) (some 0))) (by rfl)
def e40(J:Q2)(m:Nat):=evAt Tryz.prog env (ct m) J (m+1) 61 39 Tryz.f61 d39
def l40(J:Q2)(m:Nat):=loopAt Tryz.prog env (ct m) J (m+1) 61 39 Tryz.f61 d39
def akK(a b:ByteArray)(c:Int):St:=⟨tsOf [(0,.dat 9 (.str a)),(1,.dat 9 (.str b)),(5,.dat 3 (.int c))],[],0⟩
theorem yK m:∀d b c a,l40 jn m [1,0,1,0] [] d (akK b c a)=qc m d b c a
 |0,_,_,_=>rfl
 |d+1,b,c,a=>
  tl (g:=fun J=>cond (a<(b.size:Int)) (bif a<(c.size:Int)then(idxS b a).bind fun f=>(idxS c a).bind fun h=>cond (f !=h) ((idxS b a).bind fun i=>(idxS c a).bind fun j=>(dP m (wrap .i64 i) (wrap .i64 j)).bind fun k=>some k) (jj J 1 2 d (akK b c (wrap .i64 (a+1))) (l40 J m [1,0,1,0] [] d))else(dP m (b.size:Int) (c.size:Int)).bind fun e=>some e) ((dP m (b.size:Int) (c.size:Int)).bind fun e=>some e)) (by simp only[aM,(yK m d)];rfl)
theorem Po m a b:e40 jn m [] [] ⟨[.dat 9 (.str a),.dat 9 (.str b)],[],0⟩=jE (m+1) a b:=
 tq (g:=fun J=>jj J 1 2 (succ m) (akK a b 0) (l40 J m [1,0,1,0] [] (succ m))) (by simp only[aM,yK m];rfl)
def Pp:List Nat:=[1,1,0,1,0,1]
def Dn:List Nat:=Pp++[1,1]
def akL:List Nat:=Dn++[1,1,0,1]
def auP:List Nat:=Dn++[1,1,0,0,1]
def akM:List Nat:=auP++[0]
def akN:List Nat:=Dn++[1,1,1,1,0,1]
def arA:List Nat:=Dn++[1,1,1,1,0,0,1]
def aas:List Nat:=arA++[0]
def auQ:List Nat:=aas++[0,1]
def akO:List Nat:=auQ++[0,0,1,1]
def e29(J:Q2)(m:Nat):=evAt Tryz.prog env (ct m) J (m+1) 21 130 Tryz.f21 d39
def l29(J:Q2)(m:Nat):=loopAt Tryz.prog env (ct m) J (m+1) 21 130 Tryz.f21 d39
def akP(a:Int)(b c:Dt):St:=⟨tsOf [(2,.ptr 0 [] 0),(3,.ptr 1 [] 0),(5,.dat 3 (.int a))],[.box 26 (.dat 26 b),.box 26 (.dat 26 c)],0⟩
def UN(a b:Dt):St:=⟨tsOf [(2,.ptr 0 [] 0),(3,.ptr 1 [] 0)],[.box 26 (.dat 26 a),.box 26 (.dat 26 b)],0⟩
def Xp(a:Int)(b c:Dt):St:=⟨tsOf [(2,.ptr 0 [] 0),(3,.ptr 1 [] 0),(7,.dat 3 (.int a))],[.box 26 (.dat 26 b),.box 26 (.dat 26 c)],0⟩
def acB(a b:Int)(c d:Dt):St:=⟨tsOf [(2,.ptr 0 [] 0),(3,.ptr 1 [] 0),(7,.dat 3 (.int a)),(8,.dat 3 (.int b))],[.box 26 (.dat 26 c),.box 26 (.dat 26 d)],0⟩
def afa(a:Int)(b:Bool)(c d:Dt):St:=⟨tsOf [(2,.ptr 0 [] 0),(3,.ptr 1 [] 0),(20,.dat 3 (.int a)),(30,.dat 4 (.bool b))],[.box 26 (.dat 26 c),.box 26 (.dat 26 d)],0⟩
def afb(a:Int)(b:Bool)(c d:Dt):St:=⟨tsOf [(2,.ptr 0 [] 0),(3,.ptr 1 [] 0),(20,.dat 3 (.int a)),(21,.dat 4 (.bool b))],[.box 26 (.dat 26 c),.box 26 (.dat 26 d)],0⟩
theorem Ez m a b:e29 jn m akL [] (UN a b)=mE m (bF m) a b:=
 tq (g:=fun J=>(dP m ((L a 3).length:Int) ((L b 3).length:Int)).bind fun c=>some c) (by rfl)
theorem vZ m:∀d a b c,l29 jn m akM [] d (akP a b c)=mF m (bF m) d a b c
 |0,_,_,_=>rfl
 |d+1,a,b,c=>
  tl (g:=fun J=>cond (a<((L b 3).length:Int)) (bif a<((L c 3).length:Int)then(idx (L b 3) a).bind fun f=>(idx (L c 3) a).bind fun h=>(bF m f h).bind fun e=>cond (e !=0) (some e) (jj J 1 14 d (akP (wrap .i64 (a+1)) b c) (l29 J m akM [] d))else jj J 0 19 0 (UN b c) (e29 J m akL [])) (jj J 0 19 0 (UN b c) (e29 J m akL []))) (by simp only[aM,(vZ m d),Ez m];rfl)
abbrev auR(m e:Nat)(a:Q34):Prop:=∀b c d,l29 jn m aas [] e (Xp b c d)=a b c d
theorem Dp m b a(h:auR m b a) d c e f:e29 jn m akO [b] (acB d c e f)=pU m (bF m) a d c e f:=
 tq (g:=fun J=>cond (c !=0) (some c) (jj J 1 22 b (Xp (wrap .i64 (d+1)) e f) (l29 J m aas [] b))) (by simp only[aM,h];rfl)
theorem Dq m a b:e29 jn m akN [] (UN a b)=kU m (bF m) a b:=
 tq (g:=fun J=>(dP m ((L a 4).length:Int) ((L b 4).length:Int)).bind fun c=>some c) (by rfl)
theorem wh m:∀d a b c,l29 jn m aas [] d (Xp a b c)=iC m (bF m) d a b c
 |0,_,_,_=>rfl
 |d+1,a,b,c=>
  tl (g:=fun J=>cond (a<((L b 4).length:Int)) (bif a<((L c 4).length:Int)then(idx (L b 4) a).bind fun j=>(idx (L c 4) a).bind fun k=>(jE m (S j 0) (S k 0)).bind fun i=>cond (i==0) ((idx (L b 4) a).bind fun e=>(idx (L c 4) a).bind fun f=>(bF m (fld e 1) (fld f 1)).bind fun h=>jj J 0 27 0 (acB a h b c) (e29 J m akO [d])) (jj J 0 27 0 (acB a i b c) (e29 J m akO [d]))else jj J 0 29 0 (UN b c) (e29 J m akN [])) (jj J 0 29 0 (UN b c) (e29 J m akN []))) (by simp only[aM,Dp m d (iC m (bF m) d) (wh m d),Dq m];rfl)
theorem EA m c d a b:e29 jn m Dn [] (afa c d a b)=mG m (bF m) c d a b:=
 tq (g:=fun J=>cond d ((jE m (S a 2) (S b 2)).bind fun e=>some e) (cond (c==6) (jj J 1 14 (succ m) (akP 0 a b) (l29 J m akM [] (succ m))) (cond (c==5) (jj J 1 22 (succ m) (Xp 0 a b) (l29 J m aas [] (succ m))) (some 0)))) (by simp only[aM,vZ m,wh m];rfl)
theorem EB m a d b c:e29 jn m Pp [] (afb a d b c)=mH m (bF m) a d b c:=
 tq (g:=fun J=>cond d ((dP m (I b 1) (I c 1)).bind fun e=>some e) (cond (a==4) (jj J 0 11 0 (afa a (a==4) b c) (e29 J m Dn [])) (cond (a==7) (jj J 0 11 0 (afa a (a==7) b c) (e29 J m Dn [])) (jj J 0 11 0 (afa a (a==8) b c) (e29 J m Dn []))))) (by simp only[aM,EA m];rfl)
theorem Kg m a b:e29 jn m [] [] ⟨[.dat 26 a,.dat 26 b],[],0⟩=bF (m+1) a b:=
 tq (g:=fun J=>cond (I a 0 !=I b 0) ((dP m (I a 0) (I b 0)).bind fun c=>some c) (cond (I a 0==3) (jj J 0 7 0 (afb (I a 0) (I a 0==3) a b) (e29 J m Pp [])) (cond (I a 0==9) (jj J 0 7 0 (afb (I a 0) (I a 0==9) a b) (e29 J m Pp [])) (jj J 0 7 0 (afb (I a 0) (I a 0==10) a b) (e29 J m Pp []))))) (by simp only[aM,EB m];rfl)
def e41(J:Q0)(m:Nat):=evAt Tryz.prog env (ct m) J (m+1) 91 5 Tryz.f91 d20
theorem Kh m a:e41 jn m [] [] ⟨[.dat 3 (.int a)],[],0⟩=ru (m+1) a:=
 tq (g:=fun J=>some (agg [int 3,int a,str (ByteArray.mk (List.toArray [])),lst [],lst []])) (by rfl)
def e30(J:Q0)(m:Nat):=evAt Tryz.prog env (ct m) J (m+1) 52 12 Tryz.f52 d20
theorem Ki m a b:e30 jn m [] [] ⟨[.dat 26 a,.dat 3 (.int b)],[],0⟩=o7 (m+1) a b:=
 tq (g:=fun J=>(ru m b).bind fun c=>some (agg [int 5,int 0,str (ByteArray.mk (List.toArray [])),lst [],lst [agg [str (ByteArray.mk (List.toArray [95,105,100])),a],agg [str (ByteArray.mk (List.toArray [99,111,117,110,116])),c]]])) (by rfl)
def e50(J:Q0)(m:Nat):=evAt Tryz.prog env (ct m) J (m+1) 123 2 Tryz.f123 d20
theorem Bg m:e50 jn m [] [] ⟨[],[],0⟩=cO (m+1):=
 tq (g:=fun J=>some pR) (by rfl)
def e51(J:Q0)(m:Nat):=evAt Tryz.prog env (ct m) J (m+1) 127 2 Tryz.f127 d20
theorem R5 m:e51 jn m [] [] ⟨[],[],0⟩=cK (m+1):=
 tq (g:=fun J=>some pR) (by rfl)
def e55(J:Q1)(m:Nat):=evAt Tryz.prog env (ct m) J (m+1) 128 6 Tryz.f128 d5
theorem Xq m a:e55 jn m [] [] ⟨[.dat 3 (.int a)],[],0⟩=sI (m+1) a:=
 tq (g:=fun J=>some (a !=a)) (by rfl)
def e37(J:Q2)(m:Nat):=evAt Tryz.prog env (ct m) J (m+1) 86 20 Tryz.f86 d39
theorem Pq m a b:e37 jn m [] [] ⟨[.dat 3 (.int a),.dat 3 (.int b)],[],0⟩=eX (m+1) a b:=
 tq (g:=fun J=>(sI m a).bind fun d=>(sI m b).bind fun c=>cond d (cond c (some 0) (some (-1))) (cond c (some 1) (cond (a<b) (some (-1)) (cond (b<a) (some 1) (some 0))))) (by rfl)
def Pv:List Nat:=[1,1,0,1,0,1]
def Kj:List Nat:=Pv++[1,1]
def auS:List Nat:=Kj++[1,1,0,0,1]
def akQ:List Nat:=auS++[0]
def arB:List Nat:=Kj++[1,1,1,1,0,0,1]
def akR:List Nat:=arB++[0]
def e17(J:Q2)(m:Nat):=evAt Tryz.prog env (ct m) J (m+1) 45 126 Tryz.f45 d39
def l17(J:Q2)(m:Nat):=loopAt Tryz.prog env (ct m) J (m+1) 45 126 Tryz.f45 d39
def akS(a b:Int)(c d:Dt):St:=⟨tsOf [(2,.ptr 0 [] 0),(3,.ptr 1 [] 0),(48,.dat 3 (.int a)),(49,.dat 3 (.int b))],[.box 26 (.dat 26 c),.box 26 (.dat 26 d)],0⟩
def acC(a b:Int)(c d:Dt):St:=⟨tsOf [(2,.ptr 0 [] 0),(3,.ptr 1 [] 0),(82,.dat 3 (.int a)),(83,.dat 3 (.int b))],[.box 26 (.dat 26 c),.box 26 (.dat 26 d)],0⟩
def afc(a:Int)(b:Bool)(c d:Dt):St:=⟨tsOf [(2,.ptr 0 [] 0),(3,.ptr 1 [] 0),(21,.dat 3 (.int a)),(31,.dat 4 (.bool b))],[.box 26 (.dat 26 c),.box 26 (.dat 26 d)],0⟩
def afd(a:Int)(b:Bool)(c d:Dt):St:=⟨tsOf [(2,.ptr 0 [] 0),(3,.ptr 1 [] 0),(21,.dat 3 (.int a)),(22,.dat 4 (.bool b))],[.box 26 (.dat 26 c),.box 26 (.dat 26 d)],0⟩
theorem wm m:∀b e a c d,l17 jn m akQ [] b (akS e a c d)=mI m (bD m) b e a c d
 |0,_,_,_,_=>rfl
 |b+1,e,a,c,d=>
  tl (g:=fun J=>bif a<e then(idx (L c 3) a).bind fun h=>(idx (L d 3) a).bind fun i=>(bD m h i).bind fun f=>cond (f !=0) (some f) (jj J 1 14 b (akS e (wrap .i64 (a+1)) c d) (l17 J m akQ [] b))else(eX m ((L c 3).length:Int) ((L d 3).length:Int)).bind fun j=>some j) (by simp only[aM,(wm m b)];rfl)
theorem wo m:∀d e a b c,l17 jn m akR [] d (acC e a b c)=mJ m (bD m) d e a b c
 |0,_,_,_,_=>rfl
 |d+1,e,a,b,c=>
  tl (g:=fun J=>bif a<e then(idx (L b 4) a).bind fun l=>(idx (L c 4) a).bind fun n=>(strings_Compare (S l 0) (S n 0)).bind fun k=>cond (k !=0) (some k) ((idx (L b 4) a).bind fun h=>(idx (L c 4) a).bind fun i=>(bD m (fld h 1) (fld i 1)).bind fun f=>cond (f !=0) (some f) (jj J 1 23 d (acC e (wrap .i64 (a+1)) b c) (l17 J m akR [] d)))else(eX m ((L b 4).length:Int) ((L c 4).length:Int)).bind fun j=>some j) (by simp only[aM,(wo m d)];rfl)
theorem EC m c d a b:e17 jn m Kj [] (afc c d a b)=mK m (bD m) c d a b:=
 tq (g:=fun J=>cond d ((strings_Compare (S a 2) (S b 2)).bind fun e=>some e) (cond (c==6) (jj J 1 14 (succ m) (akS (cond (((L b 3).length:Int)<((L a 3).length:Int)) ((L b 3).length:Int) ((L a 3).length:Int)) 0 a b) (l17 J m akQ [] (succ m))) (cond (c==5) (jj J 1 23 (succ m) (acC (cond (((L b 4).length:Int)<((L a 4).length:Int)) ((L b 4).length:Int) ((L a 4).length:Int)) 0 a b) (l17 J m akR [] (succ m))) (some 0)))) (by simp only[aM,wm m,wo m];rfl)
theorem ED m a d b c:e17 jn m Pv [] (afd a d b c)=mM m (bD m) a d b c:=
 tq (g:=fun J=>cond d ((eX m (I b 1) (I c 1)).bind fun e=>some e) (cond (a==4) (jj J 0 11 0 (afc a (a==4) b c) (e17 J m Kj [])) (cond (a==7) (jj J 0 11 0 (afc a (a==7) b c) (e17 J m Kj [])) (jj J 0 11 0 (afc a (a==8) b c) (e17 J m Kj []))))) (by simp only[aM,EC m];rfl)
theorem Kk m a b:e17 jn m [] [] ⟨[.dat 26 a,.dat 26 b],[],0⟩=bD (m+1) a b:=
 tq (g:=fun J=>cond (I a 0 !=I b 0) ((eX m (I a 0) (I b 0)).bind fun c=>some c) (cond (I a 0==3) (jj J 0 7 0 (afd (I a 0) (I a 0==3) a b) (e17 J m Pv [])) (cond (I a 0==9) (jj J 0 7 0 (afd (I a 0) (I a 0==9) a b) (e17 J m Pv [])) (jj J 0 7 0 (afd (I a 0) (I a 0==10) a b) (e17 J m Pv []))))) (by simp only[aM,ED m];rfl)
def e16(J:Q2)(m:Nat):=evAt Tryz.prog env (ct m) J (m+1) 44 16 Tryz.f44 d39
theorem arC m a b c:e16 jn m [] [] ⟨[.dat 3 (.int a),.dat 26 b,.rptr 23 c],[],0⟩=i16 (m+1) a b c:=
 tq (g:=fun J=>(idx (toLst c) a).bind fun d=>(idx (L d 4) 0).bind fun e=>(bD m (fld e 1) b).bind fun f=>some f) (by rfl)
def afe:List Nat:=[1,1,1,0,0]
def e15(J:Q86)(m:Nat):=evAt Tryz.prog env (ct m) J (m+1) 43 49 Tryz.f43 d15
def l15(J:Q86)(m:Nat):=loopAt Tryz.prog env (ct m) J (m+1) 43 49 Tryz.f43 d15
def aff(a:List Dt)(b:Dt)(c d e:Int)(f:Dt):St:=⟨tsOf [(0,.dat 75 (.lst a)),(2,.fn 44 [.rptr 23 b]),(4,.ptr 0 [] 0),(8,.dat 3 (.int c)),(9,.dat 3 (.int d)),(10,.dat 3 (.int e))],[.box 26 (.dat 26 f)],0⟩
theorem UO m:∀b d e h a c f,l15 jn m afe [] b (aff d e h a c f)=NH m b d e h a c f
 |0,_,_,_,_,_,_=>rfl
 |b+1,d,e,h,a,c,f=>
  tl (g:=fun J=>cond (a<c) ((idx d (wrap .i64 (shrI IntKind.u64 (wrap IntKind.u64 (wrap .i64 (a+c))) 1))).bind fun i=>(i16 m (toInt i) f e).bind fun j=>cond (j<0) (jj J 1 3 b (aff d e h (wrap .i64 (wrap .i64 (shrI IntKind.u64 (wrap IntKind.u64 (wrap .i64 (a+c))) 1)+1)) c f) (l15 J m afe [] b)) (jj J 1 3 b (aff d e h a (wrap .i64 (shrI IntKind.u64 (wrap IntKind.u64 (wrap .i64 (a+c))) 1)) f) (l15 J m afe [] b))) (cond (a<h) ((idx d a).bind fun k=>(i16 m (toInt k) f e).bind fun l=>some (a,l==0)) (some (a,false)))) (by simp only[aM,(UO m b)];rfl)
theorem arD m a b c:e15 jn m [] [] ⟨[.dat 75 (.lst a),.dat 26 b,.fn 44 [.rptr 23 c]],[],0⟩=i15 (m+1) a b c:=
 tq (g:=fun J=>jj J 1 3 (succ m) (aff a c (a.length:Int) 0 (a.length:Int) b) (l15 J m afe [] (succ m))) (by simp only[aM,UO m];rfl)
def e24(J:Q2)(m:Nat):=evAt Tryz.prog env (ct m) J (m+1) 50 16 Tryz.f50 d39
theorem F9 m a b:e24 jn m [] [] ⟨[.dat 26 a,.dat 26 b],[],0⟩=dF (m+1) a b:=
 tq (g:=fun J=>(idx (L b 4) 1).bind fun c=>(idx (L a 4) 1).bind fun d=>(bD m (fld c 1) (fld d 1)).bind fun e=>some e) (by rfl)
def auT:List Nat:=[1,0,0,1,0,0,1]
def akT:List Nat:=auT++[0]
def e23(J:Q13)(m:Nat):=evAt Tryz.prog env (ct m) J (m+1) 131 53 Tryz.f131 d27
def l23(J:Q13)(m:Nat):=loopAt Tryz.prog env (ct m) J (m+1) 131 53 Tryz.f131 d27
def akU(a b c d:Int)(e:List Dt):St:=⟨tsOf [(0,.row 0),(1,.dat 3 (.int a)),(2,.dat 3 (.int b)),(3,.fn 50 []),(8,.dat 3 (.int c)),(9,.dat 3 (.int d))],[.row 23 e],1⟩
def aat(a b c:Int)(d:List Dt):St:=⟨tsOf [(0,.row 0),(1,.dat 3 (.int a)),(2,.dat 3 (.int b)),(3,.fn 50 []),(8,.dat 3 (.int c))],[.row 23 d],1⟩
abbrev auU(m f:Nat)(a:Q4):Prop:=∀b c d e,l23 jn m [1,0] [] f (aat b c d e)=a b c d e
theorem UQ m d c(k:auU m d c):∀f e h i a b,l23 jn m akT [d] f (akU e h i a b)=Jo m c f e h i a b
 |0,_,_,_,_,_=>rfl
 |f+1,e,h,i,a,b=>
  tl (g:=fun J=>cond (e<a) ((inL b a).bind fun t=>(b[a.toNat]?).bind fun l=>(inL b (wrap .i64 (a-1))).bind fun u=>(b[(wrap .i64 (a-1)).toNat]?).bind fun n=>(dF m l n).bind fun o=>cond (o<0) ((inL b (wrap .i64 (a-1))).bind fun v=>(b[(wrap .i64 (a-1)).toNat]?).bind fun j=>(inL b a).bind fun w=>(b[a.toNat]?).bind fun p=>(inL b a).bind fun x=>(b[a.toNat]?).bind fun q=>(inL (List.set b a.toNat j) (wrap .i64 (a-1))).bind fun r=>((List.set b a.toNat j)[(wrap .i64 (a-1)).toNat]?).bind fun s=>jj J 1 4 f (akU e h i (wrap .i64 (a-1)) (List.set (List.set b a.toNat j) (wrap .i64 (a-1)).toNat p)) (l23 J m akT [d] f)) (jj J 1 1 d (aat e h (wrap .i64 (i+1)) b) (l23 J m [1,0] [] d))) (jj J 1 1 d (aat e h (wrap .i64 (i+1)) b) (l23 J m [1,0] [] d))) (by simp only[aM,(UQ m d c k f),k];rfl)
theorem UR m:∀a e c b d,l23 jn m [1,0] [] a (aat e c b d)=AZ m a e c b d
 |0,_,_,_,_=>rfl
 |a+1,e,c,b,d=>
  tl (g:=fun J=>cond (b<c) (jj J 1 4 (succ m) (akU e c b b d) (l23 J m akT [a] (succ m))) (some d)) (by simp only[aM,UQ m a (AZ m a) (UR m a)];rfl)
theorem arE m a b c:e23 jn m [] [] ⟨[.row 0,.dat 3 (.int a),.dat 3 (.int b),.fn 50 []],[.row 23 c],1⟩=i23 (m+1) a b c:=
 tq (g:=fun J=>jj J 1 1 (succ m) (aat a b (wrap .i64 (a+1)) c) (l23 J m [1,0] [] (succ m))) (by simp only[aM,UR m];rfl)
def auV:List Nat:=[0,1,0,1,1,1]
def akV:List Nat:=[1,0,1,0,1,1]
def arF:List Nat:=[1,1,1,1,1,1]
def afg:List Nat:=[0,1,0,1,1,0,0]
def arG:List Nat:=akV++[1]
def akW:List Nat:=arF++[1]
def auW:List Nat:=auV++[0,1]
def afh:List Nat:=akV++[0,0]
def akX:List Nat:=akW++[1]
def akY:List Nat:=auW++[0]
def arH:List Nat:=arG++[0,1]
def Pw:List Nat:=akW++[0,0]
def acD:List Nat:=arH++[0]
def Px:List Nat:=akX++[1,1]
def Xr:List Nat:=Px++[1]
def acE:List Nat:=akX++[1,0,1]
def acF:List Nat:=Xr++[1]
def acG:List Nat:=Px++[0,1]
def e25(J:Q13)(m:Nat):=evAt Tryz.prog env (ct m) J (m+1) 132 220 Tryz.f132 d27
def l25(J:Q13)(m:Nat):=loopAt Tryz.prog env (ct m) J (m+1) 132 220 Tryz.f132 d27
def afi(a b c:Int)(d:List Dt):St:=⟨tsOf [(0,.row 0),(1,.dat 3 (.int a)),(4,.fn 50 []),(10,.dat 3 (.int b)),(11,.dat 3 (.int c))],[.row 23 d],1⟩
def akZ(a b:Int)(c:List Dt):St:=⟨tsOf [(0,.row 0),(10,.dat 3 (.int a)),(13,.dat 3 (.int b))],[.row 23 c],1⟩
def Xt(a b c:Int)(d:List Dt):St:=⟨tsOf [(0,.row 0),(2,.dat 3 (.int a)),(4,.fn 50 []),(14,.dat 3 (.int b)),(15,.dat 3 (.int c))],[.row 23 d],1⟩
def acH(a b:Int)(c:List Dt):St:=⟨tsOf [(0,.row 0),(14,.dat 3 (.int a)),(17,.dat 3 (.int b))],[.row 23 c],1⟩
def Py(a b c d e f g h:Int)(i:List Dt):St:=⟨tsOf [(0,.row 0),(1,.dat 3 (.int a)),(2,.dat 3 (.int b)),(3,.dat 3 (.int c)),(4,.fn 50 []),(18,.dat 3 (.int d)),(19,.dat 3 (.int e)),(20,.dat 3 (.int f)),(21,.dat 3 (.int g)),(22,.dat 3 (.int h))],[.row 23 i],1⟩
def acI(a b c:Int)(d:Bool)(e:List Dt):St:=⟨tsOf [(0,.row 0),(3,.dat 3 (.int a)),(4,.fn 50 []),(18,.dat 3 (.int b)),(24,.dat 3 (.int c)),(213,.dat 4 (.bool d))],[.row 23 e],1⟩
def acJ(a b c:Int)(d:List Dt):St:=⟨tsOf [(0,.row 0),(3,.dat 3 (.int a)),(4,.fn 50 []),(18,.dat 3 (.int b)),(24,.dat 3 (.int c))],[.row 23 d],1⟩
def acK(a b c d e:Int)(f:Bool)(g:List Dt):St:=⟨tsOf [(0,.row 0),(1,.dat 3 (.int a)),(3,.dat 3 (.int b)),(4,.fn 50 []),(18,.dat 3 (.int c)),(20,.dat 3 (.int d)),(24,.dat 3 (.int e)),(199,.dat 4 (.bool f))],[.row 23 g],1⟩
def acL(a b c d e:Int)(f:List Dt):St:=⟨tsOf [(0,.row 0),(1,.dat 3 (.int a)),(3,.dat 3 (.int b)),(4,.fn 50 []),(18,.dat 3 (.int c)),(20,.dat 3 (.int d)),(24,.dat 3 (.int e))],[.row 23 f],1⟩
def acM(a b c d e f:Int)(g:Bool)(h:List Dt):St:=⟨tsOf [(0,.row 0),(1,.dat 3 (.int a)),(2,.dat 3 (.int b)),(3,.dat 3 (.int c)),(4,.fn 50 []),(18,.dat 3 (.int d)),(20,.dat 3 (.int e)),(24,.dat 3 (.int f)),(185,.dat 4 (.bool g))],[.row 23 h],1⟩
theorem UU m:∀c d a b,l25 jn m akY [] c (akZ d a b)=Fx m (i25 m) c d a b
 |0,_,_,_=>rfl
 |c+1,d,a,b=>
  tl (g:=fun J=>bif a<wrap .i64 (d-1)then(inL b (wrap .i64 (a+1))).bind fun k=>(b[(wrap .i64 (a+1)).toNat]?).bind fun e=>(inL b a).bind fun l=>(b[a.toNat]?).bind fun f=>(inL b a).bind fun n=>(b[a.toNat]?).bind fun h=>(inL (List.set b a.toNat e) (wrap .i64 (a+1))).bind fun i=>((List.set b a.toNat e)[(wrap .i64 (a+1)).toNat]?).bind fun j=>jj J 1 9 c (akZ d (wrap .i64 (a+1)) (List.set (List.set b a.toNat e) (wrap .i64 (a+1)).toNat f)) (l25 J m akY [] c)else some b) (by simp only[aM,(UU m c)];rfl)
theorem UW m:∀d e a c b,l25 jn m afg [] d (afi e a c b)=Ck m (i25 m) d e a c b
 |0,_,_,_,_=>rfl
 |d+1,e,a,c,b=>
  tl (g:=fun J=>cond (a<c) ((inL b (wrap .i64 (shrI IntKind.u64 (wrap IntKind.u64 (wrap .i64 (a+c))) 1))).bind fun j=>(b[(wrap .i64 (shrI IntKind.u64 (wrap IntKind.u64 (wrap .i64 (a+c))) 1)).toNat]?).bind fun f=>(inL b e).bind fun k=>(b[e.toNat]?).bind fun h=>(dF m f h).bind fun i=>cond (i<0) (jj J 1 3 d (afi e (wrap .i64 (wrap .i64 (shrI IntKind.u64 (wrap IntKind.u64 (wrap .i64 (a+c))) 1)+1)) c b) (l25 J m afg [] d)) (jj J 1 3 d (afi e a (wrap .i64 (shrI IntKind.u64 (wrap IntKind.u64 (wrap .i64 (a+c))) 1)) b) (l25 J m afg [] d))) (jj J 1 9 (succ m) (akZ a e b) (l25 J m akY [] (succ m)))) (by simp only[aM,(UW m d),UU m];rfl)
theorem Pz m:∀b e a c,l25 jn m acD [] b (acH e a c)=A8 m (i25 m) b e a c
 |0,_,_,_=>rfl
 |b+1,e,a,c=>
  tl (g:=fun J=>cond (e<a) ((inL c (wrap .i64 (a-1))).bind fun h=>(c[(wrap .i64 (a-1)).toNat]?).bind fun d=>(inL c a).bind fun i=>(c[a.toNat]?).bind fun f=>(inL c a).bind fun j=>(c[a.toNat]?).bind fun k=>(inL (List.set c a.toNat d) (wrap .i64 (a-1))).bind fun l=>((List.set c a.toNat d)[(wrap .i64 (a-1)).toNat]?).bind fun n=>jj J 1 21 b (acH e (wrap .i64 (a-1)) (List.set (List.set c a.toNat d) (wrap .i64 (a-1)).toNat f)) (l25 J m acD [] b)) (some c)) (by simp only[aM,(Pz m b)];rfl)
theorem PD m:∀a e b d c,l25 jn m afh [] a (Xt e b d c)=yg m (i25 m) a e b d c
 |0,_,_,_,_=>rfl
 |a+1,e,b,d,c=>
  tl (g:=fun J=>cond (b<d) ((inL c e).bind fun j=>(c[e.toNat]?).bind fun f=>(inL c (wrap .i64 (shrI IntKind.u64 (wrap IntKind.u64 (wrap .i64 (b+d))) 1))).bind fun k=>(c[(wrap .i64 (shrI IntKind.u64 (wrap IntKind.u64 (wrap .i64 (b+d))) 1)).toNat]?).bind fun h=>(dF m f h).bind fun i=>cond (!(i<0)) (jj J 1 15 a (Xt e (wrap .i64 (wrap .i64 (shrI IntKind.u64 (wrap IntKind.u64 (wrap .i64 (b+d))) 1)+1)) d c) (l25 J m afh [] a)) (jj J 1 15 a (Xt e b (wrap .i64 (shrI IntKind.u64 (wrap IntKind.u64 (wrap .i64 (b+d))) 1)) c) (l25 J m afh [] a))) (jj J 1 21 (succ m) (acH b e c) (l25 J m acD [] (succ m)))) (by simp only[aM,(PD m a),Pz m];rfl)
theorem acN m b c d e a:e25 jn m acF [] (acI b c d e a)=Nb m (i25 m) b c d e a:=
 tq (g:=fun J=>cond e ((i25 m c d b a).bind fun f=>some f) (some a)) (by rfl)
theorem acO m b c a d:e25 jn m Xr [] (acJ b c a d)=DY m (i25 m) b c a d:=
 tq (g:=fun J=>cond (c<a) (jj J 0 44 0 (acI b c a (decide (a<b)) d) (e25 J m acF [])) (jj J 0 44 0 (acI b c a false d) (e25 J m acF []))) (by simp only[aM,acN m];rfl)
theorem acP m e b a f c h d:e25 jn m acG [] (acK e b a f c h d)=Nc m (i25 m) e b a f c h d:=
 tq (g:=fun J=>cond h ((i25 m e f a d).bind fun i=>jj J 0 43 0 (acJ b a c i) (e25 J m Xr [])) (jj J 0 43 0 (acJ b a c d) (e25 J m Xr []))) (by simp only[aM,acO m];rfl)
theorem acQ m b d c a e f:e25 jn m Px [] (acL b d c a e f)=He m (i25 m) b d c a e f:=
 tq (g:=fun J=>cond (b<a) (jj J 0 42 0 (acK b d c a e (decide (a<c)) f) (e25 J m acG [])) (jj J 0 42 0 (acK b d c a e false f) (e25 J m acG []))) (by simp only[aM,acP m];rfl)
theorem acR m c h d e a b i f:e25 jn m acE [] (acM c h d e a b i f)=Nf m (i25 m) c h d e a b i f:=
 tq (g:=fun J=>cond i ((i26 m a h b f).bind fun j=>jj J 0 41 0 (acL c d e a b j) (e25 J m Px [])) (jj J 0 41 0 (acL c d e a b f) (e25 J m Px []))) (by simp only[aM,acQ m];rfl)
theorem PE m:∀a h e i j f b c k d,l25 jn m Pw [] a (Py h e i j f b c k d)=yh m (i25 m) a h e i j f b c k d
 |0,_,_,_,_,_,_,_,_,_=>rfl
 |a+1,h,e,i,j,f,b,c,k,d=>
  tl (g:=fun J=>cond (b<c) ((inL d (wrap .i64 (k-wrap .i64 (shrI IntKind.u64 (wrap IntKind.u64 (wrap .i64 (b+c))) 1)))).bind fun p=>(d[(wrap .i64 (k-wrap .i64 (shrI IntKind.u64 (wrap IntKind.u64 (wrap .i64 (b+c))) 1))).toNat]?).bind fun l=>(inL d (wrap .i64 (shrI IntKind.u64 (wrap IntKind.u64 (wrap .i64 (b+c))) 1))).bind fun q=>(d[(wrap .i64 (shrI IntKind.u64 (wrap IntKind.u64 (wrap .i64 (b+c))) 1)).toNat]?).bind fun n=>(dF m l n).bind fun o=>cond (!(o<0)) (jj J 1 33 a (Py h e i j f (wrap .i64 (wrap .i64 (shrI IntKind.u64 (wrap IntKind.u64 (wrap .i64 (b+c))) 1)+1)) c k d) (l25 J m Pw [] a)) (jj J 1 33 a (Py h e i j f b (wrap .i64 (shrI IntKind.u64 (wrap IntKind.u64 (wrap .i64 (b+c))) 1)) k d) (l25 J m Pw [] a))) (cond (b<e) (jj J 0 40 0 (acM h e i j b (wrap .i64 (f-b)) (decide (e<wrap .i64 (f-b))) d) (e25 J m acE [])) (jj J 0 40 0 (acM h e i j b (wrap .i64 (f-b)) false d) (e25 J m acE [])))) (by simp only[aM,(PE m a),acR m];rfl)
theorem arI m a b c d:e25 jn m [] [] ⟨[.row 0,.dat 3 (.int a),.dat 3 (.int b),.dat 3 (.int c),.fn 50 []],[.row 23 d],1⟩=i25 (m+1) a b c d:=
 tq (g:=fun J=>cond (wrap .i64 (b-a)==1) (jj J 1 3 (succ m) (afi a b c d) (l25 J m afg [] (succ m))) (cond (wrap .i64 (c-b)==1) (jj J 1 15 (succ m) (Xt b a b d) (l25 J m afh [] (succ m))) (cond (wrap .i64 (shrI IntKind.u64 (wrap IntKind.u64 (wrap .i64 (a+c))) 1)<b) (jj J 1 33 (succ m) (Py a b c (wrap .i64 (shrI IntKind.u64 (wrap IntKind.u64 (wrap .i64 (a+c))) 1)) (wrap .i64 (wrap .i64 (shrI IntKind.u64 (wrap IntKind.u64 (wrap .i64 (a+c))) 1)+b)) (wrap .i64 (wrap .i64 (wrap .i64 (shrI IntKind.u64 (wrap IntKind.u64 (wrap .i64 (a+c))) 1)+b)-c)) (wrap .i64 (shrI IntKind.u64 (wrap IntKind.u64 (wrap .i64 (a+c))) 1)) (wrap .i64 (wrap .i64 (wrap .i64 (shrI IntKind.u64 (wrap IntKind.u64 (wrap .i64 (a+c))) 1)+b)-1)) d) (l25 J m Pw [] (succ m))) (jj J 1 33 (succ m) (Py a b c (wrap .i64 (shrI IntKind.u64 (wrap IntKind.u64 (wrap .i64 (a+c))) 1)) (wrap .i64 (wrap .i64 (shrI IntKind.u64 (wrap IntKind.u64 (wrap .i64 (a+c))) 1)+b)) a b (wrap .i64 (wrap .i64 (wrap .i64 (shrI IntKind.u64 (wrap IntKind.u64 (wrap .i64 (a+c))) 1)+b)-1)) d) (l25 J m Pw [] (succ m)))))) (by simp only[aM,UW m,PD m,PE m];rfl)
def aau:List Nat:=[1,1,1,1,0]
def auX:List Nat:=[1,1,1,1,0,0,1]
def auY:List Nat:=auX++[0,1]
def ak0:List Nat:=auY++[0,0]
def e22(J:Q13)(m:Nat):=evAt Tryz.prog env (ct m) J (m+1) 90 63 Tryz.f90 d27
def l22(J:Q13)(m:Nat):=loopAt Tryz.prog env (ct m) J (m+1) 90 63 Tryz.f90 d27
def UY(a b c d:Int)(e:List Dt):St:=⟨tsOf [(0,.row 0),(1,.dat 3 (.int a)),(2,.fn 50 []),(6,.dat 3 (.int b)),(7,.dat 3 (.int c)),(8,.dat 3 (.int d))],[.row 23 e],1⟩
def PG(a b:Int)(c:List Dt):St:=⟨tsOf [(0,.row 0),(1,.dat 3 (.int a)),(2,.fn 50 []),(6,.dat 3 (.int b))],[.row 23 c],1⟩
abbrev auZ(m e:Nat)(a:Q16):Prop:=∀b c d,l22 jn m aau [] e (PG b c d)=a b c d
theorem UZ m d a(j:auZ m d a):∀h c b e f i,l22 jn m ak0 [d] h (UY c b e f i)=Jp m a h c b e f i
 |0,_,_,_,_,_=>rfl
 |h+1,c,b,e,f,i=>
  tl (g:=fun J=>cond (f<=c) ((i25 m e (wrap .i64 (e+b)) f i).bind fun k=>jj J 1 9 h (UY c b f (wrap .i64 (f+wrap .i64 (2*b))) k) (l22 J m ak0 [d] h)) (cond (wrap .i64 (e+b)<c) ((i25 m e (wrap .i64 (e+b)) c i).bind fun l=>jj J 1 7 d (PG c (wrap .i64 (b*2)) l) (l22 J m aau [] d)) (jj J 1 7 d (PG c (wrap .i64 (b*2)) i) (l22 J m aau [] d)))) (by simp only[aM,(UZ m d a j h),j];rfl)
theorem U0 m:∀a c b d,l22 jn m aau [] a (PG c b d)=zu m a c b d
 |0,_,_,_=>rfl
 |a+1,c,b,d=>
  tl (g:=fun J=>cond (b<c) (jj J 1 9 (succ m) (UY c b 0 (wrap .i64 (2*b)) d) (l22 J m ak0 [a] (succ m))) (some d)) (by simp only[aM,UZ m a (zu m a) (U0 m a)];rfl)
theorem U3 m:∀c a d e b f,l22 jn m [1,1,0,0] [] c (UY a d e b f)=Jq m c a d e b f
 |0,_,_,_,_,_=>rfl
 |c+1,a,d,e,b,f=>
  tl (g:=fun J=>bif b<=a then(i23 m e b f).bind fun h=>jj J 1 2 c (UY a d b (wrap .i64 (b+d)) h) (l22 J m [1,1,0,0] [] c)else(i23 m e a f).bind fun i=>jj J 1 7 (succ m) (PG a d i) (l22 J m aau [] (succ m))) (by simp only[aM,(U3 m c),U0 m];rfl)
theorem arJ m a b:e22 jn m [] [] ⟨[.row 0,.dat 3 (.int a),.fn 50 []],[.row 23 b],1⟩=i22 (m+1) a b:=
 tq (g:=fun J=>jj J 1 2 (succ m) (UY a 20 0 20 b) (l22 J m [1,1,0,0] [] (succ m))) (by simp only[aM,U3 m];rfl)
def e21(J:Q13)(m:Nat):=evAt Tryz.prog env (ct m) J (m+1) 49 9 Tryz.f49 d27
theorem arK m a:e21 jn m [] [] ⟨[.row 0,.fn 50 []],[.row 23 a],1⟩=i21 (m+1) a:=
 tq (g:=fun J=>(i22 m (a.length:Int) a).bind fun b=>some b) (by rfl)
def afj:List Nat:=[1,1,0,1,0]
def au0:List Nat:=[1,1,0,1,0,0,1]
def afk:List Nat:=au0++[0,0,1]
def e57(J:Q1)(m:Nat):=evAt Tryz.prog env (ct m) J (m+1) 97 39 Tryz.f97 d5
def l57(J:Q1)(m:Nat):=loopAt Tryz.prog env (ct m) J (m+1) 97 39 Tryz.f97 d5
def afl(a:ByteArray)(b:Int):St:=⟨tsOf [(0,.dat 9 (.str a)),(3,.dat 3 (.int b))],[],0⟩
def afm(a:ByteArray)(b:Int)(c:Bool):St:=⟨tsOf [(0,.dat 9 (.str a)),(3,.dat 3 (.int b)),(38,.dat 4 (.bool c))],[],0⟩
def afn(a:ByteArray)(b:Bool):St:=⟨tsOf [(0,.dat 9 (.str a)),(16,.dat 4 (.bool b))],[],0⟩
abbrev au1(m d:Nat)(a:Q14):Prop:=∀b c,l57 jn m afj [] d (afl b c)=a b c
theorem Kl m b a(f:au1 m b a) c d e:e57 jn m afk [b] (afm c d e)=iM m a c d e:=
 tq (g:=fun J=>cond e (some false) (jj J 1 4 b (afl c (wrap .i64 (d+1))) (l57 J m afj [] b))) (by simp only[aM,f];rfl)
theorem Ak m:∀c a b,l57 jn m afj [] c (afl a b)=iN m c a b
 |0,_,_=>rfl
 |c+1,a,b=>
  tl (g:=fun J=>bif b<(a.size:Int)then(idxS a b).bind fun d=>cond (d<33) (jj J 0 7 0 (afm a b true) (e57 J m afk [c])) ((idxS a b).bind fun e=>cond (126<e) (jj J 0 7 0 (afm a b true) (e57 J m afk [c])) ((idxS a b).bind fun f=>jj J 0 7 0 (afm a b (f==46)) (e57 J m afk [c])))else some true) (by simp only[aM,Kl m c (iN m c) (Ak m c)];rfl)
theorem Km m a b:e57 jn m [1,0,1] [] (afn a b)=iO m a b:=
 tq (g:=fun J=>cond b (some false) (jj J 1 4 (succ m) (afl a 0) (l57 J m afj [] (succ m)))) (by simp only[aM,Ak m];rfl)
theorem R6 m a:e57 jn m [] [] ⟨[.dat 9 (.str a)],[],0⟩=iE (m+1) a:=
 tq (g:=fun J=>cond ((a.size:Int)<1) (jj J 0 2 0 (afn a true) (e57 J m [1,0,1] [])) (bif 32<(a.size:Int)then jj J 0 2 0 (afn a true) (e57 J m [1,0,1] [])else(idxS a 0).bind fun b=>jj J 0 2 0 (afn a (b==36)) (e57 J m [1,0,1] []))) (by simp only[aM,Km m];rfl)
def ak1:List Nat:=[1,1,0,1,0]
def e56(J:Q1)(m:Nat):=evAt Tryz.prog env (ct m) J (m+1) 65 24 Tryz.f65 d5
def l56(J:Q1)(m:Nat):=loopAt Tryz.prog env (ct m) J (m+1) 65 24 Tryz.f65 d5
def ak2(a:List Dt)(b:Int):St:=⟨tsOf [(0,.dat 22 (.lst a)),(3,.dat 3 (.int b))],[],0⟩
def ak3(a:List Dt)(b:Bool):St:=⟨tsOf [(0,.dat 22 (.lst a)),(11,.dat 4 (.bool b))],[],0⟩
theorem yL m:∀a b c,l56 jn m ak1 [] a (ak2 b c)=mO m a b c
 |0,_,_=>rfl
 |a+1,b,c=>
  tl (g:=fun J=>bif c<(b.length:Int)then(idx b c).bind fun d=>(iE m (toStr d)).bind fun e=>cond (!e) (some false) (jj J 1 4 a (ak2 b (wrap .i64 (c+1))) (l56 J m ak1 [] a))else some true) (by simp only[aM,(yL m a)];rfl)
theorem II m a b:e56 jn m [1,0,1] [] (ak3 a b)=mP m a b:=
 tq (g:=fun J=>cond b (some false) (jj J 1 4 (succ m) (ak2 a 0) (l56 J m ak1 [] (succ m)))) (by simp only[aM,yL m];rfl)
theorem PI m a:e56 jn m [] [] ⟨[.dat 22 (.lst a)],[],0⟩=iV (m+1) a:=
 tq (g:=fun J=>cond ((a.length:Int)<1) (jj J 0 2 0 (ak3 a true) (e56 J m [1,0,1] [])) (jj J 0 2 0 (ak3 a (decide (16<(a.length:Int)))) (e56 J m [1,0,1] []))) (by simp only[aM,II m];rfl)
def ak4:List Nat:=[1,1,0,1,0]
def aav:List Nat:=[1,1,1,0,1,0]
def au2:List Nat:=aav++[0,1]
def ak5:List Nat:=au2++[0,0,1]
def e58(J:Q1)(m:Nat):=evAt Tryz.prog env (ct m) J (m+1) 108 99 Tryz.f108 d5
def l58(J:Q1)(m:Nat):=loopAt Tryz.prog env (ct m) J (m+1) 108 99 Tryz.f108 d5
def ak6(a:Int)(b c:Dt):St:=⟨tsOf [(2,.ptr 0 [] 0),(3,.ptr 1 [] 0),(5,.dat 3 (.int a))],[.box 26 (.dat 26 b),.box 26 (.dat 26 c)],0⟩
def Xu(a:Int)(b c:Dt):St:=⟨tsOf [(2,.ptr 0 [] 0),(3,.ptr 1 [] 0),(6,.dat 3 (.int a))],[.box 26 (.dat 26 b),.box 26 (.dat 26 c)],0⟩
def acS(a:Int)(b:Bool)(c d:Dt):St:=⟨tsOf [(2,.ptr 0 [] 0),(3,.ptr 1 [] 0),(6,.dat 3 (.int a)),(98,.dat 4 (.bool b))],[.box 26 (.dat 26 c),.box 26 (.dat 26 d)],0⟩
def U4(a:Bool)(b c:Dt):St:=⟨tsOf [(2,.ptr 0 [] 0),(3,.ptr 1 [] 0),(43,.dat 4 (.bool a))],[.box 26 (.dat 26 b),.box 26 (.dat 26 c)],0⟩
abbrev au3(m e:Nat)(a:Q36):Prop:=∀b c d,l58 jn m aav [] e (Xu b c d)=a b c d
theorem IJ m b a(h:au3 m b a) c d e f:e58 jn m ak5 [b] (acS c d e f)=mQ m (bJ m) a c d e f:=
 tq (g:=fun J=>cond d (some false) (jj J 1 9 b (Xu (wrap .i64 (c+1)) e f) (l58 J m aav [] b))) (by simp only[aM,h];rfl)
theorem Al m:∀b a c d,l58 jn m aav [] b (Xu a c d)=o8 m (bJ m) b a c d
 |0,_,_,_=>rfl
 |b+1,a,c,d=>
  tl (g:=fun J=>bif a<((L c 4).length:Int)then(idx (L c 4) a).bind fun e=>(idx (L d 4) a).bind fun f=>cond (!(S e 0).toList==(S f 0).toList) (jj J 0 12 0 (acS a true c d) (e58 J m ak5 [b])) ((idx (L c 4) a).bind fun h=>(idx (L d 4) a).bind fun i=>(bJ m (fld h 1) (fld i 1)).bind fun j=>jj J 0 12 0 (acS a (!j) c d) (e58 J m ak5 [b]))else some true) (by simp only[aM,IJ m b (o8 m (bJ m) b) (Al m b)];rfl)
theorem Ao m:∀c a b d,l58 jn m ak4 [] c (ak6 a b d)=uQ m (bJ m) c a b d
 |0,_,_,_=>rfl
 |c+1,a,b,d=>
  tl (g:=fun J=>bif a<((L b 3).length:Int)then(idx (L b 3) a).bind fun e=>(idx (L d 3) a).bind fun f=>(bJ m e f).bind fun h=>cond (!h) (some false) (jj J 1 4 c (ak6 (wrap .i64 (a+1)) b d) (l58 J m ak4 [] c))else jj J 1 9 (succ m) (Xu 0 b d) (l58 J m aav [] (succ m))) (by simp only[aM,(Ao m c),Al m];rfl)
theorem Kn m a b c:e58 jn m [1,0,1] [] (U4 a b c)=dY m (bJ m) a b c:=
 tq (g:=fun J=>cond a (some false) (jj J 1 4 (succ m) (ak6 0 b c) (l58 J m ak4 [] (succ m)))) (by simp only[aM,Ao m];rfl)
theorem R7 m a b:e58 jn m [] [] ⟨[.dat 26 a,.dat 26 b],[],0⟩=bJ (m+1) a b:=
 tq (g:=fun J=>cond (I a 0 !=I b 0) (jj J 0 2 0 (U4 true a b) (e58 J m [1,0,1] [])) (cond (I a 1 !=I b 1) (jj J 0 2 0 (U4 true a b) (e58 J m [1,0,1] [])) (cond (!(S a 2).toList==(S b 2).toList) (jj J 0 2 0 (U4 true a b) (e58 J m [1,0,1] [])) (bif ((L a 3).length:Int) !=((L b 3).length:Int)then jj J 0 2 0 (U4 true a b) (e58 J m [1,0,1] [])else jj J 0 2 0 (U4 (((L a 4).length:Int) !=((L b 4).length:Int)) a b) (e58 J m [1,0,1] []))))) (by simp only[aM,Kn m];rfl)
def au4:List Nat:=[1,0,1,0,0,1]
def au5:List Nat:=au4++[0,0,1]
def au6:List Nat:=au5++[1]
def ak7:List Nat:=au6++[0]
def e59(J:Q1)(m:Nat):=evAt Tryz.prog env (ct m) J (m+1) 107 31 Tryz.f107 d5
def l59(J:Q1)(m:Nat):=loopAt Tryz.prog env (ct m) J (m+1) 107 31 Tryz.f107 d5
def ak8(a:List Dt)(b c:Int):St:=⟨tsOf [(0,.dat 22 (.lst a)),(3,.dat 3 (.int b)),(4,.dat 3 (.int c))],[],0⟩
def afo(a:List Dt)(b:Int):St:=⟨tsOf [(0,.dat 22 (.lst a)),(3,.dat 3 (.int b))],[],0⟩
abbrev au7(m d:Nat)(a:Q23):Prop:=∀b c,l59 jn m [1,0,1,0] [] d (afo b c)=a b c
theorem yM m d a(h:au7 m d a):∀e b c f,l59 jn m ak7 [d] e (ak8 b c f)=qd m a e b c f
 |0,_,_,_=>rfl
 |e+1,b,c,f=>
  tl (g:=fun J=>cond (f<c) ((idx b f).bind fun i=>(idx b c).bind fun j=>cond ((toStr i).toList==(toStr j).toList) (some false) (jj J 1 7 e (ak8 b c (wrap .i64 (f+1))) (l59 J m ak7 [d] e))) (jj J 1 2 d (afo b (wrap .i64 (c+1))) (l59 J m [1,0,1,0] [] d))) (by simp only[aM,(yM m d a h e),h];rfl)
theorem yN m:∀a b c,l59 jn m [1,0,1,0] [] a (afo b c)=jX m a b c
 |0,_,_=>rfl
 |a+1,b,c=>
  tl (g:=fun J=>bif c<(b.length:Int)then(idx b c).bind fun d=>(iE m (toStr d)).bind fun e=>cond (!e) (some false) (jj J 1 7 (succ m) (ak8 b c 0) (l59 J m ak7 [a] (succ m)))else some true) (by simp only[aM,yM m a (jX m a) (yN m a)];rfl)
theorem PK m a:e59 jn m [] [] ⟨[.dat 22 (.lst a)],[],0⟩=nK (m+1) a:=
 tq (g:=fun J=>jj J 1 2 (succ m) (afo a 0) (l59 J m [1,0,1,0] [] (succ m))) (by simp only[aM,yN m];rfl)
def afp:List Nat:=[1,0,1,0,1]
def Fj:List Nat:=[1,0,1,0,1,1,1]
def afq:List Nat:=Fj++[1,1]
def Fp:List Nat:=afq++[1,1]
def e60(J:Q2)(m:Nat):=evAt Tryz.prog env (ct m) J (m+1) 106 30 Tryz.f106 d39
def Fq(a:Bool):St:=⟨tsOf [(20,.dat 4 (.bool a))],[],0⟩
def ak9(a:Int)(b:Bool):St:=⟨tsOf [(3,.dat 3 (.int a)),(17,.dat 4 (.bool b))],[],0⟩
def IK(a:Int)(b:Bool):St:=⟨tsOf [(3,.dat 3 (.int a)),(8,.dat 4 (.bool b))],[],0⟩
def afr(a:Int)(b:Bool):St:=⟨tsOf [(3,.dat 3 (.int a)),(4,.dat 4 (.bool b))],[],0⟩
theorem Ko m a:e60 jn m Fp [] (Fq a)=gK m a:=
 tq (g:=fun J=>cond a (some (-1)) (some 2)) (by rfl)
theorem Kq m a b:e60 jn m afq [] (ak9 a b)=zw m a b:=
 tq (g:=fun J=>cond b (some 3) (cond (a==4) (jj J 0 27 0 (Fq (a==4)) (e60 J m Fp [])) (cond (a==6) (jj J 0 27 0 (Fq (a==6)) (e60 J m Fp [])) (cond (a==16) (jj J 0 27 0 (Fq (a==16)) (e60 J m Fp [])) (cond (a==17) (jj J 0 27 0 (Fq (a==17)) (e60 J m Fp [])) (cond (a==21) (jj J 0 27 0 (Fq (a==21)) (e60 J m Fp [])) (cond (a==29) (jj J 0 27 0 (Fq (a==29)) (e60 J m Fp [])) (cond (a==37) (jj J 0 27 0 (Fq (a==37)) (e60 J m Fp [])) (cond (a==35) (jj J 0 27 0 (Fq (a==35)) (e60 J m Fp [])) (jj J 0 27 0 (Fq (a==34)) (e60 J m Fp []))))))))))) (by simp only[aM,Ko m];rfl)
theorem Kr m a b:e60 jn m Fj [] (IK a b)=iP m a b:=
 tq (g:=fun J=>cond b (some 1) (cond (a==19) (jj J 0 17 0 (ak9 a (a==19)) (e60 J m afq [])) (jj J 0 17 0 (ak9 a (a==25)) (e60 J m afq [])))) (by simp only[aM,Kq m];rfl)
theorem Ku m a b:e60 jn m afp [] (afr a b)=uR m a b:=
 tq (g:=fun J=>cond b (some 0) (cond (a==18) (jj J 0 14 0 (IK a (a==18)) (e60 J m Fj [])) (cond (a==22) (jj J 0 14 0 (IK a (a==22)) (e60 J m Fj [])) (cond (a==23) (jj J 0 14 0 (IK a (a==23)) (e60 J m Fj [])) (cond (a==24) (jj J 0 14 0 (IK a (a==24)) (e60 J m Fj [])) (cond (a==26) (jj J 0 14 0 (IK a (a==26)) (e60 J m Fj [])) (cond (a==30) (jj J 0 14 0 (IK a (a==30)) (e60 J m Fj [])) (cond (a==31) (jj J 0 14 0 (IK a (a==31)) (e60 J m Fj [])) (jj J 0 14 0 (IK a (a==36)) (e60 J m Fj [])))))))))) (by simp only[aM,Kr m];rfl)
theorem R8 m a:e60 jn m [] [] ⟨[.dat 3 (.int a)],[],0⟩=qg (m+1) a:=
 tq (g:=fun J=>cond (a==1) (jj J 0 5 0 (afr a (a==1)) (e60 J m afp [])) (cond (a==2) (jj J 0 5 0 (afr a (a==2)) (e60 J m afp [])) (jj J 0 5 0 (afr a (a==3)) (e60 J m afp [])))) (by simp only[aM,Ku m];rfl)
def e67(J:Q1)(m:Nat):=evAt Tryz.prog env (ct m) J (m+1) 208 28 Tryz.f208 d5
theorem PL m a:e67 jn m [] [] ⟨[.dat 26 a],[],0⟩=qh (m+1) a:=
 tq (g:=fun J=>cond (I a 0==0) (cond (I a 1==0) (bif (S a 2).toList==[]then cond (((L a 3).length:Int)==0) (some (((L a 4).length:Int)==0)) (some false)else some false) (some false)) (some false)) (by rfl)
def afs:List Nat:=[1,0,1,0,1]
def Fu:List Nat:=[1,0,1,0,1,1,1]
def aft:List Nat:=Fu++[1,1]
def afu:List Nat:=aft++[1,1]
def LY:List Nat:=afu++[1,1]
def e69(J:Q2)(m:Nat):=evAt Tryz.prog env (ct m) J (m+1) 205 35 Tryz.f205 d39
def LZ(a:Int)(b:Bool):St:=⟨tsOf [(3,.dat 3 (.int a)),(23,.dat 4 (.bool b))],[],0⟩
def ala(a:Int)(b:Bool):St:=⟨tsOf [(3,.dat 3 (.int a)),(20,.dat 4 (.bool b))],[],0⟩
def alb(a:Int)(b:Bool):St:=⟨tsOf [(3,.dat 3 (.int a)),(17,.dat 4 (.bool b))],[],0⟩
def IL(a:Int)(b:Bool):St:=⟨tsOf [(3,.dat 3 (.int a)),(8,.dat 4 (.bool b))],[],0⟩
def afv(a:Int)(b:Bool):St:=⟨tsOf [(3,.dat 3 (.int a)),(4,.dat 4 (.bool b))],[],0⟩
theorem Kv m a b:e69 jn m LY [] (LZ a b)=jF m a b:=
 tq (g:=fun J=>cond b (some 5) (cond (a==35) (some 6) (cond (a==34) (some 7) (some 2)))) (by rfl)
theorem Kw m a b:e69 jn m afu [] (ala a b)=zy m a b:=
 tq (g:=fun J=>cond b (some 4) (cond (a==4) (jj J 0 28 0 (LZ a (a==4)) (e69 J m LY [])) (cond (a==6) (jj J 0 28 0 (LZ a (a==6)) (e69 J m LY [])) (cond (a==16) (jj J 0 28 0 (LZ a (a==16)) (e69 J m LY [])) (cond (a==17) (jj J 0 28 0 (LZ a (a==17)) (e69 J m LY [])) (cond (a==21) (jj J 0 28 0 (LZ a (a==21)) (e69 J m LY [])) (cond (a==29) (jj J 0 28 0 (LZ a (a==29)) (e69 J m LY [])) (jj J 0 28 0 (LZ a (a==37)) (e69 J m LY []))))))))) (by simp only[aM,Kv m];rfl)
theorem Ky m a b:e69 jn m aft [] (alb a b)=zA m a b:=
 tq (g:=fun J=>cond b (some 3) (cond (a==19) (jj J 0 20 0 (ala a (a==19)) (e69 J m afu [])) (jj J 0 20 0 (ala a (a==25)) (e69 J m afu [])))) (by simp only[aM,Kw m];rfl)
theorem Kz m a b:e69 jn m Fu [] (IL a b)=iQ m a b:=
 tq (g:=fun J=>cond b (some 1) (cond (a==32) (jj J 0 17 0 (alb a (a==32)) (e69 J m aft [])) (jj J 0 17 0 (alb a (a==33)) (e69 J m aft [])))) (by simp only[aM,Ky m];rfl)
theorem KA m a b:e69 jn m afs [] (afv a b)=uS m a b:=
 tq (g:=fun J=>cond b (some 0) (cond (a==18) (jj J 0 14 0 (IL a (a==18)) (e69 J m Fu [])) (cond (a==22) (jj J 0 14 0 (IL a (a==22)) (e69 J m Fu [])) (cond (a==23) (jj J 0 14 0 (IL a (a==23)) (e69 J m Fu [])) (cond (a==24) (jj J 0 14 0 (IL a (a==24)) (e69 J m Fu [])) (cond (a==26) (jj J 0 14 0 (IL a (a==26)) (e69 J m Fu [])) (cond (a==30) (jj J 0 14 0 (IL a (a==30)) (e69 J m Fu [])) (cond (a==31) (jj J 0 14 0 (IL a (a==31)) (e69 J m Fu [])) (jj J 0 14 0 (IL a (a==36)) (e69 J m Fu [])))))))))) (by simp only[aM,Kz m];rfl)
theorem R9 m a:e69 jn m [] [] ⟨[.dat 3 (.int a)],[],0⟩=qj (m+1) a:=
 tq (g:=fun J=>cond (a==1) (jj J 0 5 0 (afv a (a==1)) (e69 J m afs [])) (cond (a==2) (jj J 0 5 0 (afv a (a==2)) (e69 J m afs [])) (jj J 0 5 0 (afv a (a==3)) (e69 J m afs [])))) (by simp only[aM,KA m];rfl)
def alc:List Nat:=[1,0,1,0,1,1,1,1,1]
def e70(J:Q1)(m:Nat):=evAt Tryz.prog env (ct m) J (m+1) 204 27 Tryz.f204 d5
def ald(a b:Int)(c:Bool):St:=⟨tsOf [(1,.dat 3 (.int a)),(5,.dat 3 (.int b)),(14,.dat 4 (.bool c))],[],0⟩
theorem Ga m a b c:e70 jn m alc [] (ald a b c)=vP m a b c:=
 tq (g:=fun J=>cond c (some (a==2)) (cond (b==4) (some (a==3)) (cond (b==7) (some (decide (1<=a))) (some true)))) (by rfl)
theorem Mj m a b:e70 jn m [] [] ⟨[.dat 3 (.int a),.dat 3 (.int b)],[],0⟩=qK (m+1) a b:=
 tq (g:=fun J=>cond (a==0) (some (b==0)) (cond (a==1) (some (b==1)) (cond (a==2) (jj J 0 8 0 (ald b a (a==2)) (e70 J m alc [])) (jj J 0 8 0 (ald b a (a==3)) (e70 J m alc []))))) (by simp only[aM,Ga m];rfl)
def au8:List Nat:=[1,1,0,1,0,1,0,1]
def ale:List Nat:=au8++[0]
def au9:List Nat:=[1,1,0,1,0,1,1,1,0,1,0,1]
def aaw:List Nat:=au9++[0]
def ava:List Nat:=aaw++[0,1,1]
def alf:List Nat:=ava++[1]
def e71(J:Q0)(m:Nat):=evAt Tryz.prog env (ct m) J (m+1) 159 63 Tryz.f159 d20
def l71(J:Q0)(m:Nat):=loopAt Tryz.prog env (ct m) J (m+1) 159 63 Tryz.f159 d20
def alg(a b:List Dt)(c d:Int)(e:Dt):St:=⟨tsOf [(1,.dat 22 (.lst a)),(4,.ptr 0 [] 0),(20,.dat 24 (.lst b)),(21,.dat 3 (.int c)),(22,.dat 3 (.int d))],[.box 26 (.dat 26 e)],0⟩
def PN(a b:List Dt)(c d:Int)(e:Dt)(f g:Int)(h:ByteArray)(i j:List Dt):St:=⟨tsOf [(1,.dat 22 (.lst a)),(4,.ptr 0 [] 0),(7,.ptr 1 [] 0),(42,.dat 23 (.lst b)),(43,.dat 3 (.int c)),(44,.dat 3 (.int d))],[.box 26 (.dat 26 e),.box 26 (.agg 26 [.dat 3 (.int f),.dat 3 (.int g),.dat 9 (.str h),.row 2,.row 3]),.row 23 i,.row 24 j],0⟩
theorem xA m:∀b a d e c f,l71 jn m ale [] b (alg a d e c f)=ou m (bZ m) b a d e c f
 |0,_,_,_,_,_=>rfl
 |b+1,a,d,e,c,f=>
  tl (g:=fun J=>cond (c<e) ((idx d c).bind fun h=>(idx a 0).bind fun i=>cond ((S h 0).toList==(toStr i).toList) ((cutL a 1 (a.length:Int)).bind fun j=>(bZ m (fld h 1) j).bind fun k=>some k) (jj J 1 6 b (alg a d e (wrap .i64 (c+1)) f) (l71 J m ale [] b))) (some aj)) (by simp only[aM,(xA m b)];rfl)
abbrev avb(m l:Nat)(a:Q59):Prop:=∀b c d e f g h i j k,l71 jn m aaw [] l (PN b c d e f g h i j k)=a b c d e f g h i j k
theorem Gb m b a(o:avb m b a) c d e f h i j k l n:e71 jn m alf [b] (PN c d e f h i j k l n)=jh m (bZ m) a c d e f h i j k l n:=
 tq (g:=fun J=>jj J 1 14 b (PN c d e (wrap .i64 (f+1)) h i j k l n) (l71 J m aaw [] b)) (by simp only[aM,o];rfl)
theorem xB m:∀a c d e b l f h i j k,l71 jn m aaw [] a (PN c d e b l f h i j k)=jo m (bZ m) a c d e b l f h i j k
 |0,_,_,_,_,_,_,_,_,_,_=>rfl
 |a+1,c,d,e,b,l,f,h,i,j,k=>
  tl (g:=fun J=>cond (b<e) ((idx d b).bind fun o=>(bZ m o c).bind fun n=>cond (I n 0 !=0) ((app j [n]).bind fun p=>jj J 0 19 0 (PN c d e b l f h i p k) (e71 J m alf [a])) (jj J 0 19 0 (PN c d e b l f h i j k) (e71 J m alf [a]))) (some (agg [int f,int h,str i,lst j,lst k]))) (by simp only[aM,Gb m a (jo m (bZ m) a) (xB m a)];rfl)
theorem Mk m a b:e71 jn m [] [] ⟨[.dat 26 a,.dat 22 (.lst b)],[],0⟩=bZ (m+1) a b:=
 tq (g:=fun J=>cond ((b.length:Int)==0) (some a) (cond (I a 0==5) (jj J 1 6 (succ m) (alg b (L a 4) ((L a 4).length:Int) 0 aj) (l71 J m ale [] (succ m))) (cond (I a 0==6) (jj J 1 14 (succ m) (PN b (L a 3) ((L a 3).length:Int) 0 aj 6 0 (ByteArray.mk (List.toArray [])) [] []) (l71 J m aaw [] (succ m))) (some aj)))) (by simp only[aM,xA m,xB m];rfl)
def e78(J:Q0)(m:Nat):=evAt Tryz.prog env (ct m) J (m+1) 166 5 Tryz.f166 d20
theorem vT m a:e78 jn m [] [] ⟨[.dat 3 (.int a)],[],0⟩=bU (m+1) a:=
 tq (g:=fun J=>some (agg [int 3,int a,str (ByteArray.mk (List.toArray [])),lst [],lst []])) (by rfl)
def e85(J:Q0)(m:Nat):=evAt Tryz.prog env (ct m) J (m+1) 172 8 Tryz.f172 d20
theorem Sb m a:e85 jn m [] [] ⟨[.dat 26 a],[],0⟩=nV (m+1) a:=
 tq (g:=fun J=>cond (I a 0==0) ((cK m).bind fun b=>some b) (some a)) (by rfl)
def e86(J:Q1)(m:Nat):=evAt Tryz.prog env (ct m) J (m+1) 173 27 Tryz.f173 d5
theorem Sc m a:e86 jn m [] [] ⟨[.dat 26 a],[],0⟩=gB (m+1) a:=
 tq (g:=fun J=>cond (2<I a 0) (cond (I a 0==9) (cond (!I a 1==0) (some true) (some (I a 0==1))) (cond (I a 0==3) (cond (!I a 1==0) (some true) (some (I a 0==1))) (some true))) (some (I a 0==1))) (by rfl)
def e89(J:Q0)(m:Nat):=evAt Tryz.prog env (ct m) J (m+1) 176 6 Tryz.f176 d20
theorem KC m a:e89 jn m [] [] ⟨[.dat 4 (.bool a)],[],0⟩=bW (m+1) a:=
 tq (g:=fun J=>cond a (some M8) (some M7)) (by rfl)
def e88(J:Q0)(m:Nat):=evAt Tryz.prog env (ct m) J (m+1) 175 26 Tryz.f175 d20
def l88(J:Q0)(m:Nat):=loopAt Tryz.prog env (ct m) J (m+1) 175 26 Tryz.f175 d20
def alh(a:Int)(b:List Dt)(c:Int)(d:Dt):St:=⟨tsOf [(0,.dat 3 (.int a)),(1,.dat 23 (.lst b)),(4,.ptr 0 [] 0),(5,.dat 3 (.int c))],[.box 26 (.dat 26 d)],0⟩
theorem yO m:∀b a c d e,l88 jn m [1,0,1,0] [] b (alh a c d e)=ql m b a c d e
 |0,_,_,_,_=>rfl
 |b+1,a,c,d,e=>
  tl (g:=fun J=>bif d<(c.length:Int)then(idx c d).bind fun f=>(gB m f).bind fun h=>cond (h==(a==17)) ((bW m (a==17)).bind fun i=>some i) (jj J 1 2 b (alh a c (wrap .i64 (d+1)) e) (l88 J m [1,0,1,0] [] b))else(bW m (a==16)).bind fun j=>some j) (by simp only[aM,(yO m b)];rfl)
theorem PO m a b:e88 jn m [] [] ⟨[.dat 3 (.int a),.dat 23 (.lst b)],[],0⟩=nL (m+1) a b:=
 tq (g:=fun J=>jj J 1 2 (succ m) (alh a b 0 aj) (l88 J m [1,0,1,0] [] (succ m))) (by simp only[aM,yO m];rfl)
def e91(J:Q0)(m:Nat):=evAt Tryz.prog env (ct m) J (m+1) 178 5 Tryz.f178 d20
theorem Xv m a:e91 jn m [] [] ⟨[.dat 3 (.int a)],[],0⟩=dX (m+1) a:=
 tq (g:=fun J=>some (agg [int 3,int a,str (ByteArray.mk (List.toArray [])),lst [],lst []])) (by rfl)
def afw:List Nat:=[1,1,0,1,0]
def apQ:List Nat:=[1,1,0,1,0,0,1]
def aax:List Nat:=apQ++[0,0,1,1]
def ali:List Nat:=aax++[1]
def afx:List Nat:=apQ++[0,0,1,0,1]
def afy:List Nat:=aax++[0,1]
def e92(J:Q87)(m:Nat):=evAt Tryz.prog env (ct m) J (m+1) 180 46 Tryz.f180 d92
def l92(J:Q87)(m:Nat):=loopAt Tryz.prog env (ct m) J (m+1) 180 46 Tryz.f180 d92
def afz(a:ByteArray)(b:Bool)(c:ByteArray)(d:Int):St:=⟨tsOf [(0,.dat 9 (.str a)),(1,.dat 4 (.bool b)),(5,.dat 9 (.str c)),(6,.dat 3 (.int d))],[],0⟩
def U5(a:ByteArray)(b:Bool)(c:ByteArray)(d e:Int):St:=⟨tsOf [(0,.dat 9 (.str a)),(1,.dat 4 (.bool b)),(5,.dat 9 (.str c)),(6,.dat 3 (.int d)),(7,.dat 5 (.int e))],[],0⟩
def afA(a:ByteArray)(b:Bool)(c:ByteArray)(d e:Int)(f:Bool):St:=⟨tsOf [(0,.dat 9 (.str a)),(1,.dat 4 (.bool b)),(5,.dat 9 (.str c)),(6,.dat 3 (.int d)),(7,.dat 5 (.int e)),(37,.dat 4 (.bool f))],[],0⟩
def afB(a:ByteArray)(b:Bool)(c:ByteArray)(d e:Int)(f:Bool):St:=⟨tsOf [(0,.dat 9 (.str a)),(1,.dat 4 (.bool b)),(5,.dat 9 (.str c)),(6,.dat 3 (.int d)),(7,.dat 5 (.int e)),(25,.dat 4 (.bool f))],[],0⟩
abbrev afC(m f:Nat)(a:Q37):Prop:=∀b c d e,l92 jn m afw [] f (afz b c d e)=a b c d e
theorem EF m b a(i:afC m b a) e f c h d:e92 jn m ali [b] (U5 e f c h d)=mR m a e f c h d:=
 tq (g:=fun J=>cond (Nat.ble (c.size+(strOfNums [d]).size) 1152921504606846976) (jj J 1 3 b (afz e f (c++strOfNums [d]) (wrap .i64 (h+1))) (l92 J m afw [] b)) none) (by simp only[aM,i];rfl)
theorem EG m b a(j:afC m b a) c d e f h i:e92 jn m afy [b] (afA c d e f h i)=gF m a c d e f h i:=
 tq (g:=fun J=>cond i (jj J 0 10 0 (U5 c d e f (wrap IntKind.u8 (h+32))) (e92 J m ali [b])) (jj J 0 10 0 (U5 c d e f h) (e92 J m ali [b]))) (by simp only[aM,EF m b a j];rfl)
theorem EH m c a(i:afC m c a) e d f h b:e92 jn m aax [c] (U5 e d f h b)=iF m a e d f h b:=
 tq (g:=fun J=>cond (!d) (cond (65<=b) (jj J 0 9 0 (afA e d f h b (decide (b<=90))) (e92 J m afy [c])) (jj J 0 9 0 (afA e d f h b false) (e92 J m afy [c]))) (jj J 0 9 0 (afA e d f h b false) (e92 J m afy [c]))) (by simp only[aM,EG m c a i];rfl)
theorem EI m b a(j:afC m b a) c d e f h i:e92 jn m afx [b] (afB c d e f h i)=gG m a c d e f h i:=
 tq (g:=fun J=>cond i (jj J 0 8 0 (U5 c d e f (wrap IntKind.u8 (h-32))) (e92 J m aax [b])) (jj J 0 8 0 (U5 c d e f h) (e92 J m aax [b]))) (by simp only[aM,EH m b a j];rfl)
theorem wu m:∀a b d e c,l92 jn m afw [] a (afz b d e c)=jP m a b d e c
 |0,_,_,_,_=>rfl
 |a+1,b,d,e,c=>
  tl (g:=fun J=>bif c<(b.size:Int)then(idxS b c).bind fun f=>cond d (cond (97<=f) (jj J 0 7 0 (afB b d e c f (decide (f<=122))) (e92 J m afx [a])) (jj J 0 7 0 (afB b d e c f false) (e92 J m afx [a]))) (jj J 0 7 0 (afB b d e c f false) (e92 J m afx [a]))else some e) (by simp only[aM,EI m a (jP m a) (wu m a)];rfl)
theorem KD m a b:e92 jn m [] [] ⟨[.dat 9 (.str a),.dat 4 (.bool b)],[],0⟩=gL (m+1) a b:=
 tq (g:=fun J=>jj J 1 3 (succ m) (afz a b (ByteArray.mk (List.toArray [])) 0) (l92 J m afw [] (succ m))) (by simp only[aM,wu m];rfl)
def e93(J:Q0)(m:Nat):=evAt Tryz.prog env (ct m) J (m+1) 179 5 Tryz.f179 d20
theorem Sd m a:e93 jn m [] [] ⟨[.dat 9 (.str a)],[],0⟩=jY (m+1) a:=
 tq (g:=fun J=>some (agg [int 4,int 0,str a,lst [],lst []])) (by rfl)
def alj:List Nat:=[1,1,1,1,1,1]
def e94(J:Q0)(m:Nat):=evAt Tryz.prog env (ct m) J (m+1) 181 65 Tryz.f181 d20
def alk(a b:Int)(c d:Dt):St:=⟨tsOf [(3,.ptr 0 [] 0),(6,.ptr 1 [] 0),(7,.dat 3 (.int a)),(8,.dat 3 (.int b))],[.box 26 (.dat 26 c),.box 26 (.dat 26 d)],0⟩
def alm(a:Int)(b c d:Dt):St:=⟨tsOf [(3,.ptr 0 [] 0),(5,.ptr 1 [] 0),(6,.ptr 2 [] 0),(7,.dat 3 (.int a))],[.box 26 (.dat 26 b),.box 26 (.dat 26 c),.box 26 (.dat 26 d)],0⟩
def U6(a:Bool)(b c d e:Dt):St:=⟨tsOf [(3,.ptr 0 [] 0),(4,.ptr 1 [] 0),(5,.ptr 2 [] 0),(6,.ptr 3 [] 0),(31,.dat 4 (.bool a))],[.box 26 (.dat 26 b),.box 26 (.dat 26 c),.box 26 (.dat 26 d),.box 26 (.dat 26 e)],0⟩
theorem IQ m a b c d:e94 jn m alj [] (alk a b c d)=qm m a b c d:=
 tq (g:=fun J=>(cutS (S c 2) a (wrap .i64 (a+b))).bind fun e=>(jY m e).bind fun f=>some f) (by rfl)
theorem IU m a b c d:e94 jn m [1,1,1,1] [] (alm a b c d)=qo m a b c d:=
 tq (g:=fun J=>cond (wrap .i64 (((S b 2).size:Int)-a)<I c 1) (jj J 0 9 0 (alk a (wrap .i64 (((S b 2).size:Int)-a)) b d) (e94 J m alj [])) (jj J 0 9 0 (alk a (I c 1) b d) (e94 J m alj []))) (by simp only[aM,IQ m];rfl)
theorem IV m e a b c d:e94 jn m [1,0,1] [] (U6 e a b c d)=jZ m e a b c d:=
 tq (g:=fun J=>cond e ((cK m).bind fun f=>some f) (cond (((S a 2).size:Int)<I b 1) (jj J 0 6 0 (alm ((S a 2).size:Int) a c d) (e94 J m [1,1,1,1] [])) (jj J 0 6 0 (alm (I b 1) a c d) (e94 J m [1,1,1,1] [])))) (by simp only[aM,IU m];rfl)
theorem PS m c a b:e94 jn m [] [] ⟨[.dat 26 c,.dat 26 a,.dat 26 b],[],0⟩=nM (m+1) c a b:=
 tq (g:=fun J=>cond (I c 0 !=4) (jj J 0 2 0 (U6 true c a b aj) (e94 J m [1,0,1] [])) (cond (I a 0 !=3) (jj J 0 2 0 (U6 true c a b aj) (e94 J m [1,0,1] [])) (cond (I b 0 !=3) (jj J 0 2 0 (U6 true c a b aj) (e94 J m [1,0,1] [])) (cond (I a 1<0) (jj J 0 2 0 (U6 true c a b aj) (e94 J m [1,0,1] [])) (jj J 0 2 0 (U6 (decide (I b 1<0)) c a b aj) (e94 J m [1,0,1] [])))))) (by simp only[aM,IV m];rfl)
def avc:List Nat:=[1,1,1,1,1,0,1]
def afD:List Nat:=avc++[0]
def e95(J:Q0)(m:Nat):=evAt Tryz.prog env (ct m) J (m+1) 182 61 Tryz.f182 d20
def l95(J:Q0)(m:Nat):=loopAt Tryz.prog env (ct m) J (m+1) 182 61 Tryz.f182 d20
def afE(a b c:Int)(d e:Dt)(f g:Int)(h:ByteArray)(i j:List Dt):St:=⟨tsOf [(0,.dat 3 (.int a)),(3,.ptr 0 [] 0),(4,.ptr 1 [] 0),(5,.ptr 2 [] 0),(6,.dat 3 (.int b)),(7,.dat 3 (.int c))],[.box 26 (.dat 26 d),.box 26 (.dat 26 e),.box 26 (.agg 26 [.dat 3 (.int f),.dat 3 (.int g),.dat 9 (.str h),.row 3,.row 4]),.row 23 i,.row 24 j],0⟩
theorem Ap m:∀c d e b a k f h i l j,l95 jn m afD [] c (afE d e b a k f h i l j)=o9 m c d e b a k f h i l j
 |0,_,_,_,_,_,_,_,_,_,_=>rfl
 |c+1,d,e,b,a,k,f,h,i,l,j=>
  tl (g:=fun J=>bif b<((L a 3).length:Int)then(idx (L a 3) (wrap .i64 (wrap .i64 (((L a 3).length:Int)-1)-b))).bind fun o=>(app l [o]).bind fun n=>(idx (L a 3) b).bind fun p=>cond (I p 0==3) ((idx (L a 3) b).bind fun q=>jj J 1 8 c (afE d (wrap .i64 (e+I q 1)) (wrap .i64 (b+1)) a k f h i n j) (l95 J m afD [] c)) (jj J 1 8 c (afE d e (wrap .i64 (b+1)) a k f h i n j) (l95 J m afD [] c))else cond (d==31) ((dX m e).bind fun r=>some r) (some (agg [int f,int h,str i,lst l,lst j]))) (by simp only[aM,(Ap m c)];rfl)
theorem Sg m b a:e95 jn m [] [] ⟨[.dat 3 (.int b),.dat 26 a],[],0⟩=lZ (m+1) b a:=
 tq (g:=fun J=>cond (I a 0 !=6) ((cK m).bind fun c=>some c) (cond (b==26) ((dX m ((L a 3).length:Int)).bind fun d=>some d) (jj J 1 8 (succ m) (afE b 0 0 a aj 6 0 (ByteArray.mk (List.toArray [])) [] []) (l95 J m afD [] (succ m))))) (by simp only[aM,Ap m];rfl)
def aln:List Nat:=[1,1,1,1,0,1]
def e96(J:Q0)(m:Nat):=evAt Tryz.prog env (ct m) J (m+1) 183 39 Tryz.f183 d20
def alo(a:Int)(b c:Dt):St:=⟨tsOf [(2,.ptr 0 [] 0),(4,.ptr 1 [] 0),(5,.dat 3 (.int a))],[.box 26 (.dat 26 b),.box 26 (.dat 26 c)],0⟩
def alp(a:Int)(b:Bool)(c d:Dt):St:=⟨tsOf [(2,.ptr 0 [] 0),(4,.ptr 1 [] 0),(5,.dat 3 (.int a)),(32,.dat 4 (.bool b))],[.box 26 (.dat 26 c),.box 26 (.dat 26 d)],0⟩
def alq(a:Bool)(b c d:Dt):St:=⟨tsOf [(2,.ptr 0 [] 0),(3,.ptr 1 [] 0),(4,.ptr 2 [] 0),(13,.dat 4 (.bool a))],[.box 26 (.dat 26 b),.box 26 (.dat 26 c),.box 26 (.dat 26 d)],0⟩
theorem EJ m a b c d:e96 jn m aln [] (alp a b c d)=qL m a b c d:=
 tq (g:=fun J=>cond b (some aj) ((idx (L c 3) a).bind fun e=>some e)) (by rfl)
theorem EK m a b c:e96 jn m [1,1,1,1] [] (alo a b c)=mU m a b c:=
 tq (g:=fun J=>cond (a<0) (jj J 0 7 0 (alp a true b c) (e96 J m aln [])) (jj J 0 7 0 (alp a (decide (((L b 3).length:Int)<=a)) b c) (e96 J m aln []))) (by simp only[aM,EJ m];rfl)
theorem EL m d a b c:e96 jn m [1,0,1] [] (alq d a b c)=qM m d a b c:=
 tq (g:=fun J=>cond d ((cK m).bind fun e=>some e) (cond (I b 1<0) (jj J 0 6 0 (alo (wrap .i64 (I b 1+((L a 3).length:Int))) a c) (e96 J m [1,1,1,1] [])) (jj J 0 6 0 (alo (I b 1) a c) (e96 J m [1,1,1,1] [])))) (by simp only[aM,EK m];rfl)
theorem KE m a b:e96 jn m [] [] ⟨[.dat 26 a,.dat 26 b],[],0⟩=jG (m+1) a b:=
 tq (g:=fun J=>cond (I a 0 !=6) (jj J 0 2 0 (alq true a b aj) (e96 J m [1,0,1] [])) (jj J 0 2 0 (alq (I b 0 !=3) a b aj) (e96 J m [1,0,1] []))) (by simp only[aM,EL m];rfl)
def e100(J:Q0)(m:Nat):=evAt Tryz.prog env (ct m) J (m+1) 187 44 Tryz.f187 d20
theorem KF m a c d:e100 jn m [] [] ⟨[.dat 3 (.int a),.dat 26 c,.dat 26 d],[],0⟩=dZ (m+1) a c d:=
 tq (g:=fun J=>(bF m c d).bind fun b=>cond (a==10) ((bW m (b==0)).bind fun e=>some e) (cond (a==11) ((bW m (b !=0)).bind fun f=>some f) (cond (a==12) ((bW m (decide (0<b))).bind fun h=>some h) (cond (a==13) ((bW m (decide (0<=b))).bind fun i=>some i) (cond (a==14) ((bW m (decide (b<0))).bind fun j=>some j) (cond (a==15) ((bW m (decide (b<=0))).bind fun k=>some k) ((dX m b).bind fun l=>some l))))))) (by rfl)
def arL:List Nat:=[1,1,0,1,0,1]
def acT:List Nat:=arL++[0]
def arM:List Nat:=[1,1,1,0,1,0,1]
def acU:List Nat:=arM++[0]
def aow(J:Q13)(m:Nat):=evAt Tryz.prog env (ct m) J (m+1) 133 44 Tryz.f133 Xn
def ahv(J:Q13)(m:Nat):=loopAt Tryz.prog env (ct m) J (m+1) 133 44 Tryz.f133 Xn
def acV(a:Int)(b:Dt)(c:List Dt):St:=⟨tsOf [(1,.ptr 0 [] 0),(3,.row 1),(4,.dat 3 (.int a))],[.box 26 (.dat 26 b),.row 23 c],0⟩
def acW(a:Int)(b:Dt)(c:List Dt):St:=⟨tsOf [(1,.ptr 0 [] 0),(3,.row 1),(5,.dat 3 (.int a))],[.box 26 (.dat 26 b),.row 23 c],0⟩
def acX(a:Dt)(b:List Dt):St:=⟨tsOf [(1,.ptr 0 [] 0),(3,.row 1)],[.box 26 (.dat 26 a),.row 23 b],0⟩
theorem yP m:∀a b c d,ahv jn m acU [] a (acW b c d)=mV m a b c d
 |0,_,_,_=>rfl
 |a+1,b,c,d=>
  tl (g:=fun J=>bif b<((L c 4).length:Int)then(idx (L c 4) b).bind fun e=>(app d [fld e 1]).bind fun f=>jj J 1 9 a (acW (wrap .i64 (b+1)) c f) (ahv J m acU [] a)else some d) (by simp only[aM,(yP m a)];rfl)
theorem yQ m a b:aow jn m [1,1,1] [] (acX a b)=mW m a b:=
 tq (g:=fun J=>cond (I a 0==5) (jj J 1 9 (succ m) (acW 0 a b) (ahv J m acU [] (succ m))) (some b)) (by simp only[aM,yP m];rfl)
theorem yR m:∀b c a d,ahv jn m acT [] b (acV c a d)=mX m b c a d
 |0,_,_,_=>rfl
 |b+1,c,a,d=>
  tl (g:=fun J=>bif c<((L a 3).length:Int)then(idx (L a 3) c).bind fun e=>(app d [e]).bind fun f=>jj J 1 4 b (acV (wrap .i64 (c+1)) a f) (ahv J m acT [] b)else jj J 0 7 0 (acX a d) (aow J m [1,1,1] [])) (by simp only[aM,(yR m b),yQ m];rfl)
theorem PU m a:aow jn m [] [] ⟨[.dat 26 a],[],0⟩=kW (m+1) a:=
 tq (g:=fun J=>cond (I a 0==6) (jj J 1 4 (succ m) (acV 0 a []) (ahv J m acT [] (succ m))) (jj J 0 7 0 (acX a []) (aow J m [1,1,1] []))) (by simp only[aM,yR m,yQ m];rfl)
def avd:List Nat:=[1,1,1,1,0,1]
def alr:List Nat:=avd++[0]
def e61(J:Q2)(m:Nat):=evAt Tryz.prog env (ct m) J (m+1) 92 34 Tryz.f92 d39
def l61(J:Q2)(m:Nat):=loopAt Tryz.prog env (ct m) J (m+1) 92 34 Tryz.f92 d39
def als(a:Int)(b:List Dt)(c d:Int):St:=⟨tsOf [(1,.dat 3 (.int a)),(5,.dat 23 (.lst b)),(6,.dat 3 (.int c)),(7,.dat 3 (.int d))],[],0⟩
def alu(a:Int)(b:List Dt)(c:Bool):St:=⟨tsOf [(1,.dat 3 (.int a)),(5,.dat 23 (.lst b)),(16,.dat 4 (.bool c))],[],0⟩
theorem xC m:∀a e b c d,l61 jn m alr [] a (als e b c d)=kM m (eP m) a e b c d
 |0,_,_,_,_=>rfl
 |a+1,e,b,c,d=>
  tl (g:=fun J=>bif d<(b.length:Int)then(idx b d).bind fun h=>(eP m h (wrap .i64 (e-1))).bind fun f=>jj J 1 6 a (als e b (cond (c<f) f c) (wrap .i64 (d+1))) (l61 J m alr [] a)else some (wrap .i64 (c+1))) (by simp only[aM,(xC m a)];rfl)
theorem Gc m a b c:e61 jn m [1,1,0,1] [] (alu a b c)=iq m (eP m) a b c:=
 tq (g:=fun J=>cond c (some 1) (jj J 1 6 (succ m) (als a b 0 0) (l61 J m alr [] (succ m)))) (by simp only[aM,xC m];rfl)
theorem Ml m b a:e61 jn m [] [] ⟨[.dat 26 b,.dat 3 (.int a)],[],0⟩=eP (m+1) b a:=
 tq (g:=fun J=>(kW m b).bind fun c=>cond (a<2) (jj J 0 3 0 (alu a c true) (e61 J m [1,1,0,1] [])) (jj J 0 3 0 (alu a c ((c.length:Int)==0)) (e61 J m [1,1,0,1] []))) (by simp only[aM,Gc m];rfl)
def e43(J:Q2)(m:Nat):=evAt Tryz.prog env (ct m) J (m+1) 54 5 Tryz.f54 d39
theorem PV m a:e43 jn m [] [] ⟨[.dat 26 a],[],0⟩=nN (m+1) a:=
 tq (g:=fun J=>(eP m a 17).bind fun b=>some b) (by rfl)
def alv:List Nat:=[1,1,1,0,1,0]
def e62(J:Q2)(m:Nat):=evAt Tryz.prog env (ct m) J (m+1) 93 32 Tryz.f93 d39
def l62(J:Q2)(m:Nat):=loopAt Tryz.prog env (ct m) J (m+1) 93 32 Tryz.f93 d39
def alx(a b:Int)(c:List Dt)(d:Int):St:=⟨tsOf [(1,.dat 3 (.int a)),(5,.dat 3 (.int b)),(6,.dat 23 (.lst c)),(7,.dat 3 (.int d))],[],0⟩
theorem yS m:∀b c a d e,l62 jn m alv [] b (alx c a d e)=qp m (iW m) b c a d e
 |0,_,_,_,_=>rfl
 |b+1,c,a,d,e=>
  tl (g:=fun J=>cond (e<(d.length:Int)) (cond (a<c) ((idx d e).bind fun f=>(iW m f (wrap .i64 (c-a))).bind fun h=>jj J 1 4 b (alx c (wrap .i64 (a+h)) d (wrap .i64 (e+1))) (l62 J m alv [] b)) (some a)) (some a)) (by simp only[aM,(yS m b)];rfl)
theorem PW m a b:e62 jn m [] [] ⟨[.dat 26 a,.dat 3 (.int b)],[],0⟩=iW (m+1) a b:=
 tq (g:=fun J=>(kW m a).bind fun c=>jj J 1 4 (succ m) (alx b 1 c 0) (l62 J m alv [] (succ m))) (by simp only[aM,yS m];rfl)
def e44(J:Q2)(m:Nat):=evAt Tryz.prog env (ct m) J (m+1) 55 5 Tryz.f55 d39
theorem PX m a:e44 jn m [] [] ⟨[.dat 26 a],[],0⟩=nO (m+1) a:=
 tq (g:=fun J=>(iW m a 1025).bind fun b=>some b) (by rfl)
def Xw:List Nat:=[1,1,0,1,0]
def arN:List Nat:=[1,1,0,1,0,0,1]
def acY:List Nat:=arN++[0,0,1]
def aox(J:Q1)(m:Nat):=evAt Tryz.prog env (ct m) J (m+1) 134 33 Tryz.f134 d5
def aoy(J:Q1)(m:Nat):=loopAt Tryz.prog env (ct m) J (m+1) 134 33 Tryz.f134 d5
def Xx(a:ByteArray)(b c d:Int):St:=⟨tsOf [(0,.dat 9 (.str a)),(1,.dat 3 (.int b)),(2,.dat 3 (.int c)),(7,.dat 3 (.int d))],[],0⟩
def acZ(a:ByteArray)(b c d:Int)(e:Bool):St:=⟨tsOf [(0,.dat 9 (.str a)),(1,.dat 3 (.int b)),(2,.dat 3 (.int c)),(7,.dat 3 (.int d)),(32,.dat 4 (.bool e))],[],0⟩
abbrev arO(m f:Nat)(a:Q45):Prop:=∀b c d e,aoy jn m Xw [] f (Xx b c d e)=a b c d e
theorem KG m b a(i:arO m b a) c d e f h:aox jn m acY [b] (acZ c d e f h)=pq m a c d e f h:=
 tq (g:=fun J=>cond h (some false) (jj J 1 4 b (Xx c d e (wrap .i64 (f+1))) (aoy J m Xw [] b))) (by simp only[aM,i];rfl)
theorem Aq m:∀a c d e b,aoy jn m Xw [] a (Xx c d e b)=pz m a c d e b
 |0,_,_,_,_=>rfl
 |a+1,c,d,e,b=>
  tl (g:=fun J=>cond (b<e) ((idxS c (wrap .i64 (d+b))).bind fun f=>cond (f<128) (jj J 0 7 0 (acZ c d e b true) (aox J m acY [a])) ((idxS c (wrap .i64 (d+b))).bind fun h=>jj J 0 7 0 (acZ c d e b (decide (191<h))) (aox J m acY [a]))) (some true)) (by simp only[aM,KG m a (pz m a) (Aq m a)];rfl)
theorem Si m a b c:aox jn m [] [] ⟨[.dat 9 (.str a),.dat 3 (.int b),.dat 3 (.int c)],[],0⟩=rY (m+1) a b c:=
 tq (g:=fun J=>cond ((a.size:Int)<wrap .i64 (b+c)) (some false) (jj J 1 4 (succ m) (Xx a b c 0) (aoy J m Xw [] (succ m)))) (by simp only[aM,Aq m];rfl)
def apR:List Nat:=[1,0,1,0,0,1]
def U7:List Nat:=apR++[0,1,1,1]
def ave:List Nat:=U7++[1]
def pY:List Nat:=ave++[0,1]
def afF:List Nat:=apR++[0,1,1,0,0,1,1,1]
def afG:List Nat:=afF++[1,1]
def aly:List Nat:=afG++[1,1]
def e63(J:Q1)(m:Nat):=evAt Tryz.prog env (ct m) J (m+1) 94 89 Tryz.f94 d5
def l63(J:Q1)(m:Nat):=loopAt Tryz.prog env (ct m) J (m+1) 94 89 Tryz.f94 d5
def p8(a:ByteArray)(b c:Int)(d:Bool):St:=⟨tsOf [(0,.dat 9 (.str a)),(3,.dat 3 (.int b)),(5,.dat 3 (.int c)),(84,.dat 4 (.bool d))],[],0⟩
def aay(a:ByteArray)(b c d:Int):St:=⟨tsOf [(0,.dat 9 (.str a)),(3,.dat 3 (.int b)),(4,.dat 5 (.int c)),(5,.dat 3 (.int d))],[],0⟩
def alz(a:ByteArray)(b c:Int)(d:Bool):St:=⟨tsOf [(0,.dat 9 (.str a)),(3,.dat 3 (.int b)),(4,.dat 5 (.int c)),(30,.dat 4 (.bool d))],[],0⟩
def alA(a:ByteArray)(b c:Int)(d:Bool):St:=⟨tsOf [(0,.dat 9 (.str a)),(3,.dat 3 (.int b)),(4,.dat 5 (.int c)),(23,.dat 4 (.bool d))],[],0⟩
def alB(a:ByteArray)(b c:Int)(d:Bool):St:=⟨tsOf [(0,.dat 9 (.str a)),(3,.dat 3 (.int b)),(4,.dat 5 (.int c)),(16,.dat 4 (.bool d))],[],0⟩
def afH(a:ByteArray)(b:Int):St:=⟨tsOf [(0,.dat 9 (.str a)),(3,.dat 3 (.int b))],[],0⟩
abbrev aaz(m d:Nat)(a:Q14):Prop:=∀b c,l63 jn m [1,0,1,0] [] d (afH b c)=a b c
theorem KH m b a(h:aaz m b a) c d e f:e63 jn m pY [b] (p8 c d e f)=bS m a c d e f:=
 tq (g:=fun J=>cond f (some false) (jj J 1 2 b (afH c (wrap .i64 (wrap .i64 (d+e)+1))) (l63 J m [1,0,1,0] [] b))) (by simp only[aM,h];rfl)
theorem qV m c f(p:aaz m c f) a b e d:e63 jn m U7 [c] (aay a b e d)=l8 m f a b e d:=
 tq (g:=fun J=>(rY m a (wrap .i64 (b+1)) d).bind fun q=>cond (!q) (some false) (cond (e==224) ((idxS a (wrap .i64 (b+1))).bind fun r=>cond (r<160) (jj J 0 16 0 (p8 a b d true) (e63 J m pY [c])) (cond (e==237) ((idxS a (wrap .i64 (b+1))).bind fun s=>cond (159<s) (jj J 0 16 0 (p8 a b d true) (e63 J m pY [c])) (cond (e==240) ((idxS a (wrap .i64 (b+1))).bind fun t=>cond (t<144) (jj J 0 16 0 (p8 a b d true) (e63 J m pY [c])) (cond (e==244) ((idxS a (wrap .i64 (b+1))).bind fun u=>jj J 0 16 0 (p8 a b d (decide (143<u))) (e63 J m pY [c])) (jj J 0 16 0 (p8 a b d false) (e63 J m pY [c])))) (cond (e==244) ((idxS a (wrap .i64 (b+1))).bind fun v=>jj J 0 16 0 (p8 a b d (decide (143<v))) (e63 J m pY [c])) (jj J 0 16 0 (p8 a b d false) (e63 J m pY [c]))))) (cond (e==240) ((idxS a (wrap .i64 (b+1))).bind fun w=>cond (w<144) (jj J 0 16 0 (p8 a b d true) (e63 J m pY [c])) (cond (e==244) ((idxS a (wrap .i64 (b+1))).bind fun x=>jj J 0 16 0 (p8 a b d (decide (143<x))) (e63 J m pY [c])) (jj J 0 16 0 (p8 a b d false) (e63 J m pY [c])))) (cond (e==244) ((idxS a (wrap .i64 (b+1))).bind fun y=>jj J 0 16 0 (p8 a b d (decide (143<y))) (e63 J m pY [c])) (jj J 0 16 0 (p8 a b d false) (e63 J m pY [c])))))) (cond (e==237) ((idxS a (wrap .i64 (b+1))).bind fun h=>cond (159<h) (jj J 0 16 0 (p8 a b d true) (e63 J m pY [c])) (cond (e==240) ((idxS a (wrap .i64 (b+1))).bind fun i=>cond (i<144) (jj J 0 16 0 (p8 a b d true) (e63 J m pY [c])) (cond (e==244) ((idxS a (wrap .i64 (b+1))).bind fun j=>jj J 0 16 0 (p8 a b d (decide (143<j))) (e63 J m pY [c])) (jj J 0 16 0 (p8 a b d false) (e63 J m pY [c])))) (cond (e==244) ((idxS a (wrap .i64 (b+1))).bind fun k=>jj J 0 16 0 (p8 a b d (decide (143<k))) (e63 J m pY [c])) (jj J 0 16 0 (p8 a b d false) (e63 J m pY [c]))))) (cond (e==240) ((idxS a (wrap .i64 (b+1))).bind fun l=>cond (l<144) (jj J 0 16 0 (p8 a b d true) (e63 J m pY [c])) (cond (e==244) ((idxS a (wrap .i64 (b+1))).bind fun n=>jj J 0 16 0 (p8 a b d (decide (143<n))) (e63 J m pY [c])) (jj J 0 16 0 (p8 a b d false) (e63 J m pY [c])))) (cond (e==244) ((idxS a (wrap .i64 (b+1))).bind fun o=>jj J 0 16 0 (p8 a b d (decide (143<o))) (e63 J m pY [c])) (jj J 0 16 0 (p8 a b d false) (e63 J m pY [c]))))))) (by simp only[aM,KH m c f p];rfl)
theorem KI m b a(h:aaz m b a) c d e f:e63 jn m aly [b] (alz c d e f)=uZ m a c d e f:=
 tq (g:=fun J=>cond f (jj J 0 13 0 (aay c d e 3) (e63 J m U7 [b])) (some false)) (by simp only[aM,qV m b a h];rfl)
theorem KJ m b a(h:aaz m b a) d e c f:e63 jn m afG [b] (alA d e c f)=u6 m a d e c f:=
 tq (g:=fun J=>cond f (jj J 0 13 0 (aay d e c 2) (e63 J m U7 [b])) (cond (240<=c) (jj J 0 12 0 (alz d e c (decide (c<=244))) (e63 J m aly [b])) (jj J 0 12 0 (alz d e c false) (e63 J m aly [b])))) (by simp only[aM,qV m b a h,KI m b a h];rfl)
theorem KL m b a(h:aaz m b a) d e c f:e63 jn m afF [b] (alB d e c f)=u7 m a d e c f:=
 tq (g:=fun J=>cond f (jj J 0 13 0 (aay d e c 1) (e63 J m U7 [b])) (cond (224<=c) (jj J 0 10 0 (alA d e c (decide (c<=239))) (e63 J m afG [b])) (jj J 0 10 0 (alA d e c false) (e63 J m afG [b])))) (by simp only[aM,qV m b a h,KJ m b a h];rfl)
theorem uN m:∀a b c,l63 jn m [1,0,1,0] [] a (afH b c)=jH m a b c
 |0,_,_=>rfl
 |a+1,b,c=>
  tl (g:=fun J=>bif c<(b.size:Int)then(idxS b c).bind fun d=>cond (d<128) (jj J 0 13 0 (aay b c d 0) (e63 J m U7 [a])) (cond (194<=d) (jj J 0 8 0 (alB b c d (decide (d<=223))) (e63 J m afF [a])) (jj J 0 8 0 (alB b c d false) (e63 J m afF [a])))else some true) (by simp only[aM,qV m a (jH m a) (uN m a),KL m a (jH m a) (uN m a)];rfl)
theorem Sj m a:e63 jn m [] [] ⟨[.dat 9 (.str a)],[],0⟩=rZ (m+1) a:=
 tq (g:=fun J=>jj J 1 2 (succ m) (afH a 0) (l63 J m [1,0,1,0] [] (succ m))) (by simp only[aM,uN m];rfl)
def Xy:List Nat:=[1,1,0,1,0]
def arP:List Nat:=[1,1,0,1,0,0,1]
def ac0:List Nat:=arP++[0,0,1]
def ac1(J:Q1)(m:Nat):=evAt Tryz.prog env (ct m) J (m+1) 135 28 Tryz.f135 d5
def aoz(J:Q1)(m:Nat):=loopAt Tryz.prog env (ct m) J (m+1) 135 28 Tryz.f135 d5
def Xz(a:ByteArray)(b:Int):St:=⟨tsOf [(0,.dat 9 (.str a)),(3,.dat 3 (.int b))],[],0⟩
def ac2(a:ByteArray)(b:Int)(c:Bool):St:=⟨tsOf [(0,.dat 9 (.str a)),(3,.dat 3 (.int b)),(27,.dat 4 (.bool c))],[],0⟩
def ac3(a:ByteArray)(b:Bool):St:=⟨tsOf [(0,.dat 9 (.str a)),(11,.dat 4 (.bool b))],[],0⟩
abbrev arQ(m d:Nat)(a:Q14):Prop:=∀b c,aoz jn m Xy [] d (Xz b c)=a b c
theorem KM m b a(f:arQ m b a) c d e:ac1 jn m ac0 [b] (ac2 c d e)=jI m a c d e:=
 tq (g:=fun J=>cond e (some false) (jj J 1 4 b (Xz c (wrap .i64 (d+1))) (aoz J m Xy [] b))) (by simp only[aM,f];rfl)
theorem Ar m:∀a b c,aoz jn m Xy [] a (Xz b c)=jJ m a b c
 |0,_,_=>rfl
 |a+1,b,c=>
  tl (g:=fun J=>bif c<(b.size:Int)then(idxS b c).bind fun d=>cond (d<32) (jj J 0 7 0 (ac2 b c true) (ac1 J m ac0 [a])) ((idxS b c).bind fun e=>jj J 0 7 0 (ac2 b c (decide (126<e))) (ac1 J m ac0 [a]))else some true) (by simp only[aM,KM m a (jJ m a) (Ar m a)];rfl)
theorem KN m a b:ac1 jn m [1,0,1] [] (ac3 a b)=jK m a b:=
 tq (g:=fun J=>cond b (some false) (jj J 1 4 (succ m) (Xz a 0) (aoz J m Xy [] (succ m)))) (by simp only[aM,Ar m];rfl)
theorem Sk m a:ac1 jn m [] [] ⟨[.dat 9 (.str a)],[],0⟩=nW (m+1) a:=
 tq (g:=fun J=>cond ((a.size:Int)<1) (jj J 0 2 0 (ac3 a true) (ac1 J m [1,0,1] [])) (jj J 0 2 0 (ac3 a (decide (128<(a.size:Int)))) (ac1 J m [1,0,1] []))) (by simp only[aM,KN m];rfl)
end Go.Proofs.YtmecfjhdnbgfeaaGreatDoor
noncomputable section
namespace Go.Proofs.YtmecfjhdnbgfeaaGreatDoor
open Nat (succ)
open IntKind (wrap)
open Go.Am Dt
set_option maxRecDepth 100000
def avf:List Nat:=[1,1,1,1,1,1]
def BK:List Nat:=[1,1,1,1,0,1]
def avg:List Nat:=avf++[0,1]
def alC:List Nat:=avg++[0]
def e45(J:Q1)(m:Nat):=evAt Tryz.prog env (ct m) J (m+1) 56 138 Tryz.f56 d5
def l45(J:Q1)(m:Nat):=loopAt Tryz.prog env (ct m) J (m+1) 56 138 Tryz.f56 d5
def ac4(a:Bool)(b:Int)(c:Dt):St:=⟨tsOf [(1,.dat 4 (.bool a)),(2,.ptr 0 [] 0),(7,.dat 3 (.int b))],[.box 26 (.dat 26 c)],0⟩
def BL(a b:Bool)(c:Dt):St:=⟨tsOf [(1,.dat 4 (.bool a)),(2,.ptr 0 [] 0),(79,.dat 4 (.bool b))],[.box 26 (.dat 26 c)],0⟩
def afI(a b c:Bool)(d:Dt):St:=⟨tsOf [(1,.dat 4 (.bool a)),(2,.ptr 0 [] 0),(5,.dat 4 (.bool b)),(6,.dat 4 (.bool c))],[.box 26 (.dat 26 d)],0⟩
def afJ(a b:Bool)(c:Dt):St:=⟨tsOf [(1,.dat 4 (.bool a)),(2,.ptr 0 [] 0),(5,.dat 4 (.bool b))],[.box 26 (.dat 26 c)],0⟩
def U8(a b:Bool)(c:Dt):St:=⟨tsOf [(1,.dat 4 (.bool a)),(2,.ptr 0 [] 0),(27,.dat 4 (.bool b))],[.box 26 (.dat 26 c)],0⟩
theorem xD m:∀b c d a,l45 jn m alC [] b (ac4 c d a)=ow m (bH m) (dD m) b c d a
 |0,_,_,_=>rfl
 |b+1,c,d,a=>
  tl (g:=fun J=>bif d<((L a 3).length:Int)then(idx (L a 3) d).bind fun e=>(bH m e c).bind fun f=>cond (!f) (some false) (jj J 1 19 b (ac4 c (wrap .i64 (d+1)) a) (l45 J m alC [] b))else(dD m a c).bind fun h=>some h) (by simp only[aM,(xD m b)];rfl)
theorem Gd m b c a:e45 jn m BK [] (BL b c a)=dL m (bH m) (dD m) b c a:=
 tq (g:=fun J=>cond c (some false) (cond (I a 0==9) (cond (I a 1==0) (some true) (some (I a 1==1))) (cond (I a 0==10) (some (decide (0<=I a 1))) (cond (I a 0==4) (cond (((S a 2).size:Int)<=4096) ((rZ m (S a 2)).bind fun d=>some d) (some false)) (cond (I a 0==7) (some (decide (((S a 2).size:Int)<=4096))) (cond (I a 0==8) (some (((S a 2).size:Int)==12)) (jj J 1 19 (succ m) (ac4 b 0 a) (l45 J m alC [] (succ m))))))))) (by simp only[aM,xD m];rfl)
theorem Gf m b d c a:e45 jn m [1,1,1,1] [] (afI b d c a)=jr m (bH m) (dD m) b d c a:=
 tq (g:=fun J=>cond (!d) (cond (!(S a 2).toList==[]) (jj J 0 6 0 (BL b true a) (e45 J m BK [])) (cond (!c) (cond (I a 1 !=0) (jj J 0 6 0 (BL b true a) (e45 J m BK [])) (cond (I a 0<1) (jj J 0 6 0 (BL b true a) (e45 J m BK [])) (jj J 0 6 0 (BL b (decide (11<I a 0)) a) (e45 J m BK [])))) (cond (I a 0<1) (jj J 0 6 0 (BL b true a) (e45 J m BK [])) (jj J 0 6 0 (BL b (decide (11<I a 0)) a) (e45 J m BK []))))) (cond (!c) (cond (I a 1 !=0) (jj J 0 6 0 (BL b true a) (e45 J m BK [])) (cond (I a 0<1) (jj J 0 6 0 (BL b true a) (e45 J m BK [])) (jj J 0 6 0 (BL b (decide (11<I a 0)) a) (e45 J m BK [])))) (cond (I a 0<1) (jj J 0 6 0 (BL b true a) (e45 J m BK [])) (jj J 0 6 0 (BL b (decide (11<I a 0)) a) (e45 J m BK []))))) (by simp only[aM,Gd m];rfl)
theorem Gg m b c a:e45 jn m [1,1,1] [] (afJ b c a)=jv m (bH m) (dD m) b c a:=
 tq (g:=fun J=>cond (I a 0==3) (jj J 0 5 0 (afI b c true a) (e45 J m [1,1,1,1] [])) (cond (I a 0==9) (jj J 0 5 0 (afI b c true a) (e45 J m [1,1,1,1] [])) (jj J 0 5 0 (afI b c (I a 0==10) a) (e45 J m [1,1,1,1] [])))) (by simp only[aM,Gf m];rfl)
theorem Gh m b c a:e45 jn m [1,0,1] [] (U8 b c a)=jw m (bH m) (dD m) b c a:=
 tq (g:=fun J=>cond c (some false) (cond (I a 0==4) (jj J 0 4 0 (afJ b true a) (e45 J m [1,1,1] [])) (cond (I a 0==7) (jj J 0 4 0 (afJ b true a) (e45 J m [1,1,1] [])) (jj J 0 4 0 (afJ b (I a 0==8) a) (e45 J m [1,1,1] []))))) (by simp only[aM,Gg m];rfl)
theorem Mq m a b:e45 jn m [] [] ⟨[.dat 26 a,.dat 4 (.bool b)],[],0⟩=bH (m+1) a b:=
 tq (g:=fun J=>cond (I a 0 !=6) (cond (0<((L a 3).length:Int)) (jj J 0 2 0 (U8 b true a) (e45 J m [1,0,1] [])) (cond (I a 0 !=5) (jj J 0 2 0 (U8 b (decide (0<((L a 4).length:Int))) a) (e45 J m [1,0,1] [])) (jj J 0 2 0 (U8 b false a) (e45 J m [1,0,1] [])))) (cond (I a 0 !=5) (jj J 0 2 0 (U8 b (decide (0<((L a 4).length:Int))) a) (e45 J m [1,0,1] [])) (jj J 0 2 0 (U8 b false a) (e45 J m [1,0,1] [])))) (by simp only[aM,Gh m];rfl)
def apS:List Nat:=[1,0,1,0,0,1]
def avh:List Nat:=apS++[0,0,1,1]
def avi:List Nat:=avh++[1]
def L6:List Nat:=apS++[0,0,1,0,1]
def alD:List Nat:=avi++[0]
def e64(J:Q1)(m:Nat):=evAt Tryz.prog env (ct m) J (m+1) 95 58 Tryz.f95 d5
def l64(J:Q1)(m:Nat):=loopAt Tryz.prog env (ct m) J (m+1) 95 58 Tryz.f95 d5
def alE(a:Bool)(b c:Int)(d e:Dt):St:=⟨tsOf [(1,.dat 4 (.bool a)),(2,.ptr 0 [] 0),(5,.dat 3 (.int b)),(6,.ptr 1 [] 0),(7,.dat 3 (.int c))],[.box 26 (.dat 26 d),.box 48 (.dat 48 e)],0⟩
def afK(a:Bool)(b:Int)(c:Dt):St:=⟨tsOf [(1,.dat 4 (.bool a)),(2,.ptr 0 [] 0),(5,.dat 3 (.int b))],[.box 26 (.dat 26 c)],0⟩
def L8(a:Bool)(b:Int)(c:Bool)(d e:Dt):St:=⟨tsOf [(1,.dat 4 (.bool a)),(2,.ptr 0 [] 0),(5,.dat 3 (.int b)),(6,.ptr 1 [] 0),(43,.dat 4 (.bool c))],[.box 26 (.dat 26 d),.box 48 (.dat 48 e)],0⟩
abbrev apT(m e:Nat)(a:Q20):Prop:=∀b c d,l64 jn m [1,0,1,0] [] e (afK b c d)=a b c d
theorem xE m b a(j:apT m b a):∀c h d e f i,l64 jn m alD [b] c (alE h d e f i)=kN m (bH m) a c h d e f i
 |0,_,_,_,_,_=>rfl
 |c+1,h,d,e,f,i=>
  tl (g:=fun J=>cond (e<d) ((idx (L f 4) e).bind fun k=>cond ((S k 0).toList==(S i 0).toList) (some false) (jj J 1 8 c (alE h d (wrap .i64 (e+1)) f i) (l64 J m alD [b] c))) (jj J 1 2 b (afK h (wrap .i64 (d+1)) f) (l64 J m [1,0,1,0] [] b))) (by simp only[aM,(xE m b a j c),j];rfl)
theorem Gi m b a(i:apT m b a) c d e f h:e64 jn m L6 [b] (L8 c d e f h)=dV m (bH m) a c d e f h:=
 tq (g:=fun J=>cond e (some false) (jj J 1 8 (succ m) (alE c d 0 f h) (l64 J m alD [b] (succ m)))) (by simp only[aM,xE m b a i];rfl)
theorem xG m:∀c a d e,l64 jn m [1,0,1,0] [] c (afK a d e)=dH m (bH m) c a d e
 |0,_,_,_=>rfl
 |c+1,a,d,e=>
  tl (g:=fun J=>bif d<((L e 4).length:Int)then(idx (L e 4) d).bind fun b=>cond a ((iE m (S b 0)).bind fun f=>cond (!f) (jj J 0 6 0 (L8 a d true e b) (e64 J m L6 [c])) (bif !a then(nW m (S b 0)).bind fun h=>cond (!h) (jj J 0 6 0 (L8 a d true e b) (e64 J m L6 [c])) ((bH m (fld b 1) a).bind fun i=>jj J 0 6 0 (L8 a d (!i) e b) (e64 J m L6 [c]))else(bH m (fld b 1) a).bind fun j=>jj J 0 6 0 (L8 a d (!j) e b) (e64 J m L6 [c]))) (bif !a then(nW m (S b 0)).bind fun k=>cond (!k) (jj J 0 6 0 (L8 a d true e b) (e64 J m L6 [c])) ((bH m (fld b 1) a).bind fun l=>jj J 0 6 0 (L8 a d (!l) e b) (e64 J m L6 [c]))else(bH m (fld b 1) a).bind fun n=>jj J 0 6 0 (L8 a d (!n) e b) (e64 J m L6 [c]))else some true) (by simp only[aM,Gi m c (dH m (bH m) c) (xG m c)];rfl)
theorem Mr m a b:e64 jn m [] [] ⟨[.dat 26 a,.dat 4 (.bool b)],[],0⟩=dD (m+1) a b:=
 tq (g:=fun J=>jj J 1 2 (succ m) (afK b 0 a) (l64 J m [1,0,1,0] [] (succ m))) (by simp only[aM,xG m];rfl)
def e32(J:Q1)(m:Nat):=evAt Tryz.prog env (ct m) J (m+1) 18 15 Tryz.f18 d5
theorem PY m a:e32 jn m [] [] ⟨[.dat 26 a],[],0⟩=iX (m+1) a:=
 tq (g:=fun J=>(nN m a).bind fun b=>cond (b<=16) ((nO m a).bind fun c=>cond (c<=1024) ((bH m a true).bind fun d=>some d) (some false)) (some false)) (by rfl)
def e11(J:Q1)(m:Nat):=evAt Tryz.prog env (ct m) J (m+1) 33 11 Tryz.f33 d5
theorem KO m a:e11 jn m [] [] ⟨[.dat 26 a],[],0⟩=l9 (m+1) a:=
 tq (g:=fun J=>cond (I a 0 !=5) (some true) ((iX m a).bind fun b=>some (!b))) (by rfl)
def e10(J:Q2)(m:Nat):=evAt Tryz.prog env (ct m) J (m+1) 53 19 Tryz.f53 d39
def l10(J:Q2)(m:Nat):=loopAt Tryz.prog env (ct m) J (m+1) 53 19 Tryz.f53 d39
def alF(a:List Dt)(b c:Int):St:=⟨tsOf [(0,.dat 23 (.lst a)),(1,.fn 33 []),(7,.dat 3 (.int b)),(8,.dat 3 (.int c))],[],0⟩
theorem U9 m:∀b c d a,l10 jn m [1,0,1,0] [] b (alF c d a)=NI m b c d a
 |0,_,_,_=>rfl
 |b+1,c,d,a=>
  tl (g:=fun J=>cond (a<d) ((idx c a).bind fun e=>(l9 m e).bind fun f=>cond f (some a) (jj J 1 2 b (alF c d (wrap .i64 (a+1))) (l10 J m [1,0,1,0] [] b))) (some (-1))) (by simp only[aM,(U9 m b)];rfl)
theorem arR m a:e10 jn m [] [] ⟨[.dat 23 (.lst a),.fn 33 []],[],0⟩=i10 (m+1) a:=
 tq (g:=fun J=>jj J 1 2 (succ m) (alF a (a.length:Int) 0) (l10 J m [1,0,1,0] [] (succ m))) (by simp only[aM,U9 m];rfl)
def e9(J:Q1)(m:Nat):=evAt Tryz.prog env (ct m) J (m+1) 16 9 Tryz.f16 d5
theorem avj m a:e9 jn m [] [] ⟨[.dat 23 (.lst a),.fn 33 []],[],0⟩=i9 (m+1) a:=
 tq (g:=fun J=>(i10 m a).bind fun b=>some (decide (0<=b))) (by rfl)
def e1(J:Q1)(m:Nat):=evAt Tryz.prog env (ct m) J (m+1) 8 11 Tryz.f8 d5
theorem PZ m a:e1 jn m [] [] ⟨[.dat 23 (.lst a)],[],0⟩=nP (m+1) a:=
 tq (g:=fun J=>bif (a.length:Int)<=30 then(i9 m a).bind fun b=>some (!b)else some false) (by rfl)
def avk:List Nat:=[1,1,1,1,1,1]
def Va:List Nat:=[1,1,1,1,0,1]
def alG:List Nat:=[1,1,1,1,1,0,1]
def fB:List Nat:=avk++[0,1]
def e42(J:Q2)(m:Nat):=evAt Tryz.prog env (ct m) J (m+1) 75 164 Tryz.f75 d42
def fC(a:Bool):St:=⟨tsOf [(163,.dat 4 (.bool a))],[],0⟩
def afL(a:Bool)(b:Dt):St:=⟨tsOf [(1,.ptr 0 [] 0),(3,.dat 4 (.bool a))],[.box 29 (.dat 29 b)],0⟩
def alH(a b:Bool)(c:Dt):St:=⟨tsOf [(1,.ptr 0 [] 0),(3,.dat 4 (.bool a)),(112,.dat 4 (.bool b))],[.box 29 (.dat 29 c)],0⟩
def Vb(a b:Bool)(c:Dt):St:=⟨tsOf [(1,.ptr 0 [] 0),(3,.dat 4 (.bool a)),(103,.dat 4 (.bool b))],[.box 29 (.dat 29 c)],0⟩
def L9(a:Bool)(b:Dt):St:=⟨tsOf [(1,.ptr 0 [] 0),(72,.dat 4 (.bool a))],[.box 29 (.dat 29 b)],0⟩
def Fv(a:Bool)(b:Dt):St:=⟨tsOf [(1,.ptr 0 [] 0),(46,.dat 4 (.bool a))],[.box 29 (.dat 29 b)],0⟩
theorem KP m a:e42 jn m fB [] (fC a)=bC m a:=
 tq (g:=fun J=>cond a (some 4) (some 0)) (by rfl)
theorem KQ m b c a:e42 jn m alG [] (alH b c a)=vg m b c a:=
 tq (g:=fun J=>cond c (some 8) (cond (I a 0 !=2) (cond (I a 0 !=3) (cond (0<((L a 1).length:Int)) (jj J 0 11 0 (fC true) (e42 J m fB [])) (cond (!b) (cond (!(S a 2).toList==[]) (jj J 0 11 0 (fC true) (e42 J m fB [])) (cond (I a 0 !=34) (cond (0<((L a 3).length:Int)) (jj J 0 11 0 (fC true) (e42 J m fB [])) (cond (I a 0 !=1) ((bJ m (fld a 4) aj).bind fun j=>cond (!j) (jj J 0 11 0 (fC true) (e42 J m fB [])) (jj J 0 11 0 (fC (I a 5 !=0)) (e42 J m fB []))) (jj J 0 11 0 (fC (I a 5 !=0)) (e42 J m fB [])))) (cond (I a 0 !=1) ((bJ m (fld a 4) aj).bind fun k=>cond (!k) (jj J 0 11 0 (fC true) (e42 J m fB [])) (jj J 0 11 0 (fC (I a 5 !=0)) (e42 J m fB []))) (jj J 0 11 0 (fC (I a 5 !=0)) (e42 J m fB []))))) (cond (I a 0 !=34) (cond (0<((L a 3).length:Int)) (jj J 0 11 0 (fC true) (e42 J m fB [])) (cond (I a 0 !=1) ((bJ m (fld a 4) aj).bind fun l=>cond (!l) (jj J 0 11 0 (fC true) (e42 J m fB [])) (jj J 0 11 0 (fC (I a 5 !=0)) (e42 J m fB []))) (jj J 0 11 0 (fC (I a 5 !=0)) (e42 J m fB [])))) (cond (I a 0 !=1) ((bJ m (fld a 4) aj).bind fun n=>cond (!n) (jj J 0 11 0 (fC true) (e42 J m fB [])) (jj J 0 11 0 (fC (I a 5 !=0)) (e42 J m fB []))) (jj J 0 11 0 (fC (I a 5 !=0)) (e42 J m fB [])))))) (cond (!b) (cond (!(S a 2).toList==[]) (jj J 0 11 0 (fC true) (e42 J m fB [])) (cond (I a 0 !=34) (cond (0<((L a 3).length:Int)) (jj J 0 11 0 (fC true) (e42 J m fB [])) (cond (I a 0 !=1) ((bJ m (fld a 4) aj).bind fun o=>cond (!o) (jj J 0 11 0 (fC true) (e42 J m fB [])) (jj J 0 11 0 (fC (I a 5 !=0)) (e42 J m fB []))) (jj J 0 11 0 (fC (I a 5 !=0)) (e42 J m fB [])))) (cond (I a 0 !=1) ((bJ m (fld a 4) aj).bind fun p=>cond (!p) (jj J 0 11 0 (fC true) (e42 J m fB [])) (jj J 0 11 0 (fC (I a 5 !=0)) (e42 J m fB []))) (jj J 0 11 0 (fC (I a 5 !=0)) (e42 J m fB []))))) (cond (I a 0 !=34) (cond (0<((L a 3).length:Int)) (jj J 0 11 0 (fC true) (e42 J m fB [])) (cond (I a 0 !=1) ((bJ m (fld a 4) aj).bind fun q=>cond (!q) (jj J 0 11 0 (fC true) (e42 J m fB [])) (jj J 0 11 0 (fC (I a 5 !=0)) (e42 J m fB []))) (jj J 0 11 0 (fC (I a 5 !=0)) (e42 J m fB [])))) (cond (I a 0 !=1) ((bJ m (fld a 4) aj).bind fun d=>cond (!d) (jj J 0 11 0 (fC true) (e42 J m fB [])) (jj J 0 11 0 (fC (I a 5 !=0)) (e42 J m fB []))) (jj J 0 11 0 (fC (I a 5 !=0)) (e42 J m fB [])))))) (cond (!b) (cond (!(S a 2).toList==[]) (jj J 0 11 0 (fC true) (e42 J m fB [])) (cond (I a 0 !=34) (cond (0<((L a 3).length:Int)) (jj J 0 11 0 (fC true) (e42 J m fB [])) (cond (I a 0 !=1) ((bJ m (fld a 4) aj).bind fun e=>cond (!e) (jj J 0 11 0 (fC true) (e42 J m fB [])) (jj J 0 11 0 (fC (I a 5 !=0)) (e42 J m fB []))) (jj J 0 11 0 (fC (I a 5 !=0)) (e42 J m fB [])))) (cond (I a 0 !=1) ((bJ m (fld a 4) aj).bind fun f=>cond (!f) (jj J 0 11 0 (fC true) (e42 J m fB [])) (jj J 0 11 0 (fC (I a 5 !=0)) (e42 J m fB []))) (jj J 0 11 0 (fC (I a 5 !=0)) (e42 J m fB []))))) (cond (I a 0 !=34) (cond (0<((L a 3).length:Int)) (jj J 0 11 0 (fC true) (e42 J m fB [])) (cond (I a 0 !=1) ((bJ m (fld a 4) aj).bind fun h=>cond (!h) (jj J 0 11 0 (fC true) (e42 J m fB [])) (jj J 0 11 0 (fC (I a 5 !=0)) (e42 J m fB []))) (jj J 0 11 0 (fC (I a 5 !=0)) (e42 J m fB [])))) (cond (I a 0 !=1) ((bJ m (fld a 4) aj).bind fun i=>cond (!i) (jj J 0 11 0 (fC true) (e42 J m fB [])) (jj J 0 11 0 (fC (I a 5 !=0)) (e42 J m fB []))) (jj J 0 11 0 (fC (I a 5 !=0)) (e42 J m fB []))))))) (by simp only[aM,KP m];rfl)
theorem KR m b c a:e42 jn m Va [] (Vb b c a)=mh m b c a:=
 tq (g:=fun J=>cond c (some 9) (cond (I a 0==1) ((iX m (fld a 4)).bind fun d=>jj J 0 9 0 (alH b (!d) a) (e42 J m alG [])) (jj J 0 9 0 (alH b false a) (e42 J m alG [])))) (by simp only[aM,KQ m];rfl)
theorem KS m b a:e42 jn m [1,1,1,1] [] (afL b a)=pF m b a:=
 tq (g:=fun J=>cond b ((iE m (S a 2)).bind fun e=>cond (!e) (jj J 0 7 0 (Vb b true a) (e42 J m Va [])) (cond (I a 0==34) ((nK m (L a 3)).bind fun c=>jj J 0 7 0 (Vb b (!c) a) (e42 J m Va [])) (jj J 0 7 0 (Vb b false a) (e42 J m Va [])))) (cond (I a 0==34) ((nK m (L a 3)).bind fun d=>jj J 0 7 0 (Vb b (!d) a) (e42 J m Va [])) (jj J 0 7 0 (Vb b false a) (e42 J m Va [])))) (by simp only[aM,KR m];rfl)
theorem KU m b a:e42 jn m [1,1,0,1] [] (L9 b a)=iR m b a:=
 tq (g:=fun J=>cond b (some 10) (cond (I a 0==3) (jj J 0 6 0 (afL true a) (e42 J m [1,1,1,1] [])) (cond (I a 0==32) (jj J 0 6 0 (afL true a) (e42 J m [1,1,1,1] [])) (jj J 0 6 0 (afL (I a 0==33) a) (e42 J m [1,1,1,1] []))))) (by simp only[aM,KS m];rfl)
theorem KV m b a:e42 jn m [1,0,1] [] (Fv b a)=fM m b a:=
 tq (g:=fun J=>cond b (some 11) (cond (I a 0==2) ((iV m (L a 1)).bind fun e=>cond (!e) (jj J 0 4 0 (L9 true a) (e42 J m [1,1,0,1] [])) (cond (I a 0==3) (bif 0<((L a 1).length:Int)then(iV m (L a 1)).bind fun c=>jj J 0 4 0 (L9 (!c) a) (e42 J m [1,1,0,1] [])else jj J 0 4 0 (L9 false a) (e42 J m [1,1,0,1] [])) (jj J 0 4 0 (L9 false a) (e42 J m [1,1,0,1] [])))) (cond (I a 0==3) (bif 0<((L a 1).length:Int)then(iV m (L a 1)).bind fun d=>jj J 0 4 0 (L9 (!d) a) (e42 J m [1,1,0,1] [])else jj J 0 4 0 (L9 false a) (e42 J m [1,1,0,1] [])) (jj J 0 4 0 (L9 false a) (e42 J m [1,1,0,1] []))))) (by simp only[aM,KU m];rfl)
theorem Sl m a:e42 jn m [] [] ⟨[.dat 29 a],[],0⟩=r9 (m+1) a:=
 tq (g:=fun J=>cond (I a 0<1) (jj J 0 2 0 (Fv true a) (e42 J m [1,0,1] [])) (cond (37<I a 0) (jj J 0 2 0 (Fv true a) (e42 J m [1,0,1] [])) ((qg m (I a 0)).bind fun b=>cond (0<=b) ((qg m (I a 0)).bind fun c=>cond (((L a 6).length:Int) !=c) (jj J 0 2 0 (Fv true a) (e42 J m [1,0,1] [])) (cond (I a 0==34) (bif ((L a 6).length:Int) !=((L a 3).length:Int)then jj J 0 2 0 (Fv true a) (e42 J m [1,0,1] [])else jj J 0 2 0 (Fv (((L a 6).length:Int)==0) a) (e42 J m [1,0,1] [])) (jj J 0 2 0 (Fv false a) (e42 J m [1,0,1] [])))) (cond (I a 0==34) (bif ((L a 6).length:Int) !=((L a 3).length:Int)then jj J 0 2 0 (Fv true a) (e42 J m [1,0,1] [])else jj J 0 2 0 (Fv (((L a 6).length:Int)==0) a) (e42 J m [1,0,1] [])) (jj J 0 2 0 (Fv false a) (e42 J m [1,0,1] [])))))) (by simp only[aM,KV m];rfl)
def alI:List Nat:=[1,1,1,0,1,0]
def e31(J:Q33)(m:Nat):=evAt Tryz.prog env (ct m) J (m+1) 34 51 Tryz.f34 d31
def l31(J:Q33)(m:Nat):=loopAt Tryz.prog env (ct m) J (m+1) 34 51 Tryz.f34 d31
def alJ(a b c:Int)(d:Dt):St:=⟨tsOf [(1,.dat 3 (.int a)),(2,.dat 3 (.int b)),(3,.ptr 0 [] 0),(9,.dat 3 (.int c))],[.box 29 (.dat 29 d)],0⟩
def alK(a b:Int)(c:Bool)(d:Dt):St:=⟨tsOf [(1,.dat 3 (.int a)),(2,.dat 3 (.int b)),(3,.ptr 0 [] 0),(17,.dat 4 (.bool c))],[.box 29 (.dat 29 d)],0⟩
theorem yT m:∀a d e b c,l31 jn m alI [] a (alJ d e b c)=mY m (fJ m) a d e b c
 |0,_,_,_,_=>rfl
 |a+1,d,e,b,c=>
  tl (g:=fun J=>bif b<((L c 6).length:Int)then(idx (L c 6) b).bind fun h=>(fJ m h (wrap .i64 (d+1)) (wrap .i64 (e+1))).bind fun f=>cond (f.2 !=0) (some (f.1,f.2)) (jj J 1 7 a (alJ f.1 e (wrap .i64 (b+1)) c) (l31 J m alI [] a))else some (d,0)) (by simp only[aM,(yT m a)];rfl)
theorem IW m a c d b:e31 jn m [1,0,1] [] (alK a c d b)=sS m (fJ m) a c d b:=
 tq (g:=fun J=>cond d (some (a,2)) ((r9 m b).bind fun e=>cond (e !=0) (some (a,e)) (jj J 1 7 (succ m) (alJ a c 0 b) (l31 J m alI [] (succ m))))) (by simp only[aM,yT m];rfl)
theorem P5 m c a b:e31 jn m [] [] ⟨[.dat 29 c,.dat 3 (.int a),.dat 3 (.int b)],[],0⟩=fJ (m+1) c a b:=
 tq (g:=fun J=>cond (16<b) (jj J 0 2 0 (alK a b true c) (e31 J m [1,0,1] [])) (jj J 0 2 0 (alK a b (decide (256<a)) c) (e31 J m [1,0,1] []))) (by simp only[aM,IW m];rfl)
def e8(J:Q2)(m:Nat):=evAt Tryz.prog env (ct m) J (m+1) 9 11 Tryz.f9 d42
theorem P6 m a:e8 jn m [] [] ⟨[.dat 29 a],[],0⟩=jL (m+1) a:=
 tq (g:=fun J=>(fJ m a 1 1).bind fun b=>some b.2) (by rfl)
def XA:List Nat:=[1,1,0,1,0]
def arS:List Nat:=[1,1,0,1,0,0,1,1]
def XB:List Nat:=arS++[0,0,1,1]
def XC(J:Q1)(m:Nat):=evAt Tryz.prog env (ct m) J (m+1) 198 39 Tryz.f198 d5
def aoA(J:Q1)(m:Nat):=loopAt Tryz.prog env (ct m) J (m+1) 198 39 Tryz.f198 d5
def XD(a:ByteArray)(b c:Int):St:=⟨tsOf [(0,.dat 9 (.str a)),(18,.dat 3 (.int b)),(19,.dat 3 (.int c))],[],0⟩
def XE(a:ByteArray)(b c:Int)(d:Bool):St:=⟨tsOf [(0,.dat 9 (.str a)),(18,.dat 3 (.int b)),(19,.dat 3 (.int c)),(37,.dat 4 (.bool d))],[],0⟩
def XF(a:ByteArray)(b:Bool):St:=⟨tsOf [(0,.dat 9 (.str a)),(16,.dat 4 (.bool b))],[],0⟩
abbrev arT(m e:Nat)(a:Q32):Prop:=∀b c d,aoA jn m XA [] e (XD b c d)=a b c d
theorem Gj m b a(h:arT m b a) c d e f:XC jn m XB [b] (XE c d e f)=oz m a c d e f:=
 tq (g:=fun J=>cond f (some true) (jj J 1 4 b (XD c d (wrap .i64 (e+1))) (aoA J m XA [] b))) (by simp only[aM,h];rfl)
theorem xH m:∀b c d a,aoA jn m XA [] b (XD c d a)=fT m b c d a
 |0,_,_,_=>rfl
 |b+1,c,d,a=>
  tl (g:=fun J=>cond (a<d) ((idxS c a).bind fun e=>cond (e<33) (jj J 0 7 0 (XE c d a true) (XC J m XB [b])) ((idxS c a).bind fun f=>cond (126<f) (jj J 0 7 0 (XE c d a true) (XC J m XB [b])) ((idxS c a).bind fun h=>jj J 0 7 0 (XE c d a (h==46)) (XC J m XB [b])))) (some false)) (by simp only[aM,Gj m b (fT m b) (xH m b)];rfl)
theorem Gl m a b:XC jn m [1,0,1] [] (XF a b)=oC m a b:=
 tq (g:=fun J=>cond b (some true) (jj J 1 4 (succ m) (XD a (a.size:Int) 0) (aoA J m XA [] (succ m)))) (by simp only[aM,xH m];rfl)
theorem Mt m a:XC jn m [] [] ⟨[.dat 9 (.str a)],[],0⟩=nX (m+1) a:=
 tq (g:=fun J=>cond ((a.size:Int)<1) (jj J 0 2 0 (XF a true) (XC J m [1,0,1] [])) (bif 32<(a.size:Int)then jj J 0 2 0 (XF a true) (XC J m [1,0,1] [])else(idxS a 0).bind fun b=>jj J 0 2 0 (XF a (b==36)) (XC J m [1,0,1] []))) (by simp only[aM,Gl m];rfl)
def awz(J:Q2)(m:Nat):=evAt Tryz.prog env (ct m) J (m+1) 230 19 Tryz.f230 d39
def arU(J:Q2)(m:Nat):=loopAt Tryz.prog env (ct m) J (m+1) 230 19 Tryz.f230 d39
def ac5(a:List Dt)(b c:Int):St:=⟨tsOf [(0,.dat 22 (.lst a)),(1,.fn 198 []),(7,.dat 3 (.int b)),(8,.dat 3 (.int c))],[],0⟩
theorem P7 m:∀b c d a,arU jn m [1,0,1,0] [] b (ac5 c d a)=DZ m b c d a
 |0,_,_,_=>rfl
 |b+1,c,d,a=>
  tl (g:=fun J=>cond (a<d) ((idx c a).bind fun e=>(nX m (toStr e)).bind fun f=>cond f (some a) (jj J 1 2 b (ac5 c d (wrap .i64 (a+1))) (arU J m [1,0,1,0] [] b))) (some (-1))) (by simp only[aM,(P7 m b)];rfl)
theorem aoB m a:awz jn m [] [] ⟨[.dat 22 (.lst a),.fn 198 []],[],0⟩=i105 (m+1) a:=
 tq (g:=fun J=>jj J 1 2 (succ m) (ac5 a (a.length:Int) 0) (arU J m [1,0,1,0] [] (succ m))) (by simp only[aM,P7 m];rfl)
def awC(J:Q1)(m:Nat):=evAt Tryz.prog env (ct m) J (m+1) 197 9 Tryz.f197 d5
theorem aoC m a:awC jn m [] [] ⟨[.dat 22 (.lst a),.fn 198 []],[],0⟩=agq (m+1) a:=
 tq (g:=fun J=>(i105 m a).bind fun b=>some (decide (0<=b))) (by rfl)
def e65(J:Q1)(m:Nat):=evAt Tryz.prog env (ct m) J (m+1) 147 16 Tryz.f147 d5
theorem Sm m a:e65 jn m [] [] ⟨[.dat 22 (.lst a)],[],0⟩=nY (m+1) a:=
 tq (g:=fun J=>cond (1<=(a.length:Int)) (bif (a.length:Int)<=16 then(agq m a).bind fun b=>some (!b)else some false) (some false)) (by rfl)
def e66(J:Q1)(m:Nat):=evAt Tryz.prog env (ct m) J (m+1) 206 6 Tryz.f206 d5
theorem P8 m a:e66 jn m [] [] ⟨[.dat 9 (.str a)],[],0⟩=kX (m+1) a:=
 tq (g:=fun J=>(nY m [str a]).bind fun b=>some b) (by rfl)
def afM:List Nat:=[1,1,0,1,0]
def avl:List Nat:=[1,1,0,1,0,0,1,1]
def alL:List Nat:=avl++[0,0,1,0,1]
def e68(J:Q1)(m:Nat):=evAt Tryz.prog env (ct m) J (m+1) 207 24 Tryz.f207 d5
def l68(J:Q1)(m:Nat):=loopAt Tryz.prog env (ct m) J (m+1) 207 24 Tryz.f207 d5
def afN(a:List Dt)(b c:Int)(d:List Dt):St:=⟨tsOf [(3,.row 0),(7,.dat 22 (.lst a)),(8,.dat 3 (.int b)),(9,.dat 3 (.int c))],[(.map 223 d)],0⟩
def alM(a:ByteArray)(b:List Dt)(c d:Int)(e:Bool)(f:List Dt):St:=⟨tsOf [(3,.row 0),(5,.dat 9 (.str a)),(7,.dat 22 (.lst b)),(8,.dat 3 (.int c)),(9,.dat 3 (.int d)),(20,.dat 4 (.bool e))],[(.map 223 f)],0⟩
abbrev avm(m f:Nat)(a:Q26):Prop:=∀b c d e,l68 jn m afM [] f (afN b c d e)=a b c d e
theorem zP m b a(j:avm m b a) c d e f h i:e68 jn m alL [b] (alM c d e f h i)=kI m a c d e f h i:=
 tq (g:=fun J=>cond h (some false) (jj J 1 3 b (afN d e (wrap .i64 (f+1)) (mput i c (bool true))) (l68 J m afM [] b))) (by simp only[aM,j];rfl)
theorem rR m:∀a c d b e,l68 jn m afM [] a (afN c d b e)=eO m a c d b e
 |0,_,_,_,_=>rfl
 |a+1,c,d,b,e=>
  tl (g:=fun J=>cond (b<d) ((idx c b).bind fun f=>(kX m (toStr f)).bind fun h=>cond (!h) (jj J 0 6 0 (alM (toStr f) c d b true e) (e68 J m alL [a])) (jj J 0 6 0 (alM (toStr f) c d b (Dt.toBool (mgetD e (toStr f) (bool false))) e) (e68 J m alL [a]))) (some true)) (by simp only[aM,zP m a (eO m a) (rR m a)];rfl)
theorem BU m a:e68 jn m [] [] ⟨[.dat 22 (.lst a)],[],0⟩=eY (m+1) a:=
 tq (g:=fun J=>jj J 1 3 (succ m) (afN a (a.length:Int) 0 []) (l68 J m afM [] (succ m))) (by simp only[aM,rR m];rfl)
def awD(J:Q0)(m:Nat):=evAt Tryz.prog env (ct m) J (m+1) 209 8 Tryz.f209 d20
theorem P9 m a:awD jn m [] [] ⟨[.dat 26 a],[],0⟩=iw (m+1) a:=
 tq (g:=fun J=>cond (I a 0==0) ((cO m).bind fun b=>some b) (some a)) (by rfl)
def aaA:List Nat:=[1,1,1,0,1,0]
def avn:List Nat:=[1,0,1,0,1,0,1]
def alN:List Nat:=avn++[0]
def avo:List Nat:=aaA++[0,1,1]
def alO:List Nat:=avo++[1]
def e80(J:Q0)(m:Nat):=evAt Tryz.prog env (ct m) J (m+1) 168 55 Tryz.f168 d20
def l80(J:Q0)(m:Nat):=loopAt Tryz.prog env (ct m) J (m+1) 168 55 Tryz.f168 d20
def alP(a:List Dt)(b c:Int)(d:Dt)(e f:Int)(g:ByteArray)(h i:List Dt):St:=⟨tsOf [(4,.ptr 0 [] 0),(5,.ptr 1 [] 0),(15,.dat 23 (.lst a)),(16,.dat 3 (.int b)),(17,.dat 3 (.int c))],[.box 26 (.dat 26 d),.box 26 (.agg 26 [.dat 3 (.int e),.dat 3 (.int f),.dat 9 (.str g),.row 2,.row 3]),.row 23 h,.row 24 i],0⟩
def Qa(a:List Dt)(b c:Int)(d e:Dt)(f g:Int)(h:ByteArray)(i j:List Dt):St:=⟨tsOf [(2,.ptr 0 [] 0),(4,.ptr 1 [] 0),(8,.ptr 2 [] 0),(31,.dat 23 (.lst a)),(32,.dat 3 (.int b)),(33,.dat 3 (.int c))],[.box 29 (.dat 29 d),.box 26 (.dat 26 e),.box 26 (.agg 26 [.dat 3 (.int f),.dat 3 (.int g),.dat 9 (.str h),.row 3,.row 4]),.row 23 i,.row 24 j],0⟩
theorem uh m:∀a c d b k e f h i j,l80 jn m alN [] a (alP c d b k e f h i j)=j3 m a c d b k e f h i j
 |0,_,_,_,_,_,_,_,_,_=>rfl
 |a+1,c,d,b,k,e,f,h,i,j=>
  tl (g:=fun J=>cond (b<d) ((idx c b).bind fun l=>(iw m l).bind fun n=>(app i [n]).bind fun o=>jj J 1 4 a (alP c d (wrap .i64 (b+1)) k e f h o j) (l80 J m alN [] a)) (some (agg [int e,int f,str h,lst i,lst j]))) (by simp only[aM,(uh m a)];rfl)
abbrev avp(m l:Nat)(a:Q65):Prop:=∀b c d e f g h i j k,l80 jn m aaA [] l (Qa b c d e f g h i j k)=a b c d e f g h i j k
theorem BX m b a(o:avp m b a) c d e f h i j k l n:e80 jn m alO [b] (Qa c d e f h i j k l n)=nZ m a c d e f h i j k l n:=
 tq (g:=fun J=>jj J 1 11 b (Qa c d (wrap .i64 (e+1)) f h i j k l n) (l80 J m aaA [] b)) (by simp only[aM,o];rfl)
theorem uj m:∀a c d b e l f h i j k,l80 jn m aaA [] a (Qa c d b e l f h i j k)=gD m a c d b e l f h i j k
 |0,_,_,_,_,_,_,_,_,_,_=>rfl
 |a+1,c,d,b,e,l,f,h,i,j,k=>
  tl (g:=fun J=>cond (b<d) ((idx c b).bind fun n=>cond (I n 0 !=0) ((idx (L e 3) b).bind fun o=>(app k [agg [str (toStr o),n]]).bind fun p=>jj J 0 15 0 (Qa c d b e l f h i j p) (e80 J m alO [a])) (jj J 0 15 0 (Qa c d b e l f h i j k) (e80 J m alO [a]))) (some (agg [int f,int h,str i,lst j,lst k]))) (by simp only[aM,BX m a (gD m a) (uj m a)];rfl)
theorem Gm m b a:e80 jn m [] [] ⟨[.dat 29 b,.dat 23 (.lst a)],[],0⟩=eF (m+1) b a:=
 tq (g:=fun J=>cond (I b 0==35) (jj J 1 4 (succ m) (alP a (a.length:Int) 0 aj 6 0 (ByteArray.mk (List.toArray [])) [] []) (l80 J m alN [] (succ m))) (jj J 1 11 (succ m) (Qa a (a.length:Int) 0 b aj 5 0 (ByteArray.mk (List.toArray [])) [] []) (l80 J m aaA [] (succ m)))) (by simp only[aM,uh m,uj m];rfl)
def ac6:List Nat:=[1,0,1,0,1]
def ac7:List Nat:=[1,0,1,0,1,1,1]
def e108(J:Q1)(m:Nat):=evAt Tryz.prog env (ct m) J (m+1) 210 14 Tryz.f210 d5
def ac8(a:Bool)(b:Dt):St:=⟨tsOf [(1,.ptr 0 [] 0),(8,.dat 4 (.bool a))],[.box 26 (.dat 26 b)],0⟩
def ac9(a:Int)(b:Bool)(c:Dt):St:=⟨tsOf [(1,.ptr 0 [] 0),(4,.dat 3 (.int a)),(5,.dat 4 (.bool b))],[.box 26 (.dat 26 c)],0⟩
theorem IX m a b:e108 jn m ac7 [] (ac8 a b)=sU m a b:=
 tq (g:=fun J=>cond a (some (I b 1 !=0)) (some true)) (by rfl)
theorem IY m a c b:e108 jn m ac6 [] (ac9 a c b)=sV m a c b:=
 tq (g:=fun J=>cond c (some false) (cond (a==9) (jj J 0 7 0 (ac8 (a==9) b) (e108 J m ac7 [])) (jj J 0 7 0 (ac8 (a==3) b) (e108 J m ac7 [])))) (by simp only[aM,IX m];rfl)
theorem Qb m a:e108 jn m [] [] ⟨[.dat 26 a],[],0⟩=eB (m+1) a:=
 tq (g:=fun J=>cond (I a 0==0) (jj J 0 4 0 (ac9 (I a 0) (I a 0==0) a) (e108 J m ac6 [])) (jj J 0 4 0 (ac9 (I a 0) (I a 0==2) a) (e108 J m ac6 []))) (by simp only[aM,IY m];rfl)
def e109(J:Q2)(m:Nat):=evAt Tryz.prog env (ct m) J (m+1) 211 23 Tryz.f211 d39
def ada(a:Int)(b:Bool):St:=⟨tsOf [(5,.dat 3 (.int a)),(19,.dat 4 (.bool b))],[],0⟩
theorem EM m a b:e109 jn m [1,1,0,1] [] (ada a b)=mZ m a b:=
 tq (g:=fun J=>cond b (some (wrap .i64 (a-1))) (some a)) (by rfl)
theorem KW m b a:e109 jn m [] [] ⟨[.dat 3 (.int b),.dat 3 (.int a)],[],0⟩=iT (m+1) b a:=
 tq (g:=fun J=>cond (a=0) none (cond (a=0) none (cond (Int.tmod b a !=0) (jj J 0 3 0 (ada (wrap .i64 (Int.tdiv b a)) (!decide (b<0)==decide (a<0))) (e109 J m [1,1,0,1] [])) (jj J 0 3 0 (ada (wrap .i64 (Int.tdiv b a)) false) (e109 J m [1,1,0,1] []))))) (by simp only[aM,EM m];rfl)
def alQ:List Nat:=[1,1,0,1,0]
def arV:List Nat:=[1,1,1,1,0,1,0,0,0,1]
def avq:List Nat:=[1,1,1,1,0,1,0,0,0,0,0,1]
def arW:List Nat:=arV++[0,1,1]
def avr:List Nat:=avq++[0,1]
def adb:List Nat:=arW++[0]
def afO:List Nat:=avr++[0]
def e73(J:Q0)(m:Nat):=evAt Tryz.prog env (ct m) J (m+1) 161 91 Tryz.f161 d20
def l73(J:Q0)(m:Nat):=loopAt Tryz.prog env (ct m) J (m+1) 161 91 Tryz.f161 d20
def alR(a:Int)(b:List Dt)(c d:Int)(e:Dt)(f:List Dt):St:=⟨tsOf [(0,.dat 3 (.int a)),(4,.ptr 0 [] 0),(5,.row 1),(16,.dat 23 (.lst b)),(17,.dat 3 (.int c)),(18,.dat 3 (.int d))],[.box 26 (.dat 26 e),.row 75 f],0⟩
def XG(a:Int)(b:List Dt)(c d:Int)(e:Dt):St:=⟨tsOf [(4,.ptr 0 [] 0),(8,.dat 3 (.int a)),(46,.dat 75 (.lst b)),(47,.dat 3 (.int c)),(48,.dat 3 (.int d))],[.box 26 (.dat 26 e)],0⟩
def ade(a:Int)(b:List Dt)(c d:Int)(e:Dt):St:=⟨tsOf [(4,.ptr 0 [] 0),(8,.dat 3 (.int a)),(56,.dat 75 (.lst b)),(57,.dat 3 (.int c)),(58,.dat 3 (.int d))],[.box 26 (.dat 26 e)],0⟩
theorem um m:∀a c d e b f,l73 jn m afO [] a (XG c d e b f)=iG m a c d e b f
 |0,_,_,_,_,_=>rfl
 |a+1,c,d,e,b,f=>
  tl (g:=fun J=>bif b<e then(idx d b).bind fun i=>jj J 1 16 a (XG (wrap .i64 (c+toInt i)) d e (wrap .i64 (b+1)) f) (l73 J m afO [] a)else(bU m c).bind fun h=>some h) (by simp only[aM,(um m a)];rfl)
theorem tX m:∀a c d e b f,l73 jn m adb [] a (ade c d e b f)=jD m a c d e b f
 |0,_,_,_,_,_=>rfl
 |a+1,c,d,e,b,f=>
  tl (g:=fun J=>bif b<e then(idx d b).bind fun h=>jj J 1 22 a (ade (wrap .i64 (c*toInt h)) d e (wrap .i64 (b+1)) f) (l73 J m adb [] a)else(bU m c).bind fun i=>some i) (by simp only[aM,(tX m a)];rfl)
theorem uo m:∀f c h i b d a,l73 jn m alQ [] f (alR c h i b d a)=j4 m f c h i b d a
 |0,_,_,_,_,_,_=>rfl
 |f+1,c,h,i,b,d,a=>
  tl (g:=fun J=>cond (b<i) ((idx h b).bind fun r=>cond (I r 0 !=3) ((cO m).bind fun t=>some t) ((inL a b).bind fun z=>(a[b.toNat]?).bind fun A=>jj J 1 3 f (alR c h i (wrap .i64 (b+1)) d (List.set a b.toNat (int (I r 1)))) (l73 J m alQ [] f))) (cond (c==5) ((inL a 1).bind fun C=>(a[1]?).bind fun s=>(inL a 1).bind fun D=>(a[1]?).bind fun E=>jj J 1 16 (succ m) (XG 0 (List.set a 1 (int (wrap .i64 (0-toInt s)))) ((List.set a 1 (int (wrap .i64 (0-toInt s)))).length:Int) 0 d) (l73 J m afO [] (succ m))) (cond (c==4) (jj J 1 16 (succ m) (XG 0 a (a.length:Int) 0 d) (l73 J m afO [] (succ m))) (cond (c==6) (jj J 1 22 (succ m) (ade 1 a (a.length:Int) 0 d) (l73 J m adb [] (succ m))) ((inL a 1).bind fun u=>(a[1]?).bind fun k=>cond (toInt k==0) ((cO m).bind fun l=>some l) ((inL a 0).bind fun v=>(a[0]?).bind fun n=>(inL a 1).bind fun w=>(a[1]?).bind fun o=>(iT m (toInt n) (toInt o)).bind fun j=>cond (c==8) ((inL a 0).bind fun x=>(a[0]?).bind fun p=>(inL a 1).bind fun y=>(a[1]?).bind fun q=>(bU m (wrap .i64 (toInt p-wrap .i64 (toInt q*j)))).bind fun e=>some e) ((bU m j).bind fun e=>some e))))))) (by simp only[aM,(uo m f),um m,tX m];rfl)
theorem Gn m b a:e73 jn m [] [] ⟨[.dat 3 (.int b),.dat 23 (.lst a)],[],0⟩=dW (m+1) b a:=
 tq (g:=fun J=>(mkL (a.length:Int) (a.length:Int) (int 0)).bind fun c=>jj J 1 3 (succ m) (alR b a (a.length:Int) 0 aj c) (l73 J m alQ [] (succ m))) (by simp only[aM,uo m];rfl)
def awE(J:Q0)(m:Nat):=evAt Tryz.prog env (ct m) J (m+1) 212 6 Tryz.f212 d20
theorem Mw m a:awE jn m [] [] ⟨[.dat 4 (.bool a)],[],0⟩=bX (m+1) a:=
 tq (g:=fun J=>cond a (some M8) (some M7)) (by rfl)
def e74(J:Q0)(m:Nat):=evAt Tryz.prog env (ct m) J (m+1) 162 38 Tryz.f162 d20
theorem Gp m b a:e74 jn m [] [] ⟨[.dat 3 (.int b),.dat 3 (.int a)],[],0⟩=jy (m+1) b a:=
 tq (g:=fun J=>cond (b==10) ((bX m (a==0)).bind fun c=>some c) (cond (b==11) ((bX m (a !=0)).bind fun d=>some d) (cond (b==12) ((bX m (decide (0<a))).bind fun e=>some e) (cond (b==13) ((bX m (decide (0<=a))).bind fun f=>some f) (cond (b==14) ((bX m (decide (a<0))).bind fun h=>some h) (cond (b==15) ((bX m (decide (a<=0))).bind fun i=>some i) ((bU m a).bind fun j=>some j))))))) (by rfl)
def Vd:List Nat:=[1,1,1,0,1,0]
def avt:List Nat:=Vd++[0,1,1]
def alS:List Nat:=avt++[0,0,1,1]
def e75(J:Q0)(m:Nat):=evAt Tryz.prog env (ct m) J (m+1) 163 67 Tryz.f163 d20
def l75(J:Q0)(m:Nat):=loopAt Tryz.prog env (ct m) J (m+1) 163 67 Tryz.f163 d20
def aaB(a:Int)(b c:Bool)(d:List Dt)(e f:Int)(g:Dt):St:=⟨tsOf [(0,.dat 3 (.int a)),(4,.ptr 0 [] 0),(5,.dat 4 (.bool b)),(6,.dat 4 (.bool c)),(44,.dat 23 (.lst d)),(45,.dat 3 (.int e)),(46,.dat 3 (.int f))],[.box 26 (.dat 26 g)],0⟩
def alT(a:Int)(b c:Bool)(d:List Dt)(e f:Int)(g h:Dt):St:=⟨tsOf [(0,.dat 3 (.int a)),(4,.ptr 0 [] 0),(5,.dat 4 (.bool b)),(6,.dat 4 (.bool c)),(8,.ptr 1 [] 0),(44,.dat 23 (.lst d)),(45,.dat 3 (.int e)),(46,.dat 3 (.int f))],[.box 26 (.dat 26 g),.box 26 (.dat 26 h)],0⟩
abbrev avu(m i:Nat)(a:Q48):Prop:=∀b c d e f g h,l75 jn m Vd [] i (aaB b c d e f g h)=a b c d e f g h
theorem KX m b a(n:avu m b a) c d j e f h i k:e75 jn m alS [b] (alT c d j e f h i k)=vk m a c d j e f h i k:=
 tq (g:=fun J=>cond j (jj J 1 14 b (aaB c d true e f (wrap .i64 (h+1)) i) (l75 J m Vd [] b)) ((eB m k).bind fun l=>jj J 1 14 b (aaB c d l e f (wrap .i64 (h+1)) i) (l75 J m Vd [] b))) (by simp only[aM,n];rfl)
theorem Au m:∀a d i e f h b j,l75 jn m Vd [] a (aaB d i e f h b j)=mo m a d i e f h b j
 |0,_,_,_,_,_,_,_=>rfl
 |a+1,d,i,e,f,h,b,j=>
  tl (g:=fun J=>cond (b<h) ((idx f b).bind fun c=>cond i ((eB m c).bind fun k=>jj J 0 17 0 (alT d k e f h b j c) (e75 J m alS [a])) (jj J 0 17 0 (alT d false e f h b j c) (e75 J m alS [a]))) (cond (d==16) ((bX m i).bind fun l=>some l) ((bX m e).bind fun n=>some n))) (by simp only[aM,KX m a (mo m a) (Au m a)];rfl)
theorem Sn m b a:e75 jn m [] [] ⟨[.dat 3 (.int b),.dat 23 (.lst a)],[],0⟩=gQ (m+1) b a:=
 tq (g:=fun J=>cond (b==18) ((idx a 0).bind fun d=>(eB m d).bind fun e=>(bX m (!e)).bind fun f=>some f) (cond (b==19) ((idx a 0).bind fun h=>(eB m h).bind fun i=>cond i ((idx a 1).bind fun j=>some j) ((idx a 2).bind fun k=>some k)) (cond (b==20) ((idx a 0).bind fun l=>(iw m l).bind fun n=>cond (I n 0==2) ((idx a 1).bind fun o=>some o) ((idx a 0).bind fun c=>some c)) (jj J 1 14 (succ m) (aaB b true false a (a.length:Int) 0 aj) (l75 J m Vd [] (succ m)))))) (by simp only[aM,Au m];rfl)
def awF(J:Q1)(m:Nat):=evAt Tryz.prog env (ct m) J (m+1) 141 9 Tryz.f141 d5
theorem Qc m a b:awF jn m [] [] ⟨[.dat 26 a,.dat 26 b],[],0⟩=jM (m+1) a b:=
 tq (g:=fun J=>(bD m a b).bind fun c=>some (c==0)) (by rfl)
def adf:List Nat:=[1,1,1,1,0,1]
def adg(J:Q0)(m:Nat):=evAt Tryz.prog env (ct m) J (m+1) 217 31 Tryz.f217 d20
def adh(a:List Dt)(b:Int)(c:Dt):St:=⟨tsOf [(0,.dat 23 (.lst a)),(4,.ptr 0 [] 0),(5,.dat 3 (.int b))],[.box 26 (.dat 26 c)],0⟩
def adi(a:List Dt)(b:Int)(c:Bool)(d:Dt):St:=⟨tsOf [(0,.dat 23 (.lst a)),(4,.ptr 0 [] 0),(5,.dat 3 (.int b)),(25,.dat 4 (.bool c))],[.box 26 (.dat 26 d)],0⟩
theorem Gq m a b c d:adg jn m adf [] (adi a b c d)=rW m a b c d:=
 tq (g:=fun J=>cond c (some aj) ((idx a b).bind fun e=>some e)) (by rfl)
theorem Gr m b a c:adg jn m [1,1,1,1] [] (adh b a c)=oD m b a c:=
 tq (g:=fun J=>cond (a<0) (jj J 0 7 0 (adi b a true c) (adg J m adf [])) (jj J 0 7 0 (adi b a (decide ((b.length:Int)<=a)) c) (adg J m adf []))) (by simp only[aM,Gq m];rfl)
theorem Mx m b a:adg jn m [] [] ⟨[.dat 23 (.lst b),.dat 26 a],[],0⟩=kY (m+1) b a:=
 tq (g:=fun J=>cond (I a 0 !=3) ((cO m).bind fun c=>some c) (cond (I a 1<0) (jj J 0 6 0 (adh b (wrap .i64 (I a 1+(b.length:Int))) aj) (adg J m [1,1,1,1] [])) (jj J 0 6 0 (adh b (I a 1) aj) (adg J m [1,1,1,1] [])))) (by simp only[aM,Gr m];rfl)
def alU:List Nat:=[1,1,1,1,1,1]
def arX:List Nat:=[1,1,1,1,0,1]
def aaC:List Nat:=arX++[0]
def avv:List Nat:=[1,1,1,1,1,0,1,0,1,1,1,0,1]
def alV:List Nat:=avv++[0]
def arY:List Nat:=[1,1,1,1,1,0,1,0,1,1,1,1,1,0,1,0,1]
def afP:List Nat:=arY++[0]
def arZ:List Nat:=[1,1,1,1,1,0,1,0,1,1,1,1,1,1,1,0,0,1]
def adj:List Nat:=arZ++[0]
def e77(J:Q0)(m:Nat):=evAt Tryz.prog env (ct m) J (m+1) 165 116 Tryz.f165 d20
def l77(J:Q0)(m:Nat):=loopAt Tryz.prog env (ct m) J (m+1) 165 116 Tryz.f165 d20
def aaD(a:Int)(b c:List Dt)(d e:Int)(f:Dt)(g:List Dt):St:=⟨tsOf [(0,.dat 3 (.int a)),(1,.dat 23 (.lst b)),(4,.ptr 0 [] 0),(6,.row 1),(26,.dat 23 (.lst c)),(27,.dat 3 (.int d)),(28,.dat 3 (.int e))],[.box 26 (.dat 26 f),.row 23 g],0⟩
def adk(a b:Int)(c:Dt)(d:List Dt):St:=⟨tsOf [(4,.ptr 0 [] 0),(6,.row 1),(9,.dat 3 (.int a)),(10,.dat 3 (.int b))],[.box 26 (.dat 26 c),.row 23 d],0⟩
def adl(a:Dt)(b:List Dt):St:=⟨tsOf [(4,.ptr 0 [] 0),(6,.row 1)],[.box 26 (.dat 26 a),.row 23 b],0⟩
def XH(a:Int)(b:List Dt)(c d:Int)(e:Dt):St:=⟨tsOf [(4,.ptr 0 [] 0),(11,.dat 3 (.int a)),(75,.dat 23 (.lst b)),(76,.dat 3 (.int c)),(77,.dat 3 (.int d))],[.box 26 (.dat 26 e)],0⟩
def adn(a b:List Dt)(c d:Int)(e:Dt):St:=⟨tsOf [(1,.dat 23 (.lst a)),(4,.ptr 0 [] 0),(93,.dat 23 (.lst b)),(94,.dat 3 (.int c)),(95,.dat 3 (.int d))],[.box 26 (.dat 26 e)],0⟩
theorem wz m b a:e77 jn m alU [] (adl b a)=qN m b a:=
 tq (g:=fun J=>some (agg [int 6,int 0,str (ByteArray.mk (List.toArray [])),lst a,lst []])) (by rfl)
theorem xI m:∀d b c e a,l77 jn m alV [] d (adk b c e a)=kP m d b c e a
 |0,_,_,_,_=>rfl
 |d+1,b,c,e,a=>
  tl (g:=fun J=>cond (b<c) ((inL a c).bind fun l=>(a[c.toNat]?).bind fun f=>(inL a b).bind fun n=>(a[b.toNat]?).bind fun h=>(inL a b).bind fun o=>(a[b.toNat]?).bind fun i=>(inL (List.set a b.toNat f) c).bind fun j=>((List.set a b.toNat f)[c.toNat]?).bind fun k=>jj J 1 20 d (adk (wrap .i64 (b+1)) (wrap .i64 (c-1)) e (List.set (List.set a b.toNat f) c.toNat h)) (l77 J m alV [] d)) (jj J 0 42 0 (adl e a) (e77 J m alU []))) (by simp only[aM,(xI m d),wz m];rfl)
theorem wB m:∀a c d e b f,l77 jn m afP [] a (XH c d e b f)=jQ m a c d e b f
 |0,_,_,_,_,_=>rfl
 |a+1,c,d,e,b,f=>
  tl (g:=fun J=>bif b<e then(idx d b).bind fun h=>cond (I h 0==3) (jj J 1 26 a (XH (wrap .i64 (c+I h 1)) d e (wrap .i64 (b+1)) f) (l77 J m afP [] a)) (jj J 1 26 a (XH c d e (wrap .i64 (b+1)) f) (l77 J m afP [] a))else(bU m c).bind fun i=>some i) (by simp only[aM,(wB m a)];rfl)
theorem wC m:∀a c d e b f,l77 jn m adj [] a (adn c d e b f)=ng m a c d e b f
 |0,_,_,_,_,_=>rfl
 |a+1,c,d,e,b,f=>
  tl (g:=fun J=>bif b<e then(idx d b).bind fun h=>(idx c 0).bind fun i=>(jM m h i).bind fun j=>cond j ((bX m true).bind fun k=>some k) (jj J 1 34 a (adn c d e (wrap .i64 (b+1)) f) (l77 J m adj [] a))else(bX m false).bind fun l=>some l) (by simp only[aM,(wC m a)];rfl)
theorem xJ m:∀d b e h i f c a,l77 jn m aaC [] d (aaD b e h i f c a)=oF m d b e h i f c a
 |0,_,_,_,_,_,_,_=>rfl
 |d+1,b,e,h,i,f,c,a=>
  tl (g:=fun J=>cond (f<i) ((idx h f).bind fun l=>cond (I l 0 !=6) ((cO m).bind fun n=>some n) ((app a (L l 3)).bind fun o=>jj J 1 9 d (aaD b e h i (wrap .i64 (f+1)) c o) (l77 J m aaC [] d))) (cond (b==26) ((bU m (a.length:Int)).bind fun p=>some p) (cond (b==30) (jj J 1 20 (succ m) (adk 0 (wrap .i64 ((a.length:Int)-1)) c a) (l77 J m alV [] (succ m))) (cond (b==31) (jj J 1 26 (succ m) (XH 0 a (a.length:Int) 0 c) (l77 J m afP [] (succ m))) (cond (b==28) (jj J 1 34 (succ m) (adn e a (a.length:Int) 0 c) (l77 J m adj [] (succ m))) (cond (b==27) ((idx e 1).bind fun j=>(kY m a j).bind fun k=>some k) (jj J 0 42 0 (adl c a) (e77 J m alU [])))))))) (by simp only[aM,(xJ m d),xI m,wB m,wC m,wz m];rfl)
theorem MB m b a:e77 jn m [] [] ⟨[.dat 3 (.int b),.dat 23 (.lst a)],[],0⟩=dM (m+1) b a:=
 tq (g:=fun J=>cond (b==27) ((cutL a 0 1).bind fun d=>jj J 1 9 (succ m) (aaD b a d (d.length:Int) 0 aj []) (l77 J m aaC [] (succ m))) (cond (b==28) ((cutL a 1 (a.length:Int)).bind fun c=>jj J 1 9 (succ m) (aaD b a c (c.length:Int) 0 aj []) (l77 J m aaC [] (succ m))) (jj J 1 9 (succ m) (aaD b a a (a.length:Int) 0 aj []) (l77 J m aaC [] (succ m))))) (by simp only[aM,xJ m];rfl)
def awG(J:Q2)(m:Nat):=evAt Tryz.prog env (ct m) J (m+1) 218 14 Tryz.f218 d39
theorem Qd m b a:awG jn m [] [] ⟨[.dat 26 b,.dat 3 (.int a)],[],0⟩=kZ (m+1) b a:=
 tq (g:=fun J=>cond (1==a) (some 1) ((agr m b 1 a).bind fun c=>some c.1)) (by rfl)
def ar0:List Nat:=[1,1,0,1,0,1]
def ado:List Nat:=ar0++[0]
def ar1:List Nat:=[1,1,0,1,1,1,0,1]
def adp:List Nat:=ar1++[0]
def e125(J:Q33)(m:Nat):=evAt Tryz.prog env (ct m) J (m+1) 234 39 Tryz.f234 ahu
def ahw(J:Q33)(m:Nat):=loopAt Tryz.prog env (ct m) J (m+1) 234 39 Tryz.f234 ahu
def adq(a:List Dt)(b c d e:Int):St:=⟨tsOf [(1,(.fn 235 [.ptr 0 [] 0,.ptr 1 [] 0])),(13,.dat 23 (.lst a)),(14,.dat 3 (.int b)),(15,.dat 3 (.int c))],[.box 3 (.dat 3 (.int d)),.box 3 (.dat 3 (.int e))],2⟩
def adr(a:List Dt)(b c d e:Int):St:=⟨tsOf [(1,(.fn 235 [.ptr 0 [] 0,.ptr 1 [] 0])),(27,.dat 24 (.lst a)),(28,.dat 3 (.int b)),(29,.dat 3 (.int c))],[.box 3 (.dat 3 (.int d)),.box 3 (.dat 3 (.int e))],2⟩
theorem Qe m:∀a c d b e f,ahw jn m ado [] a (adq c d b e f)=D5 m (Fy m) a c d b e f
 |0,_,_,_,_,_=>rfl
 |a+1,c,d,b,e,f=>
  tl (g:=fun J=>cond (b<d) ((idx c b).bind fun i=>(Fy m i e f).bind fun h=>cond (!h.1) (some (h.2.1,h.2.2)) (jj J 1 4 a (adq c d (wrap .i64 (b+1)) h.2.1 h.2.2) (ahw J m ado [] a))) (some (e,f))) (by simp only[aM,(Qe m a)];rfl)
theorem Qf m:∀a c d b e f,ahw jn m adp [] a (adr c d b e f)=D6 m (Fy m) a c d b e f
 |0,_,_,_,_,_=>rfl
 |a+1,c,d,b,e,f=>
  tl (g:=fun J=>cond (b<d) ((idx c b).bind fun i=>(Fy m (fld i 1) e f).bind fun h=>cond (!h.1) (some (h.2.1,h.2.2)) (jj J 1 10 a (adr c d (wrap .i64 (b+1)) h.2.1 h.2.2) (ahw J m adp [] a))) (some (e,f))) (by simp only[aM,(Qf m a)];rfl)
theorem aoD m a b c:e125 jn m [] [] ⟨[.dat 26 a,(.fn 235 [.ptr 0 [] 0,.ptr 1 [] 0])],[.box 3 (.dat 3 (.int b)),.box 3 (.dat 3 (.int c))],2⟩=agr (m+1) a b c:=
 tq (g:=fun J=>cond (I a 0==6) (jj J 1 4 (succ m) (adq (L a 3) ((L a 3).length:Int) 0 b c) (ahw J m ado [] (succ m))) (cond (I a 0==5) (jj J 1 10 (succ m) (adr (L a 4) ((L a 4).length:Int) 0 b c) (ahw J m adp [] (succ m))) (some (b,c)))) (by simp only[aM,Qe m,Qf m];rfl)
def e126(J:Q54)(m:Nat):=evAt Tryz.prog env (ct m) J (m+1) 235 15 Tryz.f235 aou
theorem aoE m c a b:e126 jn m [] [] ⟨[.dat 26 c,.ptr 0 [] 0,.ptr 1 [] 0],[.box 3 (.dat 3 (.int a)),.box 3 (.dat 3 (.int b))],2⟩=Fy (m+1) c a b:=
 tq (g:=fun J=>(kZ m c (wrap .i64 (b-a))).bind fun d=>some (decide (wrap .i64 (a+d)<b),wrap .i64 (a+d),b)) (by rfl)
def e81(J:Q2)(m:Nat):=evAt Tryz.prog env (ct m) J (m+1) 169 5 Tryz.f169 d39
theorem Qg m a:e81 jn m [] [] ⟨[.dat 26 a],[],0⟩=nQ (m+1) a:=
 tq (g:=fun J=>(kZ m a 1025).bind fun b=>some b) (by rfl)
def e115(J:Q2)(m:Nat):=evAt Tryz.prog env (ct m) J (m+1) 219 13 Tryz.f219 d39
theorem Qh m b a:e115 jn m [] [] ⟨[.dat 26 b,.dat 3 (.int a)],[],0⟩=lg (m+1) b a:=
 tq (g:=fun J=>cond (a==1) (some 1) ((i127 m b 0 a).bind fun c=>some (wrap .i64 (1+c.1)))) (by rfl)
def ar3:List Nat:=[1,1,0,1,0,1]
def ads:List Nat:=ar3++[0]
def ar4:List Nat:=[1,1,0,1,1,1,0,1]
def adt:List Nat:=ar4++[0]
def e127(J:Q33)(m:Nat):=evAt Tryz.prog env (ct m) J (m+1) 234 39 Tryz.f234 ahu
def ahx(J:Q33)(m:Nat):=loopAt Tryz.prog env (ct m) J (m+1) 234 39 Tryz.f234 ahu
def adu(a:List Dt)(b c d e:Int):St:=⟨tsOf [(1,(.fn 236 [.ptr 0 [] 0,.ptr 1 [] 0])),(13,.dat 23 (.lst a)),(14,.dat 3 (.int b)),(15,.dat 3 (.int c))],[.box 3 (.dat 3 (.int d)),.box 3 (.dat 3 (.int e))],2⟩
def adv(a:List Dt)(b c d e:Int):St:=⟨tsOf [(1,(.fn 236 [.ptr 0 [] 0,.ptr 1 [] 0])),(27,.dat 24 (.lst a)),(28,.dat 3 (.int b)),(29,.dat 3 (.int c))],[.box 3 (.dat 3 (.int d)),.box 3 (.dat 3 (.int e))],2⟩
theorem Qi m:∀a c d b e f,ahx jn m ads [] a (adu c d b e f)=D7 m (Fz m) a c d b e f
 |0,_,_,_,_,_=>rfl
 |a+1,c,d,b,e,f=>
  tl (g:=fun J=>cond (b<d) ((idx c b).bind fun i=>(Fz m i e f).bind fun h=>cond (!h.1) (some (h.2.1,h.2.2)) (jj J 1 4 a (adu c d (wrap .i64 (b+1)) h.2.1 h.2.2) (ahx J m ads [] a))) (some (e,f))) (by simp only[aM,(Qi m a)];rfl)
theorem Qj m:∀a c d b e f,ahx jn m adt [] a (adv c d b e f)=D8 m (Fz m) a c d b e f
 |0,_,_,_,_,_=>rfl
 |a+1,c,d,b,e,f=>
  tl (g:=fun J=>cond (b<d) ((idx c b).bind fun i=>(Fz m (fld i 1) e f).bind fun h=>cond (!h.1) (some (h.2.1,h.2.2)) (jj J 1 10 a (adv c d (wrap .i64 (b+1)) h.2.1 h.2.2) (ahx J m adt [] a))) (some (e,f))) (by simp only[aM,(Qj m a)];rfl)
theorem aoF m a b c:e127 jn m [] [] ⟨[.dat 26 a,(.fn 236 [.ptr 0 [] 0,.ptr 1 [] 0])],[.box 3 (.dat 3 (.int b)),.box 3 (.dat 3 (.int c))],2⟩=i127 (m+1) a b c:=
 tq (g:=fun J=>cond (I a 0==6) (jj J 1 4 (succ m) (adu (L a 3) ((L a 3).length:Int) 0 b c) (ahx J m ads [] (succ m))) (cond (I a 0==5) (jj J 1 10 (succ m) (adv (L a 4) ((L a 4).length:Int) 0 b c) (ahx J m adt [] (succ m))) (some (b,c)))) (by simp only[aM,Qi m,Qj m];rfl)
def e128(J:Q54)(m:Nat):=evAt Tryz.prog env (ct m) J (m+1) 236 15 Tryz.f236 aou
theorem aoG m d a b:e128 jn m [] [] ⟨[.dat 26 d,.ptr 0 [] 0,.ptr 1 [] 0],[.box 3 (.dat 3 (.int a)),.box 3 (.dat 3 (.int b))],2⟩=Fz (m+1) d a b:=
 tq (g:=fun J=>(lg m d (wrap .i64 (b-1))).bind fun c=>some (decide (cond (a<c) c a<wrap .i64 (b-1)),cond (a<c) c a,b)) (by rfl)
def e82(J:Q2)(m:Nat):=evAt Tryz.prog env (ct m) J (m+1) 170 5 Tryz.f170 d39
theorem Qk m a:e82 jn m [] [] ⟨[.dat 26 a],[],0⟩=nR (m+1) a:=
 tq (g:=fun J=>(lg m a 17).bind fun b=>some b) (by rfl)
def adw:List Nat:=[1,1,0,1,0]
def e118(J:Q2)(m:Nat):=evAt Tryz.prog env (ct m) J (m+1) 62 25 Tryz.f62 d39
def ar5(J:Q2)(m:Nat):=loopAt Tryz.prog env (ct m) J (m+1) 62 25 Tryz.f62 d39
def adx(a:ByteArray)(b:Int)(c:Dt):St:=⟨tsOf [(1,.dat 9 (.str a)),(2,.ptr 0 [] 0),(5,.dat 3 (.int b))],[.box 26 (.dat 26 c)],0⟩
theorem Dr m:∀b d a c,ar5 jn m adw [] b (adx d a c)=nS m b d a c
 |0,_,_,_=>rfl
 |b+1,d,a,c=>
  tl (g:=fun J=>bif a<((L c 4).length:Int)then(idx (L c 4) a).bind fun e=>cond ((S e 0).toList==d.toList) (some a) (jj J 1 4 b (adx d (wrap .i64 (a+1)) c) (ar5 J m adw [] b))else some (-1)) (by simp only[aM,(Dr m b)];rfl)
theorem aaE m a b:e118 jn m [] [] ⟨[.dat 26 a,.dat 9 (.str b)],[],0⟩=ni (m+1) a b:=
 tq (g:=fun J=>cond (I a 0 !=5) (some (-1)) (jj J 1 4 (succ m) (adx b 0 a) (ar5 J m adw [] (succ m)))) (by simp only[aM,Dr m];rfl)
def e84(J:Q88)(m:Nat):=evAt Tryz.prog env (ct m) J (m+1) 23 19 Tryz.f23 d84
theorem XI m a b:e84 jn m [] [] ⟨[.dat 26 a,.dat 9 (.str b)],[],0⟩=sJ (m+1) a b:=
 tq (g:=fun J=>(ni m a b).bind fun c=>cond (c<0) (some (aj,false)) ((idx (L a 4) c).bind fun d=>some (fld d 1,true))) (by rfl)
def avw:List Nat:=[1,1,0,1,0,1,1,1,0,1,0,1]
def afQ:List Nat:=avw++[0]
def e52(J:Q0)(m:Nat):=evAt Tryz.prog env (ct m) J (m+1) 124 59 Tryz.f124 d20
def l52(J:Q0)(m:Nat):=loopAt Tryz.prog env (ct m) J (m+1) 124 59 Tryz.f124 d20
def afR(a:List Dt)(b:Int)(c d:Dt)(e f:Int)(g:ByteArray)(h i:List Dt):St:=⟨tsOf [(1,.dat 22 (.lst a)),(2,.ptr 0 [] 0),(4,.ptr 1 [] 0),(7,.ptr 2 [] 0),(8,.dat 3 (.int b))],[.box 26 (.dat 26 c),.box 26 (.dat 26 d),.box 26 (.agg 26 [.dat 3 (.int e),.dat 3 (.int f),.dat 9 (.str g),.row 3,.row 4]),.row 23 h,.row 24 i],0⟩
theorem Du m:∀a d b c k e f h i j,l52 jn m afQ [] a (afR d b c k e f h i j)=sK m (iA m) a d b c k e f h i j
 |0,_,_,_,_,_,_,_,_,_=>rfl
 |a+1,d,b,c,k,e,f,h,i,j=>
  tl (g:=fun J=>bif b<((L c 3).length:Int)then(idx (L c 3) b).bind fun n=>(iA m n d).bind fun l=>cond (I l 0 !=0) ((app i [l]).bind fun o=>jj J 1 11 a (afR d (wrap .i64 (b+1)) c k e f h o j) (l52 J m afQ [] a)) (jj J 1 11 a (afR d (wrap .i64 (b+1)) c k e f h i j) (l52 J m afQ [] a))else some (agg [int e,int f,str h,lst i,lst j])) (by simp only[aM,(Du m a)];rfl)
theorem aaF m a b:e52 jn m [] [] ⟨[.dat 26 a,.dat 22 (.lst b)],[],0⟩=iA (m+1) a b:=
 tq (g:=fun J=>cond ((b.length:Int)==0) (some a) (cond (I a 0==5) ((idx b 0).bind fun d=>(sJ m a (toStr d)).bind fun c=>cond c.2 ((cutL b 1 (b.length:Int)).bind fun e=>(iA m c.1 e).bind fun f=>some f) (some aj)) (cond (I a 0==6) (jj J 1 11 (succ m) (afR b 0 a aj 6 0 (ByteArray.mk (List.toArray [])) [] []) (l52 J m afQ [] (succ m))) (some aj)))) (by simp only[aM,Du m];rfl)
def e119(J:Q1)(m:Nat):=evAt Tryz.prog env (ct m) J (m+1) 222 19 Tryz.f222 d5
def ar6(J:Q1)(m:Nat):=loopAt Tryz.prog env (ct m) J (m+1) 222 19 Tryz.f222 d5
def ady(a:List Dt)(b c:Int):St:=⟨tsOf [(0,.dat 23 (.lst a)),(1,.dat 3 (.int b)),(5,.dat 3 (.int c))],[],0⟩
theorem yU m:∀a b d c,ar6 jn m [1,0,1,0] [] a (ady b d c)=qw m a b d c
 |0,_,_,_=>rfl
 |a+1,b,d,c=>
  tl (g:=fun J=>bif c<(b.length:Int)then(idx b c).bind fun e=>cond (I e 0 !=d) (some false) (jj J 1 2 a (ady b d (wrap .i64 (c+1))) (ar6 J m [1,0,1,0] [] a))else some true) (by simp only[aM,(yU m a)];rfl)
theorem Ql m a b:e119 jn m [] [] ⟨[.dat 23 (.lst a),.dat 3 (.int b)],[],0⟩=iY (m+1) a b:=
 tq (g:=fun J=>jj J 1 2 (succ m) (ady a b 0) (ar6 J m [1,0,1,0] [] (succ m))) (by simp only[aM,yU m];rfl)
def alW:List Nat:=[1,1,1,0,1,0]
def e90(J:Q0)(m:Nat):=evAt Tryz.prog env (ct m) J (m+1) 177 29 Tryz.f177 d20
def l90(J:Q0)(m:Nat):=loopAt Tryz.prog env (ct m) J (m+1) 177 29 Tryz.f177 d20
def alX(a:List Dt)(b:ByteArray)(c:Int)(d:Dt):St:=⟨tsOf [(0,.dat 23 (.lst a)),(2,.ptr 0 [] 0),(3,.dat 9 (.str b)),(4,.dat 3 (.int c))],[.box 26 (.dat 26 d)],0⟩
theorem xK m:∀b c a d e,l90 jn m alW [] b (alX c a d e)=oG m b c a d e
 |0,_,_,_,_=>rfl
 |b+1,c,a,d,e=>
  tl (g:=fun J=>cond (d<(c.length:Int)) (bif (a.size:Int)<=4096 then(idx c d).bind fun h=>cond (Nat.ble (a.size+(S h 2).size) 1152921504606846976) (jj J 1 5 b (alX c (a++S h 2) (wrap .i64 (d+1)) e) (l90 J m alW [] b)) none else(jY m a).bind fun f=>some f) ((jY m a).bind fun f=>some f)) (by simp only[aM,(xK m b)];rfl)
theorem MC m a:e90 jn m [] [] ⟨[.dat 23 (.lst a)],[],0⟩=lC (m+1) a:=
 tq (g:=fun J=>(iY m a 4).bind fun b=>cond (!b) ((cK m).bind fun c=>some c) (jj J 1 5 (succ m) (alX a (ByteArray.mk (List.toArray [])) 0 aj) (l90 J m alW [] (succ m)))) (by simp only[aM,xK m];rfl)
def alY:List Nat:=[1,1,1,0,1,0]
def e98(J:Q0)(m:Nat):=evAt Tryz.prog env (ct m) J (m+1) 185 26 Tryz.f185 d20
def l98(J:Q0)(m:Nat):=loopAt Tryz.prog env (ct m) J (m+1) 185 26 Tryz.f185 d20
def alZ(a:List Dt)(b:Int)(c:Dt)(d e:Int)(f:ByteArray)(g h:List Dt):St:=⟨tsOf [(0,.dat 23 (.lst a)),(2,.ptr 0 [] 0),(3,.ptr 1 [] 0),(4,.dat 3 (.int b))],[.box 26 (.dat 26 c),.box 26 (.agg 26 [.dat 3 (.int d),.dat 3 (.int e),.dat 9 (.str f),.row 2,.row 3]),.row 23 g,.row 24 h],0⟩
theorem Av m:∀a b c j d e f h i,l98 jn m alY [] a (alZ b c j d e f h i)=rz m a b c j d e f h i
 |0,_,_,_,_,_,_,_,_=>rfl
 |a+1,b,c,j,d,e,f,h,i=>
  tl (g:=fun J=>bif c<(b.length:Int)then(idx b c).bind fun k=>(app h (L k 3)).bind fun l=>jj J 1 5 a (alZ b (wrap .i64 (c+1)) j d e f l i) (l98 J m alY [] a)else some (agg [int d,int e,str f,lst h,lst i])) (by simp only[aM,(Av m a)];rfl)
theorem Sq m a:e98 jn m [] [] ⟨[.dat 23 (.lst a)],[],0⟩=qx (m+1) a:=
 tq (g:=fun J=>(iY m a 6).bind fun b=>cond (!b) ((cK m).bind fun c=>some c) (jj J 1 5 (succ m) (alZ a 0 aj 6 0 (ByteArray.mk (List.toArray [])) [] []) (l98 J m alY [] (succ m)))) (by simp only[aM,Av m];rfl)
def adz:List Nat:=[1,1,1,0,1]
def e120(J:Q2)(m:Nat):=evAt Tryz.prog env (ct m) J (m+1) 223 29 Tryz.f223 d39
def adA(a:Int)(b:Bool):St:=⟨tsOf [(5,.dat 3 (.int a)),(25,.dat 4 (.bool b))],[],0⟩
theorem Dv m a b:e120 jn m adz [] (adA a b)=lD m a b:=
 tq (g:=fun J=>cond b (some (wrap .i64 (a-1))) (some a)) (by rfl)
theorem IZ m b a:e120 jn m [] [] ⟨[.dat 3 (.int b),.dat 3 (.int a)],[],0⟩=eZ (m+1) b a:=
 tq (g:=fun J=>cond (a==(-1)) (some (wrap .i64 (0-b))) (cond (a=0) none (cond (a=0) none (cond (Int.tmod b a !=0) (cond (a=0) none (jj J 0 5 0 (adA (wrap .i64 (Int.tdiv b a)) (!decide (Int.tmod b a<0)==decide (a<0))) (e120 J m adz []))) (jj J 0 5 0 (adA (wrap .i64 (Int.tdiv b a)) false) (e120 J m adz [])))))) (by simp only[aM,Dv m];rfl)
def avx:List Nat:=[1,1,1,1,0,1]
def aaG:List Nat:=avx++[0]
def e87(J:Q0)(m:Nat):=evAt Tryz.prog env (ct m) J (m+1) 174 96 Tryz.f174 d20
def l87(J:Q0)(m:Nat):=loopAt Tryz.prog env (ct m) J (m+1) 174 96 Tryz.f174 d20
def aaH(a:Int)(b:List Dt)(c d:Int)(e:Dt):St:=⟨tsOf [(0,.dat 3 (.int a)),(1,.dat 23 (.lst b)),(4,.ptr 0 [] 0),(5,.dat 3 (.int c)),(6,.dat 3 (.int d))],[.box 26 (.dat 26 e)],0⟩
def aaI(a:Int)(b:List Dt)(c:Bool)(d:Dt):St:=⟨tsOf [(0,.dat 3 (.int a)),(1,.dat 23 (.lst b)),(4,.ptr 0 [] 0),(24,.dat 4 (.bool c))],[.box 26 (.dat 26 d)],0⟩
theorem xL m:∀c b a f d h,l87 jn m aaG [] c (aaH b a f d h)=jA m c b a f d h
 |0,_,_,_,_,_=>rfl
 |c+1,b,a,f,d,h=>
  tl (g:=fun J=>cond (d<(a.length:Int)) (bif b==6 then(idx a d).bind fun o=>jj J 1 7 c (aaH b a (wrap .i64 (f*I o 1)) (wrap .i64 (d+1)) h) (l87 J m aaG [] c)else(idx a d).bind fun p=>jj J 1 7 c (aaH b a (wrap .i64 (f+I p 1)) (wrap .i64 (d+1)) h) (l87 J m aaG [] c)) (cond (b==5) ((idx a 0).bind fun q=>(idx a 1).bind fun r=>(dX m (wrap .i64 (I q 1-I r 1))).bind fun e=>some e) (cond (b==7) ((idx a 0).bind fun s=>(idx a 1).bind fun t=>(eZ m (I s 1) (I t 1)).bind fun u=>(dX m u).bind fun e=>some e) (cond (b==8) ((idx a 0).bind fun i=>(idx a 1).bind fun j=>(idx a 0).bind fun k=>(idx a 1).bind fun l=>(eZ m (I k 1) (I l 1)).bind fun n=>(dX m (wrap .i64 (I i 1-wrap .i64 (I j 1*n)))).bind fun e=>some e) ((dX m f).bind fun e=>some e))))) (by simp only[aM,(xL m c)];rfl)
theorem Gs m a b d c:e87 jn m [1,0,1] [] (aaI a b d c)=jB m a b d c:=
 tq (g:=fun J=>cond d ((cK m).bind fun e=>some e) (cond (a==6) (jj J 1 7 (succ m) (aaH a b 1 0 c) (l87 J m aaG [] (succ m))) (jj J 1 7 (succ m) (aaH a b 0 0 c) (l87 J m aaG [] (succ m))))) (by simp only[aM,xL m];rfl)
theorem ME m b a:e87 jn m [] [] ⟨[.dat 3 (.int b),.dat 23 (.lst a)],[],0⟩=fU (m+1) b a:=
 tq (g:=fun J=>(iY m a 3).bind fun e=>cond (!e) (jj J 0 2 0 (aaI b a true aj) (e87 J m [1,0,1] [])) (cond (b==7) ((idx a 1).bind fun c=>jj J 0 2 0 (aaI b a (I c 1==0) aj) (e87 J m [1,0,1] [])) (cond (b==8) ((idx a 1).bind fun d=>jj J 0 2 0 (aaI b a (I d 1==0) aj) (e87 J m [1,0,1] [])) (jj J 0 2 0 (aaI b a false aj) (e87 J m [1,0,1] []))))) (by simp only[aM,Gs m];rfl)
def awH(J:Q1)(m:Nat):=evAt Tryz.prog env (ct m) J (m+1) 224 9 Tryz.f224 d5
theorem Qm m a b:awH jn m [] [] ⟨[.dat 26 a,.dat 26 b],[],0⟩=jN (m+1) a b:=
 tq (g:=fun J=>(bF m a b).bind fun c=>some (c==0)) (by rfl)
def e97(J:Q1)(m:Nat):=evAt Tryz.prog env (ct m) J (m+1) 184 18 Tryz.f184 d5
def l97(J:Q1)(m:Nat):=loopAt Tryz.prog env (ct m) J (m+1) 184 18 Tryz.f184 d5
def al0(a:List Dt)(b:Int)(c:Dt):St:=⟨tsOf [(0,.dat 23 (.lst a)),(3,.ptr 0 [] 0),(5,.dat 3 (.int b))],[.box 26 (.dat 26 c)],0⟩
theorem vN m:∀a b c d,l97 jn m [1,0,1,0] [] a (al0 b c d)=lF m a b c d
 |0,_,_,_=>rfl
 |a+1,b,c,d=>
  tl (g:=fun J=>bif c<(b.length:Int)then(idx b c).bind fun e=>(jN m e d).bind fun f=>cond f (some true) (jj J 1 2 a (al0 b (wrap .i64 (c+1)) d) (l97 J m [1,0,1,0] [] a))else some false) (by simp only[aM,(vN m a)];rfl)
theorem I4 m a b:e97 jn m [] [] ⟨[.dat 23 (.lst a),.dat 26 b],[],0⟩=j5 (m+1) a b:=
 tq (g:=fun J=>jj J 1 2 (succ m) (al0 a 0 b) (l97 J m [1,0,1,0] [] (succ m))) (by simp only[aM,vN m];rfl)
def adB:List Nat:=[1,1,1,1,1,1]
def ar7:List Nat:=[1,1,1,1,0,1]
def XJ:List Nat:=ar7++[0]
def aoH(J:Q0)(m:Nat):=evAt Tryz.prog env (ct m) J (m+1) 105 50 Tryz.f105 d20
def aoI(J:Q0)(m:Nat):=loopAt Tryz.prog env (ct m) J (m+1) 105 50 Tryz.f105 d20
def XK(a:ByteArray)(b c:Int)(d e f:Dt)(g:List Dt):St:=⟨tsOf [(1,.dat 9 (.str a)),(3,.ptr 0 [] 0),(5,.ptr 1 [] 0),(6,.ptr 2 [] 0),(7,.dat 3 (.int b)),(8,.row 3),(9,.dat 3 (.int c))],[.box 26 (.dat 26 d),.box 26 (.dat 26 e),.box 26 (.dat 26 f),.row 24 g],0⟩
def adC(a b:Dt)(c:List Dt):St:=⟨tsOf [(3,.ptr 0 [] 0),(6,.ptr 1 [] 0),(8,.row 2)],[.box 26 (.dat 26 a),.box 26 (.dat 26 b),.row 24 c],0⟩
theorem MF m a c b:aoH jn m adB [] (adC a c b)=sW m a c b:=
 tq (g:=fun J=>some (agg [int (I a 0),int (I a 1),str (S a 2),lst (L a 3),lst b])) (by rfl)
theorem BM m:∀b i d c a e f h,aoI jn m XJ [] b (XK i d c a e f h)=lG m b i d c a e f h
 |0,_,_,_,_,_,_,_=>rfl
 |b+1,i,d,c,a,e,f,h=>
  tl (g:=fun J=>bif c<((L a 4).length:Int)then(idx (L a 4) c).bind fun k=>bif c==d then(app h [agg [str (S k 0),e]]).bind fun j=>jj J 1 6 b (XK i d (wrap .i64 (c+1)) a e f j) (aoI J m XJ [] b)else(app h [k]).bind fun j=>jj J 1 6 b (XK i d (wrap .i64 (c+1)) a e f j) (aoI J m XJ [] b)else cond (d<0) ((app h [agg [str i,e]]).bind fun l=>jj J 0 14 0 (adC a f l) (aoH J m adB [])) (jj J 0 14 0 (adC a f h) (aoH J m adB []))) (by simp only[aM,(BM m b),MF m];rfl)
theorem XL m a b c:aoH jn m [] [] ⟨[.dat 26 a,.dat 9 (.str b),.dat 26 c],[],0⟩=pG (m+1) a b c:=
 tq (g:=fun J=>cond (I a 0 !=5) (some a) ((ni m a b).bind fun d=>jj J 1 6 (succ m) (XK b d 0 a c aj []) (aoI J m XJ [] (succ m)))) (by simp only[aM,BM m];rfl)
def Ve:List Nat:=[1,1,0,1,0]
def avy:List Nat:=[1,1,0,1,0,0,1]
def avz:List Nat:=avy++[0,0,1]
def avA:List Nat:=avz++[1]
def avB:List Nat:=avA++[1]
def al1:List Nat:=avB++[0]
def e99(J:Q0)(m:Nat):=evAt Tryz.prog env (ct m) J (m+1) 186 65 Tryz.f186 d20
def l99(J:Q0)(m:Nat):=loopAt Tryz.prog env (ct m) J (m+1) 186 65 Tryz.f186 d20
def Vf(a:List Dt)(b:Int)(c d:Dt):St:=⟨tsOf [(0,.dat 23 (.lst a)),(2,.ptr 0 [] 0),(3,.ptr 1 [] 0),(4,.dat 3 (.int b))],[.box 26 (.dat 26 c),.box 26 (.dat 26 d)],0⟩
def al2(a:List Dt)(b c:Int)(d e:Dt):St:=⟨tsOf [(0,.dat 23 (.lst a)),(2,.ptr 0 [] 0),(3,.ptr 1 [] 0),(4,.dat 3 (.int b)),(5,.dat 3 (.int c))],[.box 26 (.dat 26 d),.box 26 (.dat 26 e)],0⟩
abbrev avD(m f:Nat)(a:Q30):Prop:=∀b c d e,l99 jn m Ve [] f (Vf b c d e)=a b c d e
theorem yV m e a(j:avD m e a):∀f b c d h i,l99 jn m al1 [e] f (al2 b c d h i)=qy m a f b c d h i
 |0,_,_,_,_,_=>rfl
 |f+1,b,c,d,h,i=>
  tl (g:=fun J=>(idx b c).bind fun k=>bif d<((L k 4).length:Int)then(idx b c).bind fun l=>(idx (L l 4) d).bind fun n=>(idx b c).bind fun o=>(idx (L o 4) d).bind fun p=>(pG m i (S n 0) (fld p 1)).bind fun q=>jj J 1 9 f (al2 b c (wrap .i64 (d+1)) h q) (l99 J m al1 [e] f)else jj J 1 3 e (Vf b (wrap .i64 (c+1)) h i) (l99 J m Ve [] e)) (by simp only[aM,(yV m e a j f),j];rfl)
theorem tY m:∀a b c e d,l99 jn m Ve [] a (Vf b c e d)=fu m a b c e d
 |0,_,_,_,_=>rfl
 |a+1,b,c,e,d=>
  tl (g:=fun J=>bif c<(b.length:Int)then(idx b c).bind fun f=>cond (I f 0==0) (jj J 1 3 a (Vf b (wrap .i64 (c+1)) e d) (l99 J m Ve [] a)) ((idx b c).bind fun h=>cond (I h 0==2) (jj J 1 3 a (Vf b (wrap .i64 (c+1)) e d) (l99 J m Ve [] a)) ((idx b c).bind fun i=>cond (I i 0 !=5) ((cK m).bind fun j=>some j) (jj J 1 9 (succ m) (al2 b c 0 e d) (l99 J m al1 [a] (succ m)))))else some d) (by simp only[aM,(tY m a),yV m a (fu m a) (tY m a)];rfl)
theorem Qn m a:e99 jn m [] [] ⟨[.dat 23 (.lst a)],[],0⟩=nT (m+1) a:=
 tq (g:=fun J=>jj J 1 3 (succ m) (Vf a 0 aj M9) (l99 J m Ve [] (succ m))) (by simp only[aM,tY m];rfl)
def KY:List Nat:=[1,0,1,0,1]
def Qo:List Nat:=[1,0,1,0,1,1,1]
def al3:List Nat:=Qo++[1,1,1,1,1,1,0,0,1]
def Qp:List Nat:=Qo++[1,1,1,1,1,1,1,1,1,1]
def KZ:List Nat:=Qp++[1,1,1,1]
def ar8:List Nat:=KZ++[1,1,1,1,1,1,1,1,0,1,0,1]
def aaJ:List Nat:=ar8++[0]
def ar9:List Nat:=KZ++[1,1,1,1,1,1,1,1,1,1,0,1,0,1]
def avE:List Nat:=aaJ++[0,1]
def adD:List Nat:=ar9++[0]
def al4:List Nat:=avE++[1]
def e54(J:Q0)(m:Nat):=evAt Tryz.prog env (ct m) J (m+1) 126 223 Tryz.f126 d20
def l54(J:Q0)(m:Nat):=loopAt Tryz.prog env (ct m) J (m+1) 126 223 Tryz.f126 d20
def al5(a:List Dt)(b:Bool)(c:Dt):St:=⟨tsOf [(1,.dat 23 (.lst a)),(4,.ptr 0 [] 0),(61,.dat 4 (.bool b))],[.box 26 (.dat 26 c)],0⟩
def Gt(a:List Dt)(b:Int)(c d:Dt)(e f:Int)(g:ByteArray)(h i:List Dt):St:=⟨tsOf [(1,.dat 23 (.lst a)),(2,.ptr 0 [] 0),(4,.ptr 1 [] 0),(5,.ptr 2 [] 0),(6,.dat 3 (.int b))],[.box 29 (.dat 29 c),.box 26 (.dat 26 d),.box 26 (.agg 26 [.dat 3 (.int e),.dat 3 (.int f),.dat 9 (.str g),.row 3,.row 4]),.row 23 h,.row 24 i],0⟩
def adE(a:List Dt)(b:Int)(c:Dt)(d e:Int)(f:ByteArray)(g h:List Dt):St:=⟨tsOf [(1,.dat 23 (.lst a)),(4,.ptr 0 [] 0),(7,.ptr 1 [] 0),(8,.dat 3 (.int b))],[.box 26 (.dat 26 c),.box 26 (.agg 26 [.dat 3 (.int d),.dat 3 (.int e),.dat 9 (.str f),.row 2,.row 3]),.row 23 g,.row 24 h],0⟩
def afS(a:List Dt)(b:Int)(c:Bool)(d e:Dt):St:=⟨tsOf [(1,.dat 23 (.lst a)),(2,.ptr 0 [] 0),(4,.ptr 1 [] 0),(10,.dat 3 (.int b)),(112,.dat 4 (.bool c))],[.box 29 (.dat 29 d),.box 26 (.dat 26 e)],0⟩
def afT(a:List Dt)(b:Int)(c:Bool)(d e:Dt):St:=⟨tsOf [(1,.dat 23 (.lst a)),(2,.ptr 0 [] 0),(4,.ptr 1 [] 0),(10,.dat 3 (.int b)),(72,.dat 4 (.bool c))],[.box 29 (.dat 29 d),.box 26 (.dat 26 e)],0⟩
def al6(a:List Dt)(b:Int)(c:Bool)(d e:Dt):St:=⟨tsOf [(1,.dat 23 (.lst a)),(2,.ptr 0 [] 0),(4,.ptr 1 [] 0),(10,.dat 3 (.int b)),(21,.dat 4 (.bool c))],[.box 29 (.dat 29 d),.box 26 (.dat 26 e)],0⟩
def Vg(a:List Dt)(b:Int)(c:Bool)(d e:Dt):St:=⟨tsOf [(1,.dat 23 (.lst a)),(2,.ptr 0 [] 0),(4,.ptr 1 [] 0),(10,.dat 3 (.int b)),(11,.dat 4 (.bool c))],[.box 29 (.dat 29 d),.box 26 (.dat 26 e)],0⟩
theorem I5 m a b e:e54 jn m al3 [] (al5 a b e)=sZ m a b e:=
 tq (g:=fun J=>cond b ((idx a 1).bind fun c=>some c) ((idx a 0).bind fun d=>some d)) (by rfl)
abbrev asa(m b:Nat)(a:Q41):Prop:=∀c d e f g h i j k,l54 jn m aaJ [] b (Gt c d e f g h i j k)=a c d e f g h i j k
theorem Gu m b a(c:asa m b a) d e f h i j k l n:e54 jn m al4 [b] (Gt d e f h i j k l n)=rX m a d e f h i j k l n:=
 tq (g:=fun J=>jj J 1 48 b (Gt d (wrap .i64 (e+1)) f h i j k l n) (l54 J m aaJ [] b)) (by simp only[aM,c];rfl)
theorem xM m:∀a c b d k e f h i j,l54 jn m aaJ [] a (Gt c b d k e f h i j)=jC m a c b d k e f h i j
 |0,_,_,_,_,_,_,_,_,_=>rfl
 |a+1,c,b,d,k,e,f,h,i,j=>
  tl (g:=fun J=>bif b<(c.length:Int)then(idx c b).bind fun l=>cond (I l 0 !=0) ((idx (L d 3) b).bind fun n=>(idx c b).bind fun o=>(app j [agg [str (toStr n),o]]).bind fun p=>jj J 0 49 0 (Gt c b d k e f h i p) (e54 J m al4 [a])) (jj J 0 49 0 (Gt c b d k e f h i j) (e54 J m al4 [a]))else some (agg [int e,int f,str h,lst i,lst j])) (by simp only[aM,Gu m a (jC m a) (xM m a)];rfl)
theorem xO m:∀a b c j d e f h i,l54 jn m adD [] a (adE b c j d e f h i)=oH m a b c j d e f h i
 |0,_,_,_,_,_,_,_,_=>rfl
 |a+1,b,c,j,d,e,f,h,i=>
  tl (g:=fun J=>bif c<(b.length:Int)then(idx b c).bind fun k=>(nV m k).bind fun l=>(app h [l]).bind fun n=>jj J 1 56 a (adE b (wrap .i64 (c+1)) j d e f n i) (l54 J m adD [] a)else some (agg [int d,int e,str f,lst h,lst i])) (by simp only[aM,(xO m a)];rfl)
theorem I6 m a b e c d:e54 jn m KZ [] (afS a b e c d)=tu m a b e c d:=
 tq (g:=fun J=>cond e ((idx a 0).bind fun f=>(lZ m (I c 0) f).bind fun h=>some h) (cond (b==27) ((idx a 0).bind fun i=>(idx a 1).bind fun j=>(jG m i j).bind fun k=>some k) (cond (b==28) ((idx a 1).bind fun l=>cond (I l 0 !=6) ((cK m).bind fun n=>some n) ((idx a 1).bind fun o=>(idx a 0).bind fun p=>(j5 m (L o 3) p).bind fun q=>(bW m q).bind fun r=>some r)) (cond (b==29) ((qx m a).bind fun s=>some s) (cond (b==34) (jj J 1 48 (succ m) (Gt a 0 c d 5 0 (ByteArray.mk (List.toArray [])) [] []) (l54 J m aaJ [] (succ m))) (cond (b==35) (jj J 1 56 (succ m) (adE a 0 d 6 0 (ByteArray.mk (List.toArray [])) [] []) (l54 J m adD [] (succ m))) (cond (b==36) ((idx a 0).bind fun t=>(dX m (I t 0)).bind fun u=>some u) (cond (b==37) ((nT m a).bind fun v=>some v) ((idx a 0).bind fun w=>(idx a 1).bind fun x=>(dZ m (I c 0) w x).bind fun y=>some y))))))))) (by simp only[aM,xM m,xO m];rfl)
theorem I7 m a b e c d:e54 jn m Qp [] (afT a b e c d)=tC m a b e c d:=
 tq (g:=fun J=>cond e ((idx a 0).bind fun f=>cond (I f 0 !=4) ((cK m).bind fun h=>some h) (cond (I c 0==24) ((idx a 0).bind fun i=>(dX m ((S i 2).size:Int)).bind fun j=>some j) ((idx a 0).bind fun k=>(gL m (S k 2) (I c 0==23)).bind fun l=>(jY m l).bind fun n=>some n))) (cond (b==25) ((idx a 0).bind fun o=>(idx a 1).bind fun p=>(idx a 2).bind fun q=>(nM m o p q).bind fun r=>some r) (cond (b==26) (jj J 0 36 0 (afS a b (b==26) c d) (e54 J m KZ [])) (cond (b==30) (jj J 0 36 0 (afS a b (b==30) c d) (e54 J m KZ [])) (jj J 0 36 0 (afS a b (b==31) c d) (e54 J m KZ [])))))) (by simp only[aM,I6 m];rfl)
theorem I8 m a b e d c:e54 jn m Qo [] (al6 a b e d c)=wR m a b e d c:=
 tq (g:=fun J=>cond e ((nL m (I d 0) a).bind fun i=>some i) (cond (b==18) ((idx a 0).bind fun j=>(gB m j).bind fun k=>(bW m (!k)).bind fun l=>some l) (cond (b==19) ((idx a 0).bind fun n=>(gB m n).bind fun o=>cond o ((idx a 1).bind fun p=>some p) ((idx a 2).bind fun q=>some q)) (cond (b==20) ((idx a 0).bind fun r=>cond (I r 0==0) (jj J 0 19 0 (al5 a true c) (e54 J m al3 [])) ((idx a 0).bind fun f=>jj J 0 19 0 (al5 a (I f 0==2) c) (e54 J m al3 []))) (cond (b==21) ((lC m a).bind fun h=>some h) (cond (b==22) (jj J 0 26 0 (afT a b (b==22) d c) (e54 J m Qp [])) (cond (b==23) (jj J 0 26 0 (afT a b (b==23) d c) (e54 J m Qp [])) (jj J 0 26 0 (afT a b (b==24) d c) (e54 J m Qp []))))))))) (by simp only[aM,I5 m,I7 m];rfl)
theorem I9 m b a e c d:e54 jn m KY [] (Vg b a e c d)=nu m b a e c d:=
 tq (g:=fun J=>cond e ((fU m (I c 0) b).bind fun f=>some f) (cond (a==16) (jj J 0 10 0 (al6 b a (a==16) c d) (e54 J m Qo [])) (jj J 0 10 0 (al6 b a (a==17) c d) (e54 J m Qo [])))) (by simp only[aM,I8 m];rfl)
theorem Qq m a b:e54 jn m [] [] ⟨[.dat 29 a,.dat 23 (.lst b)],[],0⟩=aV (m+1) a b:=
 tq (g:=fun J=>cond (I a 0==4) (jj J 0 7 0 (Vg b (I a 0) (I a 0==4) a aj) (e54 J m KY [])) (cond (I a 0==5) (jj J 0 7 0 (Vg b (I a 0) (I a 0==5) a aj) (e54 J m KY [])) (cond (I a 0==6) (jj J 0 7 0 (Vg b (I a 0) (I a 0==6) a aj) (e54 J m KY [])) (cond (I a 0==7) (jj J 0 7 0 (Vg b (I a 0) (I a 0==7) a aj) (e54 J m KY [])) (jj J 0 7 0 (Vg b (I a 0) (I a 0==8) a aj) (e54 J m KY [])))))) (by simp only[aM,I9 m];rfl)
def al7:List Nat:=[1,1,1,0,1]
def avG:List Nat:=[1,1,0,1,0,1,1,1,1,1,0,1]
def XM:List Nat:=[1,1,0,1,0,1,1,1,1,1,1,1]
def afU:List Nat:=avG++[0]
def avH:List Nat:=XM++[1,1,0,1]
def al8:List Nat:=avH++[0]
def e36(J:Q0)(m:Nat):=evAt Tryz.prog env (ct m) J (m+1) 85 86 Tryz.f85 d20
def l36(J:Q0)(m:Nat):=loopAt Tryz.prog env (ct m) J (m+1) 85 86 Tryz.f85 d20
def Vh(a b:Dt):St:=⟨tsOf [(6,.ptr 0 [] 0),(7,.ptr 1 [] 0)],[.box 26 (.dat 26 a),.box 26 (.dat 26 b)],0⟩
def al9(a:Bool)(b c:Dt):St:=⟨tsOf [(6,.ptr 0 [] 0),(7,.ptr 1 [] 0),(83,.dat 4 (.bool a))],[.box 26 (.dat 26 b),.box 26 (.dat 26 c)],0⟩
def afV(a:List Dt)(b:Int)(c d e:Dt):St:=⟨tsOf [(2,.dat 161 (.lst a)),(3,.ptr 0 [] 0),(6,.ptr 1 [] 0),(7,.ptr 2 [] 0),(8,.dat 3 (.int b))],[.box 29 (.dat 29 c),.box 26 (.dat 26 d),.box 26 (.dat 26 e)],0⟩
def adF(a:List Dt)(b:Int)(c d e f:Dt)(g:List Dt):St:=⟨tsOf [(2,.dat 161 (.lst a)),(3,.ptr 0 [] 0),(4,.ptr 1 [] 0),(6,.ptr 2 [] 0),(7,.ptr 3 [] 0),(9,.row 4),(10,.dat 3 (.int b))],[.box 29 (.dat 29 c),.box 26 (.dat 26 d),.box 26 (.dat 26 e),.box 26 (.dat 26 f),.row 23 g],0⟩
def ama(a:List Dt)(b:Bool)(c d e f:Dt):St:=⟨tsOf [(2,.dat 161 (.lst a)),(3,.ptr 0 [] 0),(4,.ptr 1 [] 0),(6,.ptr 2 [] 0),(7,.ptr 3 [] 0),(69,.dat 4 (.bool b))],[.box 29 (.dat 29 c),.box 26 (.dat 26 d),.box 26 (.dat 26 e),.box 26 (.dat 26 f)],0⟩
theorem K3 m a c b:e36 jn m al7 [] (al9 a c b)=zH m (bM m) (dK m) a c b:=
 tq (g:=fun J=>cond a ((cK m).bind fun d=>some d) (some b)) (by rfl)
theorem qW m b a:e36 jn m [1,1,1] [] (Vh b a)=fO m (bM m) (dK m) b a:=
 tq (g:=fun J=>cond (I a 0 !=0) ((iX m a).bind fun c=>jj J 0 23 0 (al9 (!c) b a) (e36 J m al7 [])) (jj J 0 23 0 (al9 false b a) (e36 J m al7 []))) (by simp only[aM,K3 m];rfl)
theorem Ay m:∀a b c d e f,l36 jn m afU [] a (afV b c d e f)=pI m (bM m) (dK m) a b c d e f
 |0,_,_,_,_,_=>rfl
 |a+1,b,c,d,e,f=>
  tl (g:=fun J=>bif c<(b.length:Int)then(idx b c).bind fun h=>bif (S h 0).toList==(S d 2).toList then(idx b c).bind fun i=>(iA m (fld i 1) (L d 1)).bind fun j=>jj J 1 15 a (afV b (wrap .i64 (c+1)) d e j) (l36 J m afU [] a)else jj J 1 15 a (afV b (wrap .i64 (c+1)) d e f) (l36 J m afU [] a)else jj J 0 22 0 (Vh e f) (e36 J m [1,1,1] [])) (by simp only[aM,(Ay m a),qW m];rfl)
theorem Az m:∀b d c a e f i h,l36 jn m al8 [] b (adF d c a e f i h)=rA m (bM m) (dK m) b d c a e f i h
 |0,_,_,_,_,_,_,_=>rfl
 |b+1,d,c,a,e,f,i,h=>
  tl (g:=fun J=>bif c<((L a 6).length:Int)then(idx (L a 6) c).bind fun k=>(bM m k e d).bind fun l=>(app h [l]).bind fun n=>jj J 1 5 b (adF d (wrap .i64 (c+1)) a e f i n) (l36 J m al8 [] b)else(aV m a h).bind fun j=>jj J 0 22 0 (Vh f j) (e36 J m [1,1,1] [])) (by simp only[aM,(Az m b),qW m];rfl)
theorem K4 m a e b c d f:e36 jn m XM [] (ama a e b c d f)=zI m (bM m) (dK m) a e b c d f:=
 tq (g:=fun J=>cond e ((dK m b c a).bind fun h=>jj J 0 22 0 (Vh d h) (e36 J m [1,1,1] [])) (jj J 1 5 (succ m) (adF a 0 b c d f []) (l36 J m al8 [] (succ m)))) (by simp only[aM,qW m,Az m];rfl)
theorem Sr m a b c:e36 jn m [] [] ⟨[.dat 29 a,.dat 26 b,.dat 161 (.lst c)],[],0⟩=bM (m+1) a b c:=
 tq (g:=fun J=>cond (I a 0==1) (jj J 0 22 0 (Vh aj (fld a 4)) (e36 J m [1,1,1] [])) (cond (I a 0==2) ((iA m b (L a 1)).bind fun d=>jj J 0 22 0 (Vh aj d) (e36 J m [1,1,1] [])) (cond (I a 0==3) (jj J 1 15 (succ m) (afV c 0 a aj aj) (l36 J m afU [] (succ m))) (cond (I a 0==32) (jj J 0 21 0 (ama c (I a 0==32) a b aj aj) (e36 J m XM [])) (jj J 0 21 0 (ama c (I a 0==33) a b aj aj) (e36 J m XM [])))))) (by simp only[aM,qW m,Ay m,K4 m];rfl)
end Go.Proofs.YtmecfjhdnbgfeaaGreatDoor
noncomputable section
namespace Go.Proofs.YtmecfjhdnbgfeaaGreatDoor
open Nat (succ)
open IntKind (wrap)
open Go.Am Dt
set_option maxRecDepth 100000
def avI:List Nat:=[1,1,1,1,0,1]
def aaK:List Nat:=avI++[0]
def avJ:List Nat:=aaK++[0,1]
def afW:List Nat:=avJ++[1]
def e53(J:Q0)(m:Nat):=evAt Tryz.prog env (ct m) J (m+1) 125 75 Tryz.f125 d20
def l53(J:Q0)(m:Nat):=loopAt Tryz.prog env (ct m) J (m+1) 125 75 Tryz.f125 d20
def Ma(b:List Dt)(c:Int)(d e f g:Dt)(h i:Int)(j:ByteArray)(k a:List Dt):St:=⟨tsOf [(2,.dat 161 (.lst b)),(3,.ptr 0 [] 0),(4,.ptr 1 [] 0),(6,.ptr 2 [] 0),(7,.ptr 3 [] 0),(8,.ptr 4 [] 0),(9,.dat 3 (.int c))],[.box 29 (.dat 29 d),.box 26 (.dat 26 e),.box 26 (.dat 26 f),.box 26 (.dat 26 g),.box 26 (.agg 26 [.dat 3 (.int h),.dat 3 (.int i),.dat 9 (.str j),.row 5,.row 6]),.row 23 k,.row 24 a],0⟩
abbrev avK(m n:Nat)(a:Q73):Prop:=∀c d e f g h i j k l b,l53 jn m aaK [] n (Ma c d e f g h i j k l b)=a c d e f g h i j k l b
theorem K6 m c a(p:avK m c a) d e f h i j k l n o b:e53 jn m afW [c] (Ma d e f h i j k l n o b)=rF m (bM m) a d e f h i j k l n o b:=
 tq (g:=fun J=>jj J 1 6 c (Ma d (wrap .i64 (e+1)) f h i j k l n o b) (l53 J m aaK [] c)) (by simp only[aM,p];rfl)
theorem AA m:∀b f c d h n e i j k l a,l53 jn m aaK [] b (Ma f c d h n e i j k l a)=jO m (bM m) b f c d h n e i j k l a
 |0,_,_,_,_,_,_,_,_,_,_,_=>rfl
 |b+1,f,c,d,h,n,e,i,j,k,l,a=>
  tl (g:=fun J=>bif c<((L e 3).length:Int)then(app [] f).bind fun s=>(idx (L e 3) c).bind fun t=>(app s [agg [str (S d 2),t]]).bind fun u=>(idx (L d 6) 1).bind fun v=>(bM m v h u).bind fun r=>bif I d 0==32 then(nV m r).bind fun w=>(app l [w]).bind fun x=>jj J 0 7 0 (Ma f c d h n e i j k x a) (e53 J m afW [b])else(gB m r).bind fun o=>cond o ((idx (L e 3) c).bind fun p=>(app l [p]).bind fun q=>jj J 0 7 0 (Ma f c d h n e i j k q a) (e53 J m afW [b])) (jj J 0 7 0 (Ma f c d h n e i j k l a) (e53 J m afW [b]))else some (agg [int i,int j,str k,lst l,lst a])) (by simp only[aM,K6 m b (jO m (bM m) b) (AA m b)];rfl)
theorem Sv m a b c:e53 jn m [] [] ⟨[.dat 29 a,.dat 26 b,.dat 161 (.lst c)],[],0⟩=dK (m+1) a b c:=
 tq (g:=fun J=>(idx (L a 6) 0).bind fun e=>(bM m e b c).bind fun d=>cond (I d 0 !=6) ((cK m).bind fun f=>some f) (jj J 1 6 (succ m) (Ma c 0 a b aj d 6 0 (ByteArray.mk (List.toArray [])) [] []) (l53 J m aaK [] (succ m)))) (by simp only[aM,AA m];rfl)
def e13(J:Q0)(m:Nat):=evAt Tryz.prog env (ct m) J (m+1) 41 18 Tryz.f41 d20
theorem Sw m a b:e13 jn m [] [] ⟨[.dat 29 a,.dat 26 b],[],0⟩=ko (m+1) a b:=
 tq (g:=fun J=>(jL m a).bind fun d=>cond (d !=0) (some aj) ((bM m a b []).bind fun c=>cond (I c 0==0) (some aj) (some c))) (by rfl)
def asb:List Nat:=[1,1,0,1,0]
def e4(J:Q55)(m:Nat):=evAt Tryz.prog env (ct m) J (m+1) 12 29 Tryz.f12 d4
def l4(J:Q55)(m:Nat):=loopAt Tryz.prog env (ct m) J (m+1) 12 29 Tryz.f12 d4
def ase(a:List Dt)(b:Int)(c:Dt)(d:List Dt):St:=⟨tsOf [(1,.dat 23 (.lst a)),(2,.ptr 0 [] 0),(6,.row 1),(7,.dat 3 (.int b))],[.box 29 (.dat 29 c),.row 23 d],0⟩
theorem AJ m:∀a b c d e,l4 jn m asb [] a (ase b c d e)=rG m a b c d e
 |0,_,_,_,_=>rfl
 |a+1,b,c,d,e=>
  tl (g:=fun J=>bif c<(b.length:Int)then(idx b c).bind fun h=>(ko m d h).bind fun f=>cond (I f 0 !=5) (some ([],8)) ((app e [f]).bind fun i=>jj J 1 3 a (ase b (wrap .i64 (c+1)) d i) (l4 J m asb [] a))else some (e,0)) (by simp only[aM,(AJ m a)];rfl)
theorem Sy m a b:e4 jn m [] [] ⟨[.dat 29 a,.dat 23 (.lst b)],[],0⟩=uF (m+1) a b:=
 tq (g:=fun J=>jj J 1 3 (succ m) (ase b 0 a []) (l4 J m asb [] (succ m))) (by simp only[aM,AJ m];rfl)
def e28(J:Q0)(m:Nat):=evAt Tryz.prog env (ct m) J (m+1) 51 14 Tryz.f51 d20
theorem XP m a b:e28 jn m [] [] ⟨[.dat 29 a,.dat 26 b],[],0⟩=pJ (m+1) a b:=
 tq (g:=fun J=>(ko m a b).bind fun c=>cond (I c 0==0) (some pR) (some c)) (by rfl)
def amb:List Nat:=[1,1,0,1,0]
def apU:List Nat:=[1,1,0,1,0,0,1]
def avL:List Nat:=apU++[0,0,1,1,1,1]
def awI:List Nat:=avL++[1]
def avM:List Nat:=apU++[0,0,1,1,1,0,1]
def amc:List Nat:=avM++[0]
def avN:List Nat:=awI++[1]
def asf:List Nat:=avN++[1]
def asg:List Nat:=avN++[0,0]
def e7(J:Q13)(m:Nat):=evAt Tryz.prog env (ct m) J (m+1) 15 88 Tryz.f15 Xn
def l7(J:Q13)(m:Nat):=loopAt Tryz.prog env (ct m) J (m+1) 15 88 Tryz.f15 Xn
def amd(a b:List Dt)(c d:Int)(e:Bool)(f:Int)(g h:Dt):St:=⟨tsOf [(1,.dat 23 (.lst a)),(2,.ptr 0 [] 0),(5,.dat 23 (.lst b)),(6,.dat 3 (.int c)),(7,.ptr 1 [] 0),(8,.dat 3 (.int d)),(9,.dat 4 (.bool e)),(10,.dat 3 (.int f))],[.box 29 (.dat 29 g),.box 26 (.dat 26 h)],0⟩
def ame(a b:List Dt)(c:Int)(d:Dt):St:=⟨tsOf [(1,.dat 23 (.lst a)),(2,.ptr 0 [] 0),(5,.dat 23 (.lst b)),(6,.dat 3 (.int c))],[.box 29 (.dat 29 d)],0⟩
def Vi(a b:List Dt)(c d e:Int)(f g:Dt):St:=⟨tsOf [(1,.dat 23 (.lst a)),(2,.ptr 0 [] 0),(5,.dat 23 (.lst b)),(6,.dat 3 (.int c)),(7,.ptr 1 [] 0),(8,.dat 3 (.int d)),(11,.dat 3 (.int e))],[.box 29 (.dat 29 f),.box 26 (.dat 26 g)],0⟩
abbrev ash(m f:Nat)(a:Q17):Prop:=∀b c d e,l7 jn m amb [] f (ame b c d e)=a b c d e
theorem Gv m c a(o:ash m c a) e b f h d i j:e7 jn m asf [c] (Vi e b f h d i j)=kQ m a e b f h d i j:=
 tq (g:=fun J=>(cutL b 0 d).bind fun p=>(app [] p).bind fun q=>(o7 m j h).bind fun r=>(app q [r]).bind fun k=>(cutL b d (b.length:Int)).bind fun l=>(app k l).bind fun n=>jj J 1 3 c (ame e n (wrap .i64 (f+1)) i) (l7 J m amb [] c)) (by simp only[aM,o];rfl)
theorem xP m d a(l:ash m d a):∀b h e i f c j k,l7 jn m asg [d] b (Vi h e i f c j k)=oJ m a b h e i f c j k
 |0,_,_,_,_,_,_,_=>rfl
 |b+1,h,e,i,f,c,j,k=>
  tl (g:=fun J=>cond (0<c) ((idx e (wrap .i64 (c-1))).bind fun n=>(idx (L n 4) 1).bind fun o=>cond (I (fld o 1) 1<f) (jj J 1 16 b (Vi h e i f (wrap .i64 (c-1)) j k) (l7 J m asg [d] b)) (jj J 0 18 0 (Vi h e i f c j k) (e7 J m asf [d]))) (jj J 0 18 0 (Vi h e i f c j k) (e7 J m asf [d]))) (by simp only[aM,(xP m d a l b),Gv m d a l];rfl)
theorem yX m b a(n:ash m b a):∀c d e f k l h i j,l7 jn m amc [b] c (amd d e f k l h i j)=gT m a c d e f k l h i j
 |0,_,_,_,_,_,_,_,_=>rfl
 |c+1,d,e,f,k,l,h,i,j=>
  tl (g:=fun J=>bif h<(d.length:Int)then(idx d h).bind fun o=>(pJ m i o).bind fun p=>(bF m p j).bind fun q=>cond (q==0) (cond l (jj J 1 9 c (amd d e f (wrap .i64 (k+1)) (decide (f<=h)) (wrap .i64 (h+1)) i j) (l7 J m amc [b] c)) (jj J 1 9 c (amd d e f (wrap .i64 (k+1)) false (wrap .i64 (h+1)) i j) (l7 J m amc [b] c))) (jj J 1 9 c (amd d e f k l (wrap .i64 (h+1)) i j) (l7 J m amc [b] c))else cond (!l) (jj J 1 3 b (ame d e (wrap .i64 (f+1)) i) (l7 J m amb [] b)) (jj J 1 16 (succ m) (Vi d e f k (e.length:Int) i j) (l7 J m asg [b] (succ m)))) (by simp only[aM,(yX m b a n c),n,xP m b a n];rfl)
theorem yY m:∀a b d c e,l7 jn m amb [] a (ame b d c e)=fP m a b d c e
 |0,_,_,_,_=>rfl
 |a+1,b,d,c,e=>
  tl (g:=fun J=>bif c<(b.length:Int)then(idx b c).bind fun f=>(pJ m e f).bind fun h=>jj J 1 9 (succ m) (amd b d c 0 true 0 e h) (l7 J m amc [a] (succ m))else some d) (by simp only[aM,yX m a (fP m a) (yY m a)];rfl)
theorem Qr m a b:e7 jn m [] [] ⟨[.dat 29 a,.dat 23 (.lst b)],[],0⟩=qB (m+1) a b:=
 tq (g:=fun J=>jj J 1 3 (succ m) (ame b [] 0 a) (l7 J m amb [] (succ m))) (by simp only[aM,yY m];rfl)
def asi:List Nat:=[1,1,0,1,0,1,1]
def adG:List Nat:=asi++[0]
def asj:List Nat:=[1,1,1,0,1,0,1,1]
def adH:List Nat:=asj++[0]
def aoJ(J:Q53)(m:Nat):=evAt Tryz.prog env (ct m) J (m+1) 156 68 Tryz.f156 d19
def ahy(J:Q53)(m:Nat):=loopAt Tryz.prog env (ct m) J (m+1) 156 68 Tryz.f156 d19
def adI(a:List Dt)(b c:Int)(d e:Dt)(f g:Int)(h:ByteArray)(i j:List Dt):St:=⟨tsOf [(1,.ptr 0 [] 0),(2,.ptr 1 [] 0),(3,.ptr 2 [] 0),(25,.dat 23 (.lst a)),(26,.dat 3 (.int b)),(27,.dat 3 (.int c))],[.box 26 (.dat 26 d),.box 26 (.dat 26 e),.box 26 (.agg 26 [.dat 3 (.int f),.dat 3 (.int g),.dat 9 (.str h),.row 3,.row 4]),.row 23 i,.row 24 j],0⟩
def adJ(a:List Dt)(b c:Int)(d:Dt)(e f:Int)(g:ByteArray)(h i:List Dt):St:=⟨tsOf [(2,.ptr 0 [] 0),(3,.ptr 1 [] 0),(49,.dat 24 (.lst a)),(50,.dat 3 (.int b)),(51,.dat 3 (.int c))],[.box 26 (.dat 26 d),.box 26 (.agg 26 [.dat 3 (.int e),.dat 3 (.int f),.dat 9 (.str g),.row 2,.row 3]),.row 23 h,.row 24 i],0⟩
def adK(a b:Dt)(c d:Int)(e:ByteArray)(f g:List Dt):St:=⟨tsOf [(1,.ptr 0 [] 0),(2,.ptr 1 [] 0),(3,.ptr 2 [] 0)],[.box 26 (.dat 26 a),.box 26 (.dat 26 b),.box 26 (.agg 26 [.dat 3 (.int c),.dat 3 (.int d),.dat 9 (.str e),.row 3,.row 4]),.row 23 f,.row 24 g],0⟩
theorem yZ m:∀c d e a l f h i j b,ahy jn m adH [] c (adJ d e a l f h i j b)=qC m (dA m) c d e a l f h i j b
 |0,_,_,_,_,_,_,_,_,_=>rfl
 |c+1,d,e,a,l,f,h,i,j,b=>
  tl (g:=fun J=>cond (a<e) ((idx d a).bind fun n=>(dA m (fld n 1)).bind fun k=>(inL b a).bind fun o=>(b[a.toNat]?).bind fun p=>jj J 1 12 c (adJ d e (wrap .i64 (a+1)) l f h i j (List.set b a.toNat (agg [str (S n 0),agg [int k.1,int k.2.1,str k.2.2.1,lst k.2.2.2.1,lst k.2.2.2.2]]))) (ahy J m adH [] c)) (some (f,h,i,j,b))) (by simp only[aM,(yZ m c)];rfl)
theorem y7 m a f b c d e h:aoJ jn m [1,1,1] [] (adK a f b c d e h)=kr m (dA m) a f b c d e h:=
 tq (g:=fun J=>bif 0<((L a 4).length:Int)then(mkL ((L a 4).length:Int) ((L a 4).length:Int) DX).bind fun i=>jj J 1 12 (succ m) (adJ (L a 4) ((L a 4).length:Int) 0 f b c d e i) (ahy J m adH [] (succ m))else some (b,c,d,e,h)) (by simp only[aM,yZ m];rfl)
theorem y8 m:∀c d e a f h i j k b l,ahy jn m adG [] c (adI d e a f h i j k b l)=ny m (dA m) c d e a f h i j k b l
 |0,_,_,_,_,_,_,_,_,_,_=>rfl
 |c+1,d,e,a,f,h,i,j,k,b,l=>
  tl (g:=fun J=>cond (a<e) ((idx d a).bind fun o=>(dA m o).bind fun n=>(inL b a).bind fun p=>(b[a.toNat]?).bind fun q=>jj J 1 5 c (adI d e (wrap .i64 (a+1)) f h i j k (List.set b a.toNat (agg [int n.1,int n.2.1,str n.2.2.1,lst n.2.2.2.1,lst n.2.2.2.2])) l) (ahy J m adG [] c)) (jj J 0 9 0 (adK f h i j k b l) (aoJ J m [1,1,1] []))) (by simp only[aM,(y8 m c),y7 m];rfl)
theorem Qs m a:aoJ jn m [] [] ⟨[.dat 26 a],[],0⟩=dA (m+1) a:=
 tq (g:=fun J=>bif 0<((L a 3).length:Int)then(mkL ((L a 3).length:Int) ((L a 3).length:Int) aj).bind fun b=>jj J 1 5 (succ m) (adI (L a 3) ((L a 3).length:Int) 0 a aj (I a 0) (I a 1) (S a 2) b []) (ahy J m adG [] (succ m))else jj J 0 9 0 (adK a aj (I a 0) (I a 1) (S a 2) [] []) (aoJ J m [1,1,1] [])) (by simp only[aM,y8 m,y7 m];rfl)
def adL:List Nat:=[1,1,0,1,0]
def awJ(J:Q2)(m:Nat):=evAt Tryz.prog env (ct m) J (m+1) 157 25 Tryz.f157 d39
def asl(J:Q2)(m:Nat):=loopAt Tryz.prog env (ct m) J (m+1) 157 25 Tryz.f157 d39
def adM(a:ByteArray)(b c:Int)(d:Dt):St:=⟨tsOf [(1,.dat 9 (.str a)),(2,.ptr 0 [] 0),(11,.dat 3 (.int b)),(12,.dat 3 (.int c))],[.box 26 (.dat 26 d)],0⟩
theorem AL m:∀b c d a e,asl jn m adL [] b (adM c d a e)=rH m b c d a e
 |0,_,_,_,_=>rfl
 |b+1,c,d,a,e=>
  tl (g:=fun J=>cond (a<d) ((idx (L e 4) a).bind fun f=>cond ((S f 0).toList==c.toList) (some a) (jj J 1 4 b (adM c d (wrap .i64 (a+1)) e) (asl J m adL [] b))) (some (-1))) (by simp only[aM,(AL m b)];rfl)
theorem Sz m a b:awJ jn m [] [] ⟨[.dat 26 a,.dat 9 (.str b)],[],0⟩=sj (m+1) a b:=
 tq (g:=fun J=>cond (I a 0 !=5) (some (-1)) (jj J 1 4 (succ m) (adM b ((L a 4).length:Int) 0 a) (asl J m adL [] (succ m)))) (by simp only[aM,AL m];rfl)
def awK(J:Q0)(m:Nat):=evAt Tryz.prog env (ct m) J (m+1) 119 38 Tryz.f119 d20
theorem XQ m h d e:awK jn m [] [] ⟨[.dat 26 h,.dat 9 (.str d),.dat 26 e],[],0⟩=uG (m+1) h d e:=
 tq (g:=fun J=>(dA m h).bind fun a=>cond (a.1 !=5) (some (agg [int a.1,int a.2.1,str a.2.2.1,lst a.2.2.2.1,lst a.2.2.2.2])) ((sj m (agg [int a.1,int a.2.1,str a.2.2.1,lst a.2.2.2.1,lst a.2.2.2.2]) d).bind fun f=>bif 0<=f then(dA m e).bind fun b=>(inL a.2.2.2.2 f).bind fun k=>(a.2.2.2.2[f.toNat]?).bind fun i=>some (agg [int a.1,int a.2.1,str a.2.2.1,lst a.2.2.2.1,lst (List.set a.2.2.2.2 f.toNat (agg [str (S i 0),agg [int b.1,int b.2.1,str b.2.2.1,lst b.2.2.2.1,lst b.2.2.2.2]]))])else(dA m e).bind fun c=>(app a.2.2.2.2 [agg [str d,agg [int c.1,int c.2.1,str c.2.2.1,lst c.2.2.2.1,lst c.2.2.2.2]]]).bind fun j=>some (agg [int a.1,int a.2.1,str a.2.2.1,lst a.2.2.2.1,lst j]))) (by rfl)
def Qt:List Nat:=[1,1,1,0,1,0]
def amf:List Nat:=Qt++[0,1,1]
def avO:List Nat:=amf++[0,0,1,1]
def avP:List Nat:=avO++[1]
def avQ:List Nat:=avP++[0,1]
def amg:List Nat:=amf++[0,0,1,0,1,0,1]
def amh:List Nat:=avQ++[0]
def e79(J:Q0)(m:Nat):=evAt Tryz.prog env (ct m) J (m+1) 167 47 Tryz.f167 d20
def l79(J:Q0)(m:Nat):=loopAt Tryz.prog env (ct m) J (m+1) 167 47 Tryz.f167 d20
def Vj(a:Bool)(b:List Dt)(c d:Int)(e f:Dt):St:=⟨tsOf [(2,.ptr 0 [] 0),(3,.ptr 1 [] 0),(4,.dat 4 (.bool a)),(10,.dat 23 (.lst b)),(11,.dat 3 (.int c)),(12,.dat 3 (.int d))],[.box 26 (.dat 26 e),.box 26 (.dat 26 f)],0⟩
def adN(a:Bool)(b:List Dt)(c d:Int)(e:List Dt)(f g:Int)(h i:Dt):St:=⟨tsOf [(2,.ptr 0 [] 0),(3,.ptr 1 [] 0),(4,.dat 4 (.bool a)),(10,.dat 23 (.lst b)),(11,.dat 3 (.int c)),(12,.dat 3 (.int d)),(27,.dat 24 (.lst e)),(28,.dat 3 (.int f)),(29,.dat 3 (.int g))],[.box 26 (.dat 26 h),.box 26 (.dat 26 i)],0⟩
def ami(a:Bool)(b:List Dt)(c d e:Int)(f:Bool)(g h i:Dt):St:=⟨tsOf [(2,.ptr 0 [] 0),(3,.ptr 1 [] 0),(4,.dat 4 (.bool a)),(6,.ptr 2 [] 0),(10,.dat 23 (.lst b)),(11,.dat 3 (.int c)),(12,.dat 3 (.int d)),(17,.dat 3 (.int e)),(19,.dat 4 (.bool f))],[.box 26 (.dat 26 g),.box 26 (.dat 26 h),.box 26 (.dat 26 i)],0⟩
abbrev apV(m h:Nat)(a:Q24):Prop:=∀b c d e f g,l79 jn m Qt [] h (Vj b c d e f g)=a b c d e f g
theorem AO m b a(o:apV m b a):∀c f h i j k l d n e,l79 jn m amh [b] c (adN f h i j k l d n e)=rM m a c f h i j k l d n e
 |0,_,_,_,_,_,_,_,_,_=>rfl
 |c+1,f,h,i,j,k,l,d,n,e=>
  tl (g:=fun J=>cond (d<l) ((idx k d).bind fun p=>(uG m e (S p 0) (fld p 1)).bind fun q=>jj J 1 14 c (adN f h i j k l (wrap .i64 (d+1)) n q) (l79 J m amh [b] c)) (cond (1024<((L e 4).length:Int)) ((cO m).bind fun r=>some r) (jj J 1 4 b (Vj f h i (wrap .i64 (j+1)) n e) (l79 J m Qt [] b)))) (by simp only[aM,(AO m b a o c),o];rfl)
theorem K7 m b a(n:apV m b a) c d e f k l h j i:e79 jn m amg [b] (ami c d e f k l h j i)=vo m a c d e f k l h j i:=
 tq (g:=fun J=>cond l (jj J 1 4 b (Vj c d e (wrap .i64 (f+1)) h j) (l79 J m Qt [] b)) (cond (k==5) (cond c (jj J 1 4 b (Vj false d e (wrap .i64 (f+1)) h i) (l79 J m Qt [] b)) (jj J 1 14 (succ m) (adN c d e f (L i 4) ((L i 4).length:Int) 0 h j) (l79 J m amh [b] (succ m)))) ((cO m).bind fun o=>some o))) (by simp only[aM,n,AO m b a n];rfl)
theorem AP m:∀a h d e b i f,l79 jn m Qt [] a (Vj h d e b i f)=gM m a h d e b i f
 |0,_,_,_,_,_,_=>rfl
 |a+1,h,d,e,b,i,f=>
  tl (g:=fun J=>cond (b<e) ((idx d b).bind fun c=>cond (I c 0==0) (jj J 0 10 0 (ami h d e b (I c 0) (I c 0==0) i f c) (e79 J m amg [a])) (jj J 0 10 0 (ami h d e b (I c 0) (I c 0==2) i f c) (e79 J m amg [a]))) (some f)) (by simp only[aM,K7 m a (gM m a) (AP m a)];rfl)
theorem SB m a:e79 jn m [] [] ⟨[.dat 23 (.lst a)],[],0⟩=qD (m+1) a:=
 tq (g:=fun J=>jj J 1 4 (succ m) (Vj true a (a.length:Int) 0 aj M9) (l79 J m Qt [] (succ m))) (by simp only[aM,AP m];rfl)
def XR:List Nat:=[1,1,0,1,0]
def asn:List Nat:=[1,1,0,1,0,0,1,1]
def XT:List Nat:=asn++[0,0,1,1]
def e129(J:Q1)(m:Nat):=evAt Tryz.prog env (ct m) J (m+1) 238 39 Tryz.f238 d5
def aoK(J:Q1)(m:Nat):=loopAt Tryz.prog env (ct m) J (m+1) 238 39 Tryz.f238 d5
def XU(a:ByteArray)(b c:Int):St:=⟨tsOf [(0,.dat 9 (.str a)),(18,.dat 3 (.int b)),(19,.dat 3 (.int c))],[],0⟩
def XV(a:ByteArray)(b c:Int)(d:Bool):St:=⟨tsOf [(0,.dat 9 (.str a)),(18,.dat 3 (.int b)),(19,.dat 3 (.int c)),(37,.dat 4 (.bool d))],[],0⟩
def XW(a:ByteArray)(b:Bool):St:=⟨tsOf [(0,.dat 9 (.str a)),(16,.dat 4 (.bool b))],[],0⟩
abbrev aso(m e:Nat)(a:Q32):Prop:=∀b c d,aoK jn m XR [] e (XU b c d)=a b c d
theorem Gw m b a(h:aso m b a) c d e f:e129 jn m XT [b] (XV c d e f)=fV m a c d e f:=
 tq (g:=fun J=>cond f (some false) (jj J 1 4 b (XU c d (wrap .i64 (e+1))) (aoK J m XR [] b))) (by simp only[aM,h];rfl)
theorem xQ m:∀b c d a,aoK jn m XR [] b (XU c d a)=fZ m b c d a
 |0,_,_,_=>rfl
 |b+1,c,d,a=>
  tl (g:=fun J=>cond (a<d) ((idxS c a).bind fun e=>cond (e<33) (jj J 0 7 0 (XV c d a true) (e129 J m XT [b])) ((idxS c a).bind fun f=>cond (126<f) (jj J 0 7 0 (XV c d a true) (e129 J m XT [b])) ((idxS c a).bind fun h=>jj J 0 7 0 (XV c d a (h==46)) (e129 J m XT [b])))) (some true)) (by simp only[aM,Gw m b (fZ m b) (xQ m b)];rfl)
theorem Gx m a b:e129 jn m [1,0,1] [] (XW a b)=gq m a b:=
 tq (g:=fun J=>cond b (some false) (jj J 1 4 (succ m) (XU a (a.size:Int) 0) (aoK J m XR [] (succ m)))) (by simp only[aM,xQ m];rfl)
theorem MG m a:e129 jn m [] [] ⟨[.dat 9 (.str a)],[],0⟩=og (m+1) a:=
 tq (g:=fun J=>cond ((a.size:Int)<1) (jj J 0 2 0 (XW a true) (e129 J m [1,0,1] [])) (bif 32<(a.size:Int)then jj J 0 2 0 (XW a true) (e129 J m [1,0,1] [])else(idxS a 0).bind fun b=>jj J 0 2 0 (XW a (b==36)) (e129 J m [1,0,1] []))) (by simp only[aM,Gx m];rfl)
def Vk:List Nat:=[1,1,1,0,1]
def Vl:List Nat:=[1,1,1,1,0,1]
def Vm:List Nat:=[1,1,1,1,1,0,1,0,1]
def avR:List Nat:=Vm++[1,1,1,1,1,1,1,1,1,1,1,1,0,0,1]
def amj:List Nat:=avR++[0]
def e83(J:Q1)(m:Nat):=evAt Tryz.prog env (ct m) J (m+1) 171 132 Tryz.f171 d5
def l83(J:Q1)(m:Nat):=loopAt Tryz.prog env (ct m) J (m+1) 171 132 Tryz.f171 d5
def adO(a:List Dt)(b c:Int):St:=⟨tsOf [(117,.dat 23 (.lst a)),(118,.dat 3 (.int b)),(119,.dat 3 (.int c))],[],0⟩
def aaL(a:Int)(b:Bool)(c:Dt):St:=⟨tsOf [(1,.ptr 0 [] 0),(70,.dat 3 (.int a)),(71,.dat 4 (.bool b))],[.box 26 (.dat 26 c)],0⟩
def Vn(a:Bool)(b:Dt):St:=⟨tsOf [(1,.ptr 0 [] 0),(68,.dat 4 (.bool a))],[.box 26 (.dat 26 b)],0⟩
def Vo(a:Bool)(b:Dt):St:=⟨tsOf [(1,.ptr 0 [] 0),(48,.dat 4 (.bool a))],[.box 26 (.dat 26 b)],0⟩
def afX(a b:Bool)(c:Dt):St:=⟨tsOf [(1,.ptr 0 [] 0),(3,.dat 4 (.bool a)),(4,.dat 4 (.bool b))],[.box 26 (.dat 26 c)],0⟩
def afY(a:Bool)(b:Dt):St:=⟨tsOf [(1,.ptr 0 [] 0),(3,.dat 4 (.bool a))],[.box 26 (.dat 26 b)],0⟩
theorem y9 m:∀a c d b,l83 jn m amj [] a (adO c d b)=nA m (bP m) (bL m) a c d b
 |0,_,_,_=>rfl
 |a+1,c,d,b=>
  tl (g:=fun J=>cond (b<d) ((idx c b).bind fun e=>(bP m e).bind fun f=>cond (!f) (some false) (jj J 1 25 a (adO c d (wrap .i64 (b+1))) (l83 J m amj [] a))) (some true)) (by simp only[aM,(y9 m a)];rfl)
theorem Ja m b c a:e83 jn m Vm [] (aaL b c a)=fQ m (bP m) (bL m) b c a:=
 tq (g:=fun J=>cond c (some true) (cond (b==9) (cond (I a 1==0) (some true) (some (I a 1==1))) (cond (b==10) (some (decide (0<=I a 1))) (cond (b==4) (cond (((S a 2).size:Int)<=4096) ((utf8_ValidString (S a 2)).bind fun d=>some d) (some false)) (cond (b==7) (some (decide (((S a 2).size:Int)<=4096))) (cond (b==8) (some (((S a 2).size:Int)==12)) (cond (b==6) (jj J 1 25 (succ m) (adO (L a 3) ((L a 3).length:Int) 0) (l83 J m amj [] (succ m))) (cond (b==5) ((bL m (L a 4)).bind fun e=>some e) (some false))))))))) (by simp only[aM,y9 m];rfl)
theorem Jb m b a:e83 jn m Vl [] (Vn b a)=gU m (bP m) (bL m) b a:=
 tq (g:=fun J=>cond b (some false) (cond (I a 0==1) (jj J 0 12 0 (aaL (I a 0) (I a 0==1) a) (e83 J m Vm [])) (cond (I a 0==2) (jj J 0 12 0 (aaL (I a 0) (I a 0==2) a) (e83 J m Vm [])) (cond (I a 0==11) (jj J 0 12 0 (aaL (I a 0) (I a 0==11) a) (e83 J m Vm [])) (jj J 0 12 0 (aaL (I a 0) (I a 0==3) a) (e83 J m Vm [])))))) (by simp only[aM,Ja m];rfl)
theorem Jc m b a:e83 jn m Vk [] (Vo b a)=gV m (bP m) (bL m) b a:=
 tq (g:=fun J=>cond b (some false) (cond (I a 0 !=6) (cond (0<((L a 3).length:Int)) (jj J 0 6 0 (Vn true a) (e83 J m Vl [])) (cond (I a 0 !=5) (jj J 0 6 0 (Vn (decide (0<((L a 4).length:Int))) a) (e83 J m Vl [])) (jj J 0 6 0 (Vn false a) (e83 J m Vl [])))) (cond (I a 0 !=5) (jj J 0 6 0 (Vn (decide (0<((L a 4).length:Int))) a) (e83 J m Vl [])) (jj J 0 6 0 (Vn false a) (e83 J m Vl []))))) (by simp only[aM,Jb m];rfl)
theorem Jd m c b a:e83 jn m [1,1,1] [] (afX c b a)=gW m (bP m) (bL m) c b a:=
 tq (g:=fun J=>cond (!c) (cond (I a 1 !=0) (jj J 0 4 0 (Vo true a) (e83 J m Vk [])) (cond (!b) (jj J 0 4 0 (Vo (!(S a 2).toList==[]) a) (e83 J m Vk [])) (jj J 0 4 0 (Vo false a) (e83 J m Vk [])))) (cond (!b) (jj J 0 4 0 (Vo (!(S a 2).toList==[]) a) (e83 J m Vk [])) (jj J 0 4 0 (Vo false a) (e83 J m Vk [])))) (by simp only[aM,Jc m];rfl)
theorem Je m b a:e83 jn m [1,1] [] (afY b a)=gX m (bP m) (bL m) b a:=
 tq (g:=fun J=>cond (I a 0==4) (jj J 0 3 0 (afX b true a) (e83 J m [1,1,1] [])) (cond (I a 0==7) (jj J 0 3 0 (afX b true a) (e83 J m [1,1,1] [])) (jj J 0 3 0 (afX b (I a 0==8) a) (e83 J m [1,1,1] [])))) (by simp only[aM,Jd m];rfl)
theorem Qu m a:e83 jn m [] [] ⟨[.dat 26 a],[],0⟩=bP (m+1) a:=
 tq (g:=fun J=>cond (I a 0==3) (jj J 0 2 0 (afY true a) (e83 J m [1,1] [])) (cond (I a 0==9) (jj J 0 2 0 (afY true a) (e83 J m [1,1] [])) (jj J 0 2 0 (afY (I a 0==10) a) (e83 J m [1,1] [])))) (by simp only[aM,Je m];rfl)
def XY:List Nat:=[1,1,0,1,0]
def asq:List Nat:=[1,1,0,1,0,0,1,1]
def XZ:List Nat:=asq++[0,0,1,0,1]
def e117(J:Q1)(m:Nat):=evAt Tryz.prog env (ct m) J (m+1) 221 33 Tryz.f221 d5
def aoL(J:Q1)(m:Nat):=loopAt Tryz.prog env (ct m) J (m+1) 221 33 Tryz.f221 d5
def X0(a:List Dt)(b c:Int)(d:List Dt):St:=⟨tsOf [(3,.row 0),(7,.dat 24 (.lst a)),(8,.dat 3 (.int b)),(9,.dat 3 (.int c))],[(.map 223 d)],0⟩
def X3(a:List Dt)(b c:Int)(d:Bool)(e:List Dt)(f:Dt):St:=⟨tsOf [(3,.row 0),(5,.ptr 1 [] 0),(7,.dat 24 (.lst a)),(8,.dat 3 (.int b)),(9,.dat 3 (.int c)),(28,.dat 4 (.bool d))],[(.map 223 e),.box 48 (.dat 48 f)],0⟩
abbrev asr(m f:Nat)(a:Q26):Prop:=∀b c d e,aoL jn m XY [] f (X0 b c d e)=a b c d e
theorem AQ m b a(j:asr m b a) c d e f h i:e117 jn m XZ [b] (X3 c d e f h i)=fA m (bP m) a c d e f h i:=
 tq (g:=fun J=>cond f (some false) (jj J 1 3 b (X0 c d (wrap .i64 (e+1)) (mput h (S i 0) (bool true))) (aoL J m XY [] b))) (by simp only[aM,j];rfl)
theorem sO m:∀a c d b e,aoL jn m XY [] a (X0 c d b e)=eD m (bP m) a c d b e
 |0,_,_,_,_=>rfl
 |a+1,c,d,b,e=>
  tl (g:=fun J=>cond (b<d) ((idx c b).bind fun f=>(og m (S f 0)).bind fun h=>cond (!h) (jj J 0 6 0 (X3 c d b true e f) (e117 J m XZ [a])) (bif Dt.toBool (mgetD e (S f 0) (bool false))then jj J 0 6 0 (X3 c d b true e f) (e117 J m XZ [a])else(bP m (fld f 1)).bind fun i=>jj J 0 6 0 (X3 c d b (!i) e f) (e117 J m XZ [a]))) (some true)) (by simp only[aM,AQ m a (eD m (bP m) a) (sO m a)];rfl)
theorem Dw m a:e117 jn m [] [] ⟨[.dat 24 (.lst a)],[],0⟩=bL (m+1) a:=
 tq (g:=fun J=>jj J 1 3 (succ m) (X0 a (a.length:Int) 0 []) (aoL J m XY [] (succ m))) (by simp only[aM,sO m];rfl)
def e49(J:Q1)(m:Nat):=evAt Tryz.prog env (ct m) J (m+1) 122 15 Tryz.f122 d5
theorem Qv m a:e49 jn m [] [] ⟨[.dat 26 a],[],0⟩=lH (m+1) a:=
 tq (g:=fun J=>(nQ m a).bind fun b=>cond (b<=1024) ((nR m a).bind fun c=>cond (c<=16) ((bP m a).bind fun d=>some d) (some false)) (some false)) (by rfl)
def e34(J:Q0)(m:Nat):=evAt Tryz.prog env (ct m) J (m+1) 84 21 Tryz.f84 d20
theorem X4 m a b c:e34 jn m [] [] ⟨[.dat 29 a,.dat 26 b,.dat 160 c],[],0⟩=cZ (m+1) a b c:=
 tq (g:=fun J=>(fF m a b c).bind fun d=>cond (I d 0==0) (some aj) ((lH m d).bind fun e=>cond (!e) ((cO m).bind fun f=>some f) (some d))) (by rfl)
def amk:List Nat:=[1,1,1,0,1,0]
def Gy:List Nat:=[1,1,1,1,0,1,0,1]
def Bu:List Nat:=Gy++[1,1]
def adP:List Nat:=[1,0,1,0,1,1,1,1,1,1,1]
def avS:List Nat:=[1,0,1,0,1,1,1,1,1,0,0,1]
def Gz:List Nat:=Bu++[1,1]
def aml:List Nat:=avS++[0]
def GA:List Nat:=Gz++[1,1]
def Qw:List Nat:=GA++[1,1]
def e48(J:Q0)(m:Nat):=evAt Tryz.prog env (ct m) J (m+1) 121 149 Tryz.f121 d20
def l48(J:Q0)(m:Nat):=loopAt Tryz.prog env (ct m) J (m+1) 121 149 Tryz.f121 d20
def amm(a b c:Dt):St:=⟨tsOf [(3,.ptr 0 [] 0),(6,.ptr 1 [] 0),(7,.dat 160 a)],[.box 29 (.dat 29 b),.box 26 (.dat 26 c)],0⟩
def adQ(a:Dt)(b:List Dt)(c d:Int)(e f g:Dt)(h:List Dt):St:=⟨tsOf [(2,.dat 160 a),(3,.ptr 0 [] 0),(4,.ptr 1 [] 0),(6,.ptr 2 [] 0),(8,.row 3),(59,.dat 27 (.lst b)),(60,.dat 3 (.int c)),(61,.dat 3 (.int d))],[.box 29 (.dat 29 e),.box 26 (.dat 26 f),.box 26 (.dat 26 g),.row 23 h],0⟩
def GD(a:Int)(b:Bool)(c d:Dt)(e:List Dt):St:=⟨tsOf [(3,.ptr 0 [] 0),(6,.ptr 1 [] 0),(8,.row 2),(75,.dat 3 (.int a)),(124,.dat 4 (.bool b))],[.box 29 (.dat 29 c),.box 26 (.dat 26 d),.row 23 e],0⟩
def K8(a:Int)(b:Bool)(c d:Dt)(e:List Dt):St:=⟨tsOf [(3,.ptr 0 [] 0),(6,.ptr 1 [] 0),(8,.row 2),(75,.dat 3 (.int a)),(114,.dat 4 (.bool b))],[.box 29 (.dat 29 c),.box 26 (.dat 26 d),.row 23 e],0⟩
def K9(a:Int)(b:Bool)(c d:Dt)(e:List Dt):St:=⟨tsOf [(3,.ptr 0 [] 0),(6,.ptr 1 [] 0),(8,.row 2),(75,.dat 3 (.int a)),(104,.dat 4 (.bool b))],[.box 29 (.dat 29 c),.box 26 (.dat 26 d),.row 23 e],0⟩
def Dx(a:Int)(b:Bool)(c d:Dt)(e:List Dt):St:=⟨tsOf [(3,.ptr 0 [] 0),(6,.ptr 1 [] 0),(8,.row 2),(75,.dat 3 (.int a)),(86,.dat 4 (.bool b))],[.box 29 (.dat 29 c),.box 26 (.dat 26 d),.row 23 e],0⟩
def Lc(a:Int)(b:Bool)(c d:Dt)(e:List Dt):St:=⟨tsOf [(3,.ptr 0 [] 0),(6,.ptr 1 [] 0),(8,.row 2),(75,.dat 3 (.int a)),(76,.dat 4 (.bool b))],[.box 29 (.dat 29 c),.box 26 (.dat 26 d),.row 23 e],0⟩
def amn(a:Dt)(b:Bool)(c d e:Dt):St:=⟨tsOf [(2,.dat 160 a),(3,.ptr 0 [] 0),(4,.ptr 1 [] 0),(6,.ptr 2 [] 0),(47,.dat 4 (.bool b))],[.box 29 (.dat 29 c),.box 26 (.dat 26 d),.box 26 (.dat 26 e)],0⟩
theorem xR m:∀b a c d,l48 jn m aml [] b (amm a c d)=oK m (cZ m) (eG m) b a c d
 |0,_,_,_=>rfl
 |b+1,a,c,d=>
  tl (g:=fun J=>bif !List.isEmpty (toLst a)then(idx (toLst a) 0).bind fun e=>bif (S e 0).toList==(S c 2).toList then(idx (toLst a) 0).bind fun f=>(bZ m (fld f 1) (L c 1)).bind fun h=>some h else(idx (toLst a) 0).bind fun i=>jj J 1 8 b (amm (fld i 2) c d) (l48 J m aml [] b)else some aj) (by simp only[aM,(xR m b)];rfl)
theorem EN m b d c k a:e48 jn m Qw [] (GD b d c k a)=iI m (cZ m) (eG m) b d c k a:=
 tq (g:=fun J=>cond d ((dM m (I c 0) a).bind fun e=>some e) (cond (b==36) ((inL a 0).bind fun l=>(a[0]?).bind fun f=>(bU m (I f 0)).bind fun h=>some h) (cond (b==37) ((qD m a).bind fun i=>some i) ((eF m c a).bind fun j=>some j)))) (by rfl)
theorem EO m a e b d c:e48 jn m GA [] (K8 a e b d c)=jR m (cZ m) (eG m) a e b d c:=
 tq (g:=fun J=>cond e ((d9 (I b 0) c).bind fun f=>some f) (cond (a==26) (jj J 0 55 0 (GD a (a==26) b d c) (e48 J m Qw [])) (cond (a==30) (jj J 0 55 0 (GD a (a==30) b d c) (e48 J m Qw [])) (cond (a==31) (jj J 0 55 0 (GD a (a==31) b d c) (e48 J m Qw [])) (cond (a==29) (jj J 0 55 0 (GD a (a==29) b d c) (e48 J m Qw [])) (cond (a==27) (jj J 0 55 0 (GD a (a==27) b d c) (e48 J m Qw [])) (jj J 0 55 0 (GD a (a==28) b d c) (e48 J m Qw [])))))))) (by simp only[aM,EN m];rfl)
theorem EP m a e b d c:e48 jn m Gz [] (K9 a e b d c)=jS m (cZ m) (eG m) a e b d c:=
 tq (g:=fun J=>cond e ((gQ m (I b 0) c).bind fun f=>some f) (cond (a==21) (jj J 0 48 0 (K8 a (a==21) b d c) (e48 J m GA [])) (cond (a==22) (jj J 0 48 0 (K8 a (a==22) b d c) (e48 J m GA [])) (cond (a==23) (jj J 0 48 0 (K8 a (a==23) b d c) (e48 J m GA [])) (cond (a==24) (jj J 0 48 0 (K8 a (a==24) b d c) (e48 J m GA [])) (jj J 0 48 0 (K8 a (a==25) b d c) (e48 J m GA []))))))) (by simp only[aM,EO m];rfl)
theorem ER m a e c d b:e48 jn m Bu [] (Dx a e c d b)=gH m (cZ m) (eG m) a e c d b:=
 tq (g:=fun J=>cond e ((inL b 0).bind fun k=>(b[0]?).bind fun f=>(inL b 1).bind fun l=>(b[1]?).bind fun h=>(bD m f h).bind fun i=>(jy m (I c 0) i).bind fun j=>some j) (cond (a==16) (jj J 0 42 0 (K9 a (a==16) c d b) (e48 J m Gz [])) (cond (a==17) (jj J 0 42 0 (K9 a (a==17) c d b) (e48 J m Gz [])) (cond (a==18) (jj J 0 42 0 (K9 a (a==18) c d b) (e48 J m Gz [])) (cond (a==19) (jj J 0 42 0 (K9 a (a==19) c d b) (e48 J m Gz [])) (jj J 0 42 0 (K9 a (a==20) c d b) (e48 J m Gz []))))))) (by simp only[aM,EP m];rfl)
theorem ES m a e b d c:e48 jn m Gy [] (Lc a e b d c)=jU m (cZ m) (eG m) a e b d c:=
 tq (g:=fun J=>cond e ((dW m (I b 0) c).bind fun f=>some f) (cond (a==9) (jj J 0 36 0 (Dx a (a==9) b d c) (e48 J m Bu [])) (cond (a==10) (jj J 0 36 0 (Dx a (a==10) b d c) (e48 J m Bu [])) (cond (a==11) (jj J 0 36 0 (Dx a (a==11) b d c) (e48 J m Bu [])) (cond (a==12) (jj J 0 36 0 (Dx a (a==12) b d c) (e48 J m Bu [])) (cond (a==13) (jj J 0 36 0 (Dx a (a==13) b d c) (e48 J m Bu [])) (cond (a==14) (jj J 0 36 0 (Dx a (a==14) b d c) (e48 J m Bu [])) (jj J 0 36 0 (Dx a (a==15) b d c) (e48 J m Bu []))))))))) (by simp only[aM,ER m];rfl)
theorem xS m:∀e f h i c a j d b,l48 jn m amk [] e (adQ f h i c a j d b)=oL m (cZ m) (eG m) e f h i c a j d b
 |0,_,_,_,_,_,_,_,_=>rfl
 |e+1,f,h,i,c,a,j,d,b=>
  tl (g:=fun J=>cond (c<i) ((idx h c).bind fun k=>(cZ m k j f).bind fun l=>(inL b c).bind fun o=>(b[c.toNat]?).bind fun n=>jj J 1 18 e (adQ f h i (wrap .i64 (c+1)) a j d (List.set b c.toNat l)) (l48 J m amk [] e)) (cond (I a 0==4) (jj J 0 28 0 (Lc (I a 0) (I a 0==4) a d b) (e48 J m Gy [])) (cond (I a 0==5) (jj J 0 28 0 (Lc (I a 0) (I a 0==5) a d b) (e48 J m Gy [])) (cond (I a 0==6) (jj J 0 28 0 (Lc (I a 0) (I a 0==6) a d b) (e48 J m Gy [])) (cond (I a 0==7) (jj J 0 28 0 (Lc (I a 0) (I a 0==7) a d b) (e48 J m Gy [])) (jj J 0 28 0 (Lc (I a 0) (I a 0==8) a d b) (e48 J m Gy []))))))) (by simp only[aM,(xS m e),ES m];rfl)
theorem GH m b d a c e:e48 jn m adP [] (amn b d a c e)=vR m (cZ m) (eG m) b d a c e:=
 tq (g:=fun J=>cond d ((eG m a c b).bind fun f=>some f) ((mkL ((L a 6).length:Int) ((L a 6).length:Int) aj).bind fun h=>jj J 1 18 (succ m) (adQ b (L a 6) ((L a 6).length:Int) 0 a c e h) (l48 J m amk [] (succ m)))) (by simp only[aM,xS m];rfl)
theorem MH m a b c:e48 jn m [] [] ⟨[.dat 29 a,.dat 26 b,.dat 160 c],[],0⟩=fF (m+1) a b c:=
 tq (g:=fun J=>cond (I a 0==1) (some (fld a 4)) (cond (I a 0==2) ((bZ m b (L a 1)).bind fun d=>some d) (cond (I a 0==3) (jj J 1 8 (succ m) (amm c a aj) (l48 J m aml [] (succ m))) (cond (I a 0==32) (jj J 0 15 0 (amn c (I a 0==32) a b aj) (e48 J m adP [])) (jj J 0 15 0 (amn c (I a 0==33) a b aj) (e48 J m adP [])))))) (by simp only[aM,xR m,GH m];rfl)
def avT:List Nat:=[1,1,1,1,0,1]
def aaM:List Nat:=avT++[0]
def avU:List Nat:=aaM++[0,1,1]
def afZ:List Nat:=avU++[1]
def e72(J:Q0)(m:Nat):=evAt Tryz.prog env (ct m) J (m+1) 160 63 Tryz.f160 d20
def l72(J:Q0)(m:Nat):=loopAt Tryz.prog env (ct m) J (m+1) 160 63 Tryz.f160 d20
def Mc(c:Dt)(d:List Dt)(e f:Int)(g h i:Dt)(j k:Int)(l:ByteArray)(a b:List Dt):St:=⟨tsOf [(2,.dat 160 c),(3,.ptr 0 [] 0),(4,.ptr 1 [] 0),(6,.ptr 2 [] 0),(8,.ptr 3 [] 0),(25,.dat 23 (.lst d)),(26,.dat 3 (.int e)),(27,.dat 3 (.int f))],[.box 29 (.dat 29 g),.box 26 (.dat 26 h),.box 26 (.dat 26 i),.box 26 (.agg 26 [.dat 3 (.int j),.dat 3 (.int k),.dat 9 (.str l),.row 4,.row 5]),.row 23 a,.row 24 b],0⟩
abbrev avV(m o:Nat)(a:Q80):Prop:=∀d e f g h i j k l n b c,l72 jn m aaM [] o (Mc d e f g h i j k l n b c)=a d e f g h i j k l n b c
theorem MI m d a(q:avV m d a) e f h i j k l n o p b c:e72 jn m afZ [d] (Mc e f h i j k l n o p b c)=tH m (cZ m) a e f h i j k l n o p b c:=
 tq (g:=fun J=>jj J 1 6 d (Mc e f h (wrap .i64 (i+1)) j k l n o p b c) (l72 J m aaM [] d)) (by simp only[aM,q];rfl)
theorem BN m:∀c f h i e d j o k l n a b,l72 jn m aaM [] c (Mc f h i e d j o k l n a b)=lI m (cZ m) c f h i e d j o k l n a b
 |0,_,_,_,_,_,_,_,_,_,_,_,_=>rfl
 |c+1,f,h,i,e,d,j,o,k,l,n,a,b=>
  tl (g:=fun J=>cond (e<i) ((idx h e).bind fun p=>(idx (L d 6) 1).bind fun r=>(cZ m r j (lst [agg [str (S d 2),p,f]])).bind fun q=>bif I d 0==32 then(iw m q).bind fun s=>(app a [s]).bind fun t=>jj J 0 13 0 (Mc f h i e d j o k l n t b) (e72 J m afZ [c])else(eB m q).bind fun u=>cond u ((app a [p]).bind fun v=>jj J 0 13 0 (Mc f h i e d j o k l n v b) (e72 J m afZ [c])) (jj J 0 13 0 (Mc f h i e d j o k l n a b) (e72 J m afZ [c]))) (some (agg [int k,int l,str n,lst a,lst b]))) (by simp only[aM,MI m c (lI m (cZ m) c) (BN m c)];rfl)
theorem X5 m a b c:e72 jn m [] [] ⟨[.dat 29 a,.dat 26 b,.dat 160 c],[],0⟩=eG (m+1) a b c:=
 tq (g:=fun J=>(idx (L a 6) 0).bind fun e=>(cZ m e b c).bind fun d=>cond (I d 0 !=6) ((cO m).bind fun f=>some f) (jj J 1 6 (succ m) (Mc c (L d 3) ((L d 3).length:Int) 0 a b aj 6 0 (ByteArray.mk (List.toArray [])) [] []) (l72 J m aaM [] (succ m)))) (by simp only[aM,BN m];rfl)
def adR:List Nat:=[1,1,1,1,1]
def apW:List Nat:=[1,1,1,1,1,1]
def apX:List Nat:=apW++[1]
def aaN:List Nat:=[1,1,1,1,1,0,1]
def apY:List Nat:=apX++[1]
def Vp:List Nat:=apW++[0,1]
def avW:List Nat:=apY++[1]
def amo:List Nat:=apX++[0,1]
def BO:List Nat:=apY++[0,1]
def af0:List Nat:=avW++[0,1]
def e47(J:Q2)(m:Nat):=evAt Tryz.prog env (ct m) J (m+1) 158 139 Tryz.f158 d42
def X6(a:Bool):St:=⟨tsOf [(138,.dat 4 (.bool a))],[],0⟩
def vW(a:Bool)(b:Dt):St:=⟨tsOf [(1,.ptr 0 [] 0),(124,.dat 4 (.bool a))],[.box 29 (.dat 29 b)],0⟩
def adS(a b:Bool)(c:Dt):St:=⟨tsOf [(1,.ptr 0 [] 0),(3,.dat 4 (.bool a)),(4,.dat 4 (.bool b))],[.box 29 (.dat 29 c)],0⟩
def adT(a b c:Bool)(d:Dt):St:=⟨tsOf [(1,.ptr 0 [] 0),(3,.dat 4 (.bool a)),(4,.dat 4 (.bool b)),(96,.dat 4 (.bool c))],[.box 29 (.dat 29 d)],0⟩
def Vq(a b c:Bool)(d:Dt):St:=⟨tsOf [(1,.ptr 0 [] 0),(3,.dat 4 (.bool a)),(4,.dat 4 (.bool b)),(87,.dat 4 (.bool c))],[.box 29 (.dat 29 d)],0⟩
def aaO(a b c:Bool)(d:Dt):St:=⟨tsOf [(1,.ptr 0 [] 0),(3,.dat 4 (.bool a)),(4,.dat 4 (.bool b)),(69,.dat 4 (.bool c))],[.box 29 (.dat 29 d)],0⟩
def amq(a:Bool)(b:Dt):St:=⟨tsOf [(1,.ptr 0 [] 0),(3,.dat 4 (.bool a))],[.box 29 (.dat 29 b)],0⟩
def amr(a:Bool)(b:Dt):St:=⟨tsOf [(1,.ptr 0 [] 0),(34,.dat 4 (.bool a))],[.box 29 (.dat 29 b)],0⟩
def af2(a:Bool)(b:Dt):St:=⟨tsOf [(1,.ptr 0 [] 0),(22,.dat 4 (.bool a))],[.box 29 (.dat 29 b)],0⟩
theorem BZ m a:e47 jn m af0 [] (X6 a)=ku m a:=
 tq (g:=fun J=>cond a (some 4) (some 0)) (by rfl)
theorem Ca m b a:e47 jn m BO [] (vW b a)=dx m b a:=
 tq (g:=fun J=>cond b (some 4) (cond (I a 0 !=1) ((qh m (fld a 4)).bind fun c=>cond (!c) (jj J 0 16 0 (X6 true) (e47 J m af0 [])) (jj J 0 16 0 (X6 (I a 5 !=0)) (e47 J m af0 []))) (jj J 0 16 0 (X6 (I a 5 !=0)) (e47 J m af0 [])))) (by simp only[aM,BZ m];rfl)
theorem Cb m c b d a:e47 jn m amo [] (adT c b d a)=oh m c b d a:=
 tq (g:=fun J=>cond d (some 8) (cond (!c) (cond (0<((L a 1).length:Int)) (jj J 0 14 0 (vW true a) (e47 J m BO [])) (cond (!b) (cond (!(S a 2).toList==[]) (jj J 0 14 0 (vW true a) (e47 J m BO [])) (cond (I a 0 !=34) (jj J 0 14 0 (vW (decide (0<((L a 3).length:Int))) a) (e47 J m BO [])) (jj J 0 14 0 (vW false a) (e47 J m BO [])))) (cond (I a 0 !=34) (jj J 0 14 0 (vW (decide (0<((L a 3).length:Int))) a) (e47 J m BO [])) (jj J 0 14 0 (vW false a) (e47 J m BO []))))) (cond (!b) (cond (!(S a 2).toList==[]) (jj J 0 14 0 (vW true a) (e47 J m BO [])) (cond (I a 0 !=34) (jj J 0 14 0 (vW (decide (0<((L a 3).length:Int))) a) (e47 J m BO [])) (jj J 0 14 0 (vW false a) (e47 J m BO [])))) (cond (I a 0 !=34) (jj J 0 14 0 (vW (decide (0<((L a 3).length:Int))) a) (e47 J m BO [])) (jj J 0 14 0 (vW false a) (e47 J m BO [])))))) (by simp only[aM,Ca m];rfl)
theorem Dy m b c d a:e47 jn m Vp [] (Vq b c d a)=gY m b c d a:=
 tq (g:=fun J=>cond d (some 9) (cond (I a 0==1) ((lH m (fld a 4)).bind fun e=>jj J 0 12 0 (adT b c (!e) a) (e47 J m amo [])) (jj J 0 12 0 (adT b c false a) (e47 J m amo [])))) (by simp only[aM,Cb m];rfl)
theorem Dz m c b d a:e47 jn m aaN [] (aaO c b d a)=je m c b d a:=
 tq (g:=fun J=>cond d (some 10) (cond b ((kX m (S a 2)).bind fun e=>cond (!e) (jj J 0 10 0 (Vq c b true a) (e47 J m Vp [])) (cond (I a 0==34) ((eY m (L a 3)).bind fun f=>jj J 0 10 0 (Vq c b (!f) a) (e47 J m Vp [])) (jj J 0 10 0 (Vq c b false a) (e47 J m Vp [])))) (cond (I a 0==34) ((eY m (L a 3)).bind fun h=>jj J 0 10 0 (Vq c b (!h) a) (e47 J m Vp [])) (jj J 0 10 0 (Vq c b false a) (e47 J m Vp []))))) (by simp only[aM,Dy m];rfl)
theorem DC m b c a:e47 jn m adR [] (adS b c a)=lJ m b c a:=
 tq (g:=fun J=>cond b ((nY m (L a 1)).bind fun d=>cond (!d) (cond (I a 0==2) (jj J 0 8 0 (aaO b c true a) (e47 J m aaN [])) (jj J 0 8 0 (aaO b c (decide (0<((L a 1).length:Int))) a) (e47 J m aaN []))) (jj J 0 8 0 (aaO b c false a) (e47 J m aaN []))) (jj J 0 8 0 (aaO b c false a) (e47 J m aaN []))) (by simp only[aM,Dz m];rfl)
theorem DF m b a:e47 jn m [1,1,1,1] [] (amq b a)=pV m b a:=
 tq (g:=fun J=>cond (I a 0==3) (jj J 0 7 0 (adS b true a) (e47 J m adR [])) ((qj m (I a 0)).bind fun c=>jj J 0 7 0 (adS b (c==3) a) (e47 J m adR []))) (by simp only[aM,DC m];rfl)
theorem DI m b a:e47 jn m [1,1,0,1] [] (amr b a)=pW m b a:=
 tq (g:=fun J=>cond b (some 11) (cond (I a 0==2) (jj J 0 6 0 (amq true a) (e47 J m [1,1,1,1] [])) (jj J 0 6 0 (amq (I a 0==3) a) (e47 J m [1,1,1,1] [])))) (by simp only[aM,DF m];rfl)
theorem DJ m b a:e47 jn m [1,0,1] [] (af2 b a)=lK m b a:=
 tq (g:=fun J=>cond b (some 11) (cond (I a 0==34) (jj J 0 4 0 (amr (((L a 6).length:Int) !=((L a 3).length:Int)) a) (e47 J m [1,1,0,1] [])) (jj J 0 4 0 (amr false a) (e47 J m [1,1,0,1] [])))) (by simp only[aM,DI m];rfl)
theorem Jf m a:e47 jn m [] [] ⟨[.dat 29 a],[],0⟩=kC (m+1) a:=
 tq (g:=fun J=>cond (I a 0<1) (jj J 0 2 0 (af2 true a) (e47 J m [1,0,1] [])) (cond (37<I a 0) (jj J 0 2 0 (af2 true a) (e47 J m [1,0,1] [])) ((qj m (I a 0)).bind fun b=>(qK m b ((L a 6).length:Int)).bind fun c=>jj J 0 2 0 (af2 (!c) a) (e47 J m [1,0,1] [])))) (by simp only[aM,DJ m];rfl)
def avX:List Nat:=[1,1,1,1,0,1]
def ams:List Nat:=avX++[0]
def e46(J:Q33)(m:Nat):=evAt Tryz.prog env (ct m) J (m+1) 120 45 Tryz.f120 d46
def l46(J:Q33)(m:Nat):=loopAt Tryz.prog env (ct m) J (m+1) 120 45 Tryz.f120 d46
def amt(a:Int)(b:List Dt)(c d e:Int):St:=⟨tsOf [(1,.dat 3 (.int a)),(2,.ptr 0 [] 0),(30,.dat 27 (.lst b)),(31,.dat 3 (.int c)),(32,.dat 3 (.int d))],[.box 3 (.dat 3 (.int e))],1⟩
def amu(a:Int)(b:Bool)(c:Int)(d:Dt):St:=⟨tsOf [(1,.dat 3 (.int a)),(2,.ptr 0 [] 0),(3,.ptr 1 [] 0),(18,.dat 4 (.bool b))],[.box 3 (.dat 3 (.int c)),.box 29 (.dat 29 d)],1⟩
theorem Vr m:∀a c d e b f,l46 jn m ams [] a (amt c d e b f)=Jr m (i46 m) a c d e b f
 |0,_,_,_,_,_=>rfl
 |a+1,c,d,e,b,f=>
  tl (g:=fun J=>cond (b<e) ((idx d b).bind fun i=>(i46 m i (wrap .i64 (c+1)) f).bind fun h=>cond (h.1 !=0) (some (h.1,h.2)) (jj J 1 8 a (amt c d e (wrap .i64 (b+1)) h.2) (l46 J m ams [] a))) (some (0,f))) (by simp only[aM,(Vr m a)];rfl)
theorem ahz m c d a b:e46 jn m [1,0,1] [] (amu c d a b)=VP m (i46 m) c d a b:=
 tq (g:=fun J=>cond d (some (2,a)) ((kC m b).bind fun e=>cond (e !=0) (some (e,wrap .i64 (a+1))) (jj J 1 8 (succ m) (amt c (L b 6) ((L b 6).length:Int) 0 (wrap .i64 (a+1))) (l46 J m ams [] (succ m))))) (by simp only[aM,Vr m];rfl)
theorem asu m c a b:e46 jn m [] [] ⟨[.dat 29 c,.dat 3 (.int a),.ptr 0 [] 0],[.box 3 (.dat 3 (.int b))],1⟩=i46 (m+1) c a b:=
 tq (g:=fun J=>cond (16<a) (jj J 0 2 0 (amu a true b c) (e46 J m [1,0,1] [])) (jj J 0 2 0 (amu a (b==256) b c) (e46 J m [1,0,1] []))) (by simp only[aM,ahz m];rfl)
def e33(J:Q2)(m:Nat):=evAt Tryz.prog env (ct m) J (m+1) 82 6 Tryz.f82 d42
theorem SC m a:e33 jn m [] [] ⟨[.dat 29 a],[],0⟩=sF (m+1) a:=
 tq (g:=fun J=>(i46 m a 1 0).bind fun b=>some b.1) (by rfl)
def e12(J:Q0)(m:Nat):=evAt Tryz.prog env (ct m) J (m+1) 40 13 Tryz.f40 d20
theorem X7 m a b:e12 jn m [] [] ⟨[.dat 29 a,.dat 26 b],[],0⟩=kR (m+1) a b:=
 tq (g:=fun J=>(sF m a).bind fun c=>cond (c !=0) (some aj) ((cZ m a b (lst [])).bind fun d=>(bR m d).bind fun e=>some e)) (by rfl)
def asv:List Nat:=[1,1,0,1,0]
def e3(J:Q55)(m:Nat):=evAt Tryz.prog env (ct m) J (m+1) 11 28 Tryz.f11 d4
def l3(J:Q55)(m:Nat):=loopAt Tryz.prog env (ct m) J (m+1) 11 28 Tryz.f11 d4
def asw(a:List Dt)(b c:Int)(d:Dt)(e:List Dt):St:=⟨tsOf [(2,.ptr 0 [] 0),(6,.row 1),(10,.dat 23 (.lst a)),(11,.dat 3 (.int b)),(12,.dat 3 (.int c))],[.box 29 (.dat 29 d),.row 23 e],0⟩
theorem xU m:∀a c d b e f,l3 jn m asv [] a (asw c d b e f)=oM m a c d b e f
 |0,_,_,_,_,_=>rfl
 |a+1,c,d,b,e,f=>
  tl (g:=fun J=>cond (b<d) ((idx c b).bind fun i=>(kR m e i).bind fun h=>cond (I h 0 !=5) (some ([],8)) ((app f [h]).bind fun j=>jj J 1 3 a (asw c d (wrap .i64 (b+1)) e j) (l3 J m asv [] a))) (some (f,0))) (by simp only[aM,(xU m a)];rfl)
theorem MJ m b a:e3 jn m [] [] ⟨[.dat 29 b,.dat 23 (.lst a)],[],0⟩=qO (m+1) b a:=
 tq (g:=fun J=>jj J 1 3 (succ m) (asw a (a.length:Int) 0 b []) (l3 J m asv [] (succ m))) (by simp only[aM,xU m];rfl)
def avY:List Nat:=[1,1,1,1,1]
def amv:List Nat:=[1,1,1,0,1,0]
def awL:List Nat:=[1,1,1,1,0,1]
def amw:List Nat:=awL++[0]
def aoM:List Nat:=amv++[0,1,1]
def avZ:List Nat:=aoM++[1]
def asx:List Nat:=amw++[0,1,1]
def av0:List Nat:=asx++[1]
def aoN:List Nat:=aoM++[0,0,1,1,1]
def asz:List Nat:=aoN++[1,1]
def e6(J:Q13)(m:Nat):=evAt Tryz.prog env (ct m) J (m+1) 14 83 Tryz.f14 Xn
def l6(J:Q13)(m:Nat):=loopAt Tryz.prog env (ct m) J (m+1) 14 83 Tryz.f14 Xn
def aaP(a:List Dt)(b c:Int)(d:Dt)(e f g h:List Dt):St:=⟨tsOf [(2,.ptr 0 [] 0),(5,.ptr 1 [] 0),(6,.row 4),(7,.row 5),(15,.dat 23 (.lst a)),(16,.dat 3 (.int b)),(17,.dat 3 (.int c))],[.box 29 (.dat 29 d),.box 23 (.row 2),(.rowD 23 24 (some 4) 3 e none),(.tok 24 f),.row 75 g,.row 75 h],0⟩
def asA(a:Int)(b:List Dt)(c d:Int)(e:Dt)(f g h i:List Dt):St:=⟨tsOf [(2,.ptr 0 [] 0),(5,.ptr 1 [] 0),(6,.row 4),(7,.row 5),(11,.dat 3 (.int a)),(15,.dat 23 (.lst b)),(16,.dat 3 (.int c)),(17,.dat 3 (.int d))],[.box 29 (.dat 29 e),.box 23 (.row 2),(.rowD 23 24 (some 4) 3 f none),(.tok 24 g),.row 75 h,.row 75 i],0⟩
def asB(a:List Dt)(b c:Int)(d:Dt)(e f g h:List Dt)(i:Dt):St:=⟨tsOf [(2,.ptr 0 [] 0),(5,.ptr 1 [] 0),(6,.row 4),(7,.row 5),(10,.ptr 6 [] 0),(15,.dat 23 (.lst a)),(16,.dat 3 (.int b)),(17,.dat 3 (.int c))],[.box 29 (.dat 29 d),.box 23 (.row 2),(.rowD 23 24 (some 4) 3 e none),(.tok 24 f),.row 75 g,.row 75 h,.box 26 (.dat 26 i)],0⟩
def Md(a:List Dt)(b c:Int)(d e:List Dt):St:=⟨tsOf [(5,.ptr 0 [] 0),(63,.dat 75 (.lst a)),(64,.dat 3 (.int b)),(65,.dat 3 (.int c))],[.box 23 (.row 1),(.rowD 23 24 (some 4) 2 d none),(.tok 24 e)],0⟩
def apZ(a:List Dt):St:=⟨tsOf [(5,.ptr 0 [] 0)],[.box 23 (.row 1),.row 23 a],0⟩
def av1(a b c:List Dt):St:=⟨tsOf [(5,.ptr 0 [] 0),(6,.row 3)],[.box 23 (.row 1),(.rowD 23 24 (some 4) 2 a none),(.tok 24 b),.row 75 c],0⟩
abbrev aoO(m j:Nat)(a:Q43):Prop:=∀b c d e f g h i,l6 jn m amv [] j (aaP b c d e f g h i)=a b c d e f g h i
theorem ET m b a(l:aoO m b a) c d e f h i j k:e6 jn m avZ [b] (aaP c d e f h i j k)=uI m a c d e f h i j k:=
 tq (g:=fun J=>jj J 1 4 b (aaP c d (wrap .i64 (e+1)) f h i j k) (l6 J m amv [] b)) (by simp only[aM,l];rfl)
theorem EU m e a(p:aoO m e a) f h i j k l n c d:e6 jn m asz [e] (asA f h i j k l n c d)=jV m a f h i j k l n c d:=
 tq (g:=fun J=>(inL d f).bind fun t=>(d[f.toNat]?).bind fun b=>(inL c (toInt b)).bind fun q=>(c[(toInt b).toNat]?).bind fun o=>(inL c (toInt b)).bind fun r=>(c[(toInt b).toNat]?).bind fun s=>jj J 0 15 0 (aaP h i j k l n (List.set c (toInt b).toNat (int (wrap .i64 (toInt o+1)))) d) (e6 J m avZ [e])) (by simp only[aM,ET m e a p];rfl)
theorem EW m c a(q:aoO m c a) h i j k b d l e n:e6 jn m aoN [c] (asB h i j k b d l e n)=iJ m a h i j k b d l e n:=
 tq (g:=fun J=>(i15 m e n (lst (frzD (Option.some 4) b d))).bind fun o=>cond (!o.2) ((lV o.1 e [int (b.length:Int)]).bind fun r=>(kK m n 0).bind fun f=>(app b [aj]).bind fun p=>(inL p (b.length:Int)).bind fun t=>(p[(b.length:Int).toNat]?).bind fun u=>(app l [int 0]).bind fun s=>jj J 0 14 0 (asA o.1 h i j k (List.set p (b.length:Int).toNat (agg [int f.1,int f.2.1,str f.2.2.1,lst f.2.2.2.1,bool true])) (List.set (d++[lst []]) (b.length:Int).toNat (lst f.2.2.2.2)) s r) (e6 J m asz [c])) (jj J 0 14 0 (asA o.1 h i j k b d l e) (e6 J m asz [c]))) (by simp only[aM,EU m c a q];rfl)
theorem EX m b a(n:aoO m b a) c f d e h i j k:e6 jn m aoM [b] (aaP c f d e h i j k)=uJ m a c f d e h i j k:=
 tq (g:=fun J=>(idx c d).bind fun o=>(kR m e o).bind fun l=>cond (I l 0==0) (jj J 0 9 0 (asB c f d e h i j k pR) (e6 J m aoN [b])) (jj J 0 9 0 (asB c f d e h i j k l) (e6 J m aoN [b]))) (by simp only[aM,EW m b a n];rfl)
abbrev av2(m g:Nat)(a:Q82):Prop:=∀b c d e f,l6 jn m amw [] g (Md b c d e f)=a b c d e f
theorem DK m b a(i:av2 m b a) c d e f h:e6 jn m av0 [b] (Md c d e f h)=tL m a c d e f h:=
 tq (g:=fun J=>jj J 1 17 b (Md c d (wrap .i64 (e+1)) f h) (l6 J m amw [] b)) (by simp only[aM,i];rfl)
theorem EY m e a(o:av2 m e a) f i b d h:e6 jn m asx [e] (Md f i b d h)=uK m a f i b d h:=
 tq (g:=fun J=>(idx f b).bind fun j=>(inL d b).bind fun p=>(d[b.toNat]?).bind fun k=>cond (lkd (Option.some 4) k) ((h[b.toNat]?).bind fun c=>(ig m (toInt j)).bind fun l=>(inL (toLst c) 1).bind fun q=>((toLst c)[1]?).bind fun n=>jj J 0 20 0 (Md f i b d (List.set (List.set h b.toNat (lst [])) b.toNat (lst (List.set (toLst c) 1 (agg [str (S n 0),l]))))) (e6 J m av0 [e])) none) (by simp only[aM,DK m e a o];rfl)
theorem DL m a:e6 jn m avY [] (apZ a)=lM m a:=
 tq (g:=fun J=>(i21 m a).bind fun b=>some b) (by rfl)
theorem wD m:∀a f b c d e,l6 jn m amw [] a (Md f b c d e)=jW m a f b c d e
 |0,_,_,_,_,_=>rfl
 |a+1,f,b,c,d,e=>
  tl (g:=fun J=>cond (c<b) (jj J 0 18 0 (Md f b c d e) (e6 J m asx [a])) (jj J 0 21 0 (apZ (frzD (Option.some 4) d e)) (e6 J m avY []))) (by simp only[aM,EY m a (jW m a) (wD m a),DL m];rfl)
theorem EZ m b c a:e6 jn m [1,1,1,1] [] (av1 b c a)=nE m b c a:=
 tq (g:=fun J=>jj J 1 17 (succ m) (Md a (a.length:Int) 0 b c) (l6 J m amw [] (succ m))) (by simp only[aM,wD m];rfl)
theorem wE m:∀a h b c i d e f j,l6 jn m amv [] a (aaP h b c i d e f j)=iK m a h b c i d e f j
 |0,_,_,_,_,_,_,_,_=>rfl
 |a+1,h,b,c,i,d,e,f,j=>
  tl (g:=fun J=>cond (c<b) (jj J 0 5 0 (aaP h b c i d e f j) (e6 J m aoM [a])) (jj J 0 16 0 (av1 d e f) (e6 J m [1,1,1,1] []))) (by simp only[aM,EX m a (iK m a) (wE m a),EZ m];rfl)
theorem Ld m b a:e6 jn m [] [] ⟨[.dat 29 b,.dat 23 (.lst a)],[],0⟩=mq (m+1) b a:=
 tq (g:=fun J=>jj J 1 4 (succ m) (aaP a (a.length:Int) 0 b [] [] [] []) (l6 J m amv [] (succ m))) (by simp only[aM,wE m];rfl)
def e0(J:Q1)(m:Nat):=evAt Tryz.prog env (ct m) J (m+1) 3 50 Tryz.f3 d5
def asC(a:List Dt)(b:Bool)(c:Dt):St:=⟨tsOf [(1,.dat 23 (.lst a)),(2,.ptr 0 [] 0),(16,.dat 4 (.bool b))],[.box 29 (.dat 29 c)],0⟩
theorem AR m a c b:e0 jn m [1,0,1] [] (asC a c b)=gI m a c b:=
 tq (g:=fun J=>cond c ((FN).bind fun f=>some f) ((qO m b a).bind fun d=>(uF m b a).bind fun e=>cond (d.2==e.2) ((bY m d.1 e.1).bind fun h=>cond h ((mq m b a).bind fun i=>(qB m b a).bind fun j=>(bY m i j).bind fun k=>cond k ((FN).bind fun l=>some l) (some false)) (some false)) (some false))) (by rfl)
theorem DN m a b:e0 jn m [] [] ⟨[.dat 29 a,.dat 23 (.lst b)],[],0⟩=lN (m+1) a b:=
 tq (g:=fun J=>(nP m b).bind fun c=>cond (!c) (jj J 0 2 0 (asC b true a) (e0 J m [1,0,1] [])) ((jL m a).bind fun d=>jj J 0 2 0 (asC b (d !=0) a) (e0 J m [1,0,1] []))) (by simp only[aM,AR m];rfl)
end Go.Proofs.YtmecfjhdnbgfeaaGreatDoor
namespace Go.Proofs.YtmecfjhdnbgfeaaGreatDoor
open Go.Am
set_option maxRecDepth 100000
theorem mixed:Tryz.prog.follows .mixedOrders=true:=by kernel_rfl
abbrev CtH(m:Nat):Prop:=∀R,CallOK (R:=R) Tryz.prog (ct m)
abbrev CtK(m:Nat):Prop:=∀k,k<m->CtH k
abbrev FQ{R:Type}(f:Nat)(args:List AV)(objs:List Ob)(K:Res->Option R)(r:R):Prop:=∃q:Res,K q=some r∧FX Tryz.prog f args objs q.1 q.2∧HasBody Tryz.prog f
theorem fo{R:Type}{m f:Nat}{fn:Func}{c:Code}{args:List AV}{objs:List Ob}{res:AV}{ro:List Ob}{dec:Res->Option R}{r:R}(hct:CtH m)(hf:Tryz.prog.funcs[f]? =some fn)(hc:fn.body=some c)(hl:Nat.ble args.length fn.ntmps=true)(hd:∀{b:Res},dec b=some r->Sim Tryz.prog b (res,ro))(h:ev Tryz.prog env (ct m) jn (m+1) f fn.ntmps c ⟨args,objs,objs.length⟩ (fun e σ=>(WO Tryz.prog env f fn e σ).bind dec)=some r):FX Tryz.prog f args objs res ro:=
 FX_of (q:=(res,ro)) (E:=env) (m:=m+1) (dec:=dec) jn_ok (hct _) mixed hf hc (aN hl) (fun _ hb=>hd hb) h
abbrev FE(f:FuncId)(s:SR)(sh:List SA)(F:CF sh (Option s.T)):Prop:=FG Tryz.prog f s sh F fun l=>l
theorem fe{f:FuncId}{s:SR}{sh:List SA}{X:Nat->CF sh (Option s.T)}(m:Nat)(ck:CtK m)(ho:oksA Tryz.prog sh)(hb:HasBody Tryz.prog f)(a:∀m,CtH m->FE f s sh (X (m+1)))(b:FZ sh (X 0)):EOK Tryz.prog f ⟨sh,s,X m⟩:=
 ⟨ho,match m,ck with
  |0,_=>b.fg
  |m+1,ck=>a m (ck m (Nat.lt_succ_self m)),hb⟩
section
variable{R:Type}{args:List AV}{objs:List Ob}{K:Res->Option R}{r:R}
theorem Jg m(hct:CtH m):FE 13 eU arl (bY (m+1)):=fun a b r h=>
 fo hct Tryz.func13 (dec:=d5) rfl rfl (SR.sim dQ) ((Iu m a b).trans h)
theorem SE m(hct:CtH m):FE 42 eU Di (dO (m+1)):=fun a b r h=>
 fo hct Tryz.func42 (dec:=d5) rfl rfl (SR.sim dQ) ((RZ m a b).trans h)
theorem GJ m(hct:CtH m):FE 48 res1 F6 (ig (m+1)):=fun a r h=>
 fo hct Tryz.func48 (dec:=d20) rfl rfl (SR.sim dB) ((F7 m a).trans h)
theorem GK m(hct:CtH m)(a:Dt)(b:Int){r:Int×Int×ByteArray×List Dt×List Dt}(h:kK (m+1) a b=some r):FX Tryz.prog 47 [.dat 26 a,.dat 3 (.int b)] [] (.agg 26 [.dat 3 (.int r.1),.dat 3 (.int r.2.1),.dat 9 (.str r.2.2.1),.row 0,.row 1]) [.row 23 r.2.2.2.1,.row 24 r.2.2.2.2]:=
 fo hct Tryz.func47 rfl rfl ae5 ((F8 m a b).trans h)
theorem asD m(hct:CtH m)(a b c:Int)(d:List Dt){r:List Dt}(h:i27 (m+1) a b c d=some r):FX Tryz.prog 225 [.row 0,.dat 3 (.int a),.dat 3 (.int b),.dat 3 (.int c),.fn 50 []] [.row 23 d] (.tup []) [.row 23 r]:=
 fo hct Tryz.func225 rfl rfl Er ((arx m a b c d).trans h)
theorem asE m(hct:CtH m)(a b c:Int)(d:List Dt){r:List Dt}(h:i26 (m+1) a b c d=some r):FX Tryz.prog 190 [.row 0,.dat 3 (.int a),.dat 3 (.int b),.dat 3 (.int c),.fn 50 []] [.row 23 d] (.tup []) [.row 23 r]:=
 fo hct Tryz.func190 rfl rfl Er ((arz m a b c d).trans h)
theorem SF m(hct:CtH m):FE 83 res1 sH (bR (m+1)):=fun a r h=>
 fo hct Tryz.func83 (dec:=d20) rfl rfl (SR.sim dB) ((R3 m a).trans h)
theorem SG m(hct:CtH m):FE 60 res2 Ae (dP (m+1)):=fun a b r h=>
 fo hct Tryz.func60 (dec:=d39) rfl rfl (SR.sim gZ) ((R4 m a b).trans h)
theorem Qx m(hct:CtH m):FE 61 res2 ae2 (jE (m+1)):=fun a b r h=>
 fo hct Tryz.func61 (dec:=d39) rfl rfl (SR.sim gZ) ((Po m a b).trans h)
theorem Le m(hct:CtH m):FE 21 res2 Di (bF (m+1)):=fun a b r h=>
 fo hct Tryz.func21 (dec:=d39) rfl rfl (SR.sim gZ) ((Kg m a b).trans h)
theorem Lf m(hct:CtH m):FE 91 res1 F6 (ru (m+1)):=fun a r h=>
 fo hct Tryz.func91 (dec:=d20) rfl rfl (SR.sim dB) ((Kh m a).trans h)
theorem Lg m(hct:CtH m):FE 52 res1 Dj (o7 (m+1)):=fun a b r h=>
 fo hct Tryz.func52 (dec:=d20) rfl rfl (SR.sim dB) ((Ki m a b).trans h)
theorem Bh m(hct:CtH m):FE 123 res1 ahq (cO (m+1)):=fun r h=>
 fo hct Tryz.func123 (dec:=d20) rfl rfl (SR.sim dB) ((Bg m).trans h)
theorem SH m(hct:CtH m):FE 127 res1 ahq (cK (m+1)):=fun r h=>
 fo hct Tryz.func127 (dec:=d20) rfl rfl (SR.sim dB) ((R5 m).trans h)
theorem X8 m(hct:CtH m):FE 128 eU F6 (sI (m+1)):=fun a r h=>
 fo hct Tryz.func128 (dec:=d5) rfl rfl (SR.sim dQ) ((Xq m a).trans h)
theorem Qy m(hct:CtH m):FE 86 res2 Ae (eX (m+1)):=fun a b r h=>
 fo hct Tryz.func86 (dec:=d39) rfl rfl (SR.sim gZ) ((Pq m a b).trans h)
theorem Lh m(hct:CtH m):FE 45 res2 Di (bD (m+1)):=fun a b r h=>
 fo hct Tryz.func45 (dec:=d39) rfl rfl (SR.sim gZ) ((Kk m a b).trans h)
theorem asF m(hct:CtH m)(a:Int)(b c:Dt){r:Int}(h:i16 (m+1) a b c=some r):FX Tryz.prog 44 [.dat 3 (.int a),.dat 26 b,.rptr 23 c] [] (.dat 3 (.int r)) []:=
 fo hct Tryz.func44 (dec:=d39) rfl rfl (SR.sim gZ) ((arC m a b c).trans h)
theorem asG m(hct:CtH m)(a:List Dt)(b c:Dt){r:Int×Bool}(h:i15 (m+1) a b c=some r):FX Tryz.prog 43 [.dat 75 (.lst a),.dat 26 b,.fn 44 [.rptr 23 c]] [] (.tup [.dat 3 (.int r.1),.dat 4 (.bool r.2)]) []:=
 fo hct Tryz.func43 (dec:=d15) rfl rfl (SR.sim aoq) ((arD m a b c).trans h)
theorem GN m(hct:CtH m):FE 50 res2 Di (dF (m+1)):=fun a b r h=>
 fo hct Tryz.func50 (dec:=d39) rfl rfl (SR.sim gZ) ((F9 m a b).trans h)
theorem asH m(hct:CtH m)(a b:Int)(c:List Dt){r:List Dt}(h:i23 (m+1) a b c=some r):FX Tryz.prog 131 [.row 0,.dat 3 (.int a),.dat 3 (.int b),.fn 50 []] [.row 23 c] (.tup []) [.row 23 r]:=
 fo hct Tryz.func131 rfl rfl Er ((arE m a b c).trans h)
theorem asI m(hct:CtH m)(a b c:Int)(d:List Dt){r:List Dt}(h:i25 (m+1) a b c d=some r):FX Tryz.prog 132 [.row 0,.dat 3 (.int a),.dat 3 (.int b),.dat 3 (.int c),.fn 50 []] [.row 23 d] (.tup []) [.row 23 r]:=
 fo hct Tryz.func132 rfl rfl Er ((arI m a b c d).trans h)
theorem asJ m(hct:CtH m)(a:Int)(b:List Dt){r:List Dt}(h:i22 (m+1) a b=some r):FX Tryz.prog 90 [.row 0,.dat 3 (.int a),.fn 50 []] [.row 23 b] (.tup []) [.row 23 r]:=
 fo hct Tryz.func90 rfl rfl Er ((arJ m a b).trans h)
theorem asK m(hct:CtH m)(a:List Dt){r:List Dt}(h:i21 (m+1) a=some r):FX Tryz.prog 49 [.row 0,.fn 50 []] [.row 23 a] (.tup []) [.row 23 r]:=
 fo hct Tryz.func49 rfl rfl Er ((arK m a).trans h)
theorem SI m(hct:CtH m):FE 97 eU vY (iE (m+1)):=fun a r h=>
 fo hct Tryz.func97 (dec:=d5) rfl rfl (SR.sim dQ) ((R6 m a).trans h)
theorem Qz m(hct:CtH m):FE 65 eU Ip (iV (m+1)):=fun a r h=>
 fo hct Tryz.func65 (dec:=d5) rfl rfl (SR.sim dQ) ((PI m a).trans h)
theorem SN m(hct:CtH m):FE 108 eU Di (bJ (m+1)):=fun a b r h=>
 fo hct Tryz.func108 (dec:=d5) rfl rfl (SR.sim dQ) ((R7 m a b).trans h)
theorem QA m(hct:CtH m):FE 107 eU Ip (nK (m+1)):=fun a r h=>
 fo hct Tryz.func107 (dec:=d5) rfl rfl (SR.sim dQ) ((PK m a).trans h)
theorem SQ m(hct:CtH m):FE 106 res2 F6 (qg (m+1)):=fun a r h=>
 fo hct Tryz.func106 (dec:=d39) rfl rfl (SR.sim gZ) ((R8 m a).trans h)
theorem QB m(hct:CtH m):FE 208 eU sH (qh (m+1)):=fun a r h=>
 fo hct Tryz.func208 (dec:=d5) rfl rfl (SR.sim dQ) ((PL m a).trans h)
theorem SV m(hct:CtH m):FE 205 res2 F6 (qj (m+1)):=fun a r h=>
 fo hct Tryz.func205 (dec:=d39) rfl rfl (SR.sim gZ) ((R9 m a).trans h)
theorem MK m(hct:CtH m):FE 204 eU Ae (qK (m+1)):=fun a b r h=>
 fo hct Tryz.func204 (dec:=d5) rfl rfl (SR.sim dQ) ((Mj m a b).trans h)
theorem ML m(hct:CtH m):FE 159 res1 Z6 (bZ (m+1)):=fun a b r h=>
 fo hct Tryz.func159 (dec:=d20) rfl rfl (SR.sim dB) ((Mk m a b).trans h)
theorem vU m(hct:CtH m):FE 166 res1 F6 (bU (m+1)):=fun a r h=>
 fo hct Tryz.func166 (dec:=d20) rfl rfl (SR.sim dB) ((vT m a).trans h)
theorem SX m(hct:CtH m):FE 172 res1 sH (nV (m+1)):=fun a r h=>
 fo hct Tryz.func172 (dec:=d20) rfl rfl (SR.sim dB) ((Sb m a).trans h)
theorem SY m(hct:CtH m):FE 173 eU sH (gB (m+1)):=fun a r h=>
 fo hct Tryz.func173 (dec:=d5) rfl rfl (SR.sim dQ) ((Sc m a).trans h)
theorem Li m(hct:CtH m):FE 176 res1 Z7 (bW (m+1)):=fun a r h=>
 fo hct Tryz.func176 (dec:=d20) rfl rfl (SR.sim dB) ((KC m a).trans h)
theorem QC m(hct:CtH m):FE 175 res1 BJ (nL (m+1)):=fun a b r h=>
 fo hct Tryz.func175 (dec:=d20) rfl rfl (SR.sim dB) ((PO m a b).trans h)
theorem X9 m(hct:CtH m):FE 178 res1 F6 (dX (m+1)):=fun a r h=>
 fo hct Tryz.func178 (dec:=d20) rfl rfl (SR.sim dB) ((Xv m a).trans h)
theorem Lj m(hct:CtH m):FE 180 aom ajU (gL (m+1)):=fun a b r h=>
 fo hct Tryz.func180 (dec:=d92) rfl rfl (SR.sim aor) ((KD m a b).trans h)
theorem S9 m(hct:CtH m):FE 179 res1 vY (jY (m+1)):=fun a r h=>
 fo hct Tryz.func179 (dec:=d20) rfl rfl (SR.sim dB) ((Sd m a).trans h)
theorem QD m(hct:CtH m):FE 181 res1 ajV (nM (m+1)):=fun a b c r h=>
 fo hct Tryz.func181 (dec:=d20) rfl rfl (SR.sim dB) ((PS m a b c).trans h)
theorem Ta m(hct:CtH m):FE 182 res1 ajW (lZ (m+1)):=fun a b r h=>
 fo hct Tryz.func182 (dec:=d20) rfl rfl (SR.sim dB) ((Sg m a b).trans h)
theorem Ll m(hct:CtH m):FE 183 res1 Di (jG (m+1)):=fun a b r h=>
 fo hct Tryz.func183 (dec:=d20) rfl rfl (SR.sim dB) ((KE m a b).trans h)
theorem Lm m(hct:CtH m):FE 187 res1 ajX (dZ (m+1)):=fun a b c r h=>
 fo hct Tryz.func187 (dec:=d20) rfl rfl (SR.sim dB) ((KF m a b c).trans h)
theorem QE m(hct:CtH m):FE 133 aad sH (kW (m+1)):=fun a r h=>
 fo hct Tryz.func133 (dec:=Xn) rfl rfl (SR.sim Xm) ((PU m a).trans h)
theorem MN m(hct:CtH m):FE 92 res2 Dj (eP (m+1)):=fun a b r h=>
 fo hct Tryz.func92 (dec:=d39) rfl rfl (SR.sim gZ) ((Ml m a b).trans h)
theorem QF m(hct:CtH m):FE 54 res2 sH (nN (m+1)):=fun a r h=>
 fo hct Tryz.func54 (dec:=d39) rfl rfl (SR.sim gZ) ((PV m a).trans h)
theorem QG m(hct:CtH m):FE 93 res2 Dj (iW (m+1)):=fun a b r h=>
 fo hct Tryz.func93 (dec:=d39) rfl rfl (SR.sim gZ) ((PW m a b).trans h)
theorem QH m(hct:CtH m):FE 55 res2 sH (nO (m+1)):=fun a r h=>
 fo hct Tryz.func55 (dec:=d39) rfl rfl (SR.sim gZ) ((PX m a).trans h)
theorem Tc m(hct:CtH m):FE 134 eU ajY (rY (m+1)):=fun a b c r h=>
 fo hct Tryz.func134 (dec:=d5) rfl rfl (SR.sim dQ) ((Si m a b c).trans h)
theorem Td m(hct:CtH m):FE 94 eU vY (rZ (m+1)):=fun a r h=>
 fo hct Tryz.func94 (dec:=d5) rfl rfl (SR.sim dQ) ((Sj m a).trans h)
theorem Tf m(hct:CtH m):FE 135 eU vY (nW (m+1)):=fun a r h=>
 fo hct Tryz.func135 (dec:=d5) rfl rfl (SR.sim dQ) ((Sk m a).trans h)
theorem MO m(hct:CtH m):FE 56 eU Z5 (bH (m+1)):=fun a b r h=>
 fo hct Tryz.func56 (dec:=d5) rfl rfl (SR.sim dQ) ((Mq m a b).trans h)
theorem MP m(hct:CtH m):FE 95 eU Z5 (dD (m+1)):=fun a b r h=>
 fo hct Tryz.func95 (dec:=d5) rfl rfl (SR.sim dQ) ((Mr m a b).trans h)
theorem QI m(hct:CtH m):FE 18 eU sH (iX (m+1)):=fun a r h=>
 fo hct Tryz.func18 (dec:=d5) rfl rfl (SR.sim dQ) ((PY m a).trans h)
theorem Lp m(hct:CtH m):FE 33 eU sH (l9 (m+1)):=fun a r h=>
 fo hct Tryz.func33 (dec:=d5) rfl rfl (SR.sim dQ) ((KO m a).trans h)
theorem asL m(hct:CtH m):FE 53 res2 ajS (i10 (m+1)):=fun a r h=>
 fo hct Tryz.func53 (dec:=d39) rfl rfl (SR.sim gZ) ((arR m a).trans h)
theorem av3 m(hct:CtH m):FE 16 eU ajS (i9 (m+1)):=fun a r h=>
 fo hct Tryz.func16 (dec:=d5) rfl rfl (SR.sim dQ) ((avj m a).trans h)
theorem QJ m(hct:CtH m):FE 8 eU Pg (nP (m+1)):=fun a r h=>
 fo hct Tryz.func8 (dec:=d5) rfl rfl (SR.sim dQ) ((PZ m a).trans h)
theorem Tg m(hct:CtH m):FE 75 RY Xj (r9 (m+1)):=fun a r h=>
 fo hct Tryz.func75 (dec:=d42) rfl rfl (SR.sim NA) ((Sl m a).trans h)
theorem QK m(hct:CtH m):FE 34 aon ajT (fJ (m+1)):=fun a b c r h=>
 fo hct Tryz.func34 (dec:=d31) rfl rfl (SR.sim aos) ((P5 m a b c).trans h)
theorem QL m(hct:CtH m):FE 9 RY Xj (jL (m+1)):=fun a r h=>
 fo hct Tryz.func9 (dec:=d42) rfl rfl (SR.sim NA) ((P6 m a).trans h)
theorem MQ m(hct:CtH m):FE 198 eU vY (nX (m+1)):=fun a r h=>
 fo hct Tryz.func198 (dec:=d5) rfl rfl (SR.sim dQ) ((Mt m a).trans h)
theorem aoP m(hct:CtH m):FE 230 res2 Z9 (i105 (m+1)):=fun a r h=>
 fo hct Tryz.func230 (dec:=d39) rfl rfl (SR.sim gZ) ((aoB m a).trans h)
theorem aoQ m(hct:CtH m):FE 197 eU Z9 (agq (m+1)):=fun a r h=>
 fo hct Tryz.func197 (dec:=d5) rfl rfl (SR.sim dQ) ((aoC m a).trans h)
theorem Ti m(hct:CtH m):FE 147 eU Ip (nY (m+1)):=fun a r h=>
 fo hct Tryz.func147 (dec:=d5) rfl rfl (SR.sim dQ) ((Sm m a).trans h)
theorem QM m(hct:CtH m):FE 206 eU vY (kX (m+1)):=fun a r h=>
 fo hct Tryz.func206 (dec:=d5) rfl rfl (SR.sim dQ) ((P8 m a).trans h)
theorem Cc m(hct:CtH m):FE 207 eU Ip (eY (m+1)):=fun a r h=>
 fo hct Tryz.func207 (dec:=d5) rfl rfl (SR.sim dQ) ((BU m a).trans h)
theorem QN m(hct:CtH m):FE 209 res1 sH (iw (m+1)):=fun a r h=>
 fo hct Tryz.func209 (dec:=d20) rfl rfl (SR.sim dB) ((P9 m a).trans h)
theorem GQ m(hct:CtH m):FE 168 res1 F5 (eF (m+1)):=fun a b r h=>
 fo hct Tryz.func168 (dec:=d20) rfl rfl (SR.sim dB) ((Gm m a b).trans h)
theorem QO m(hct:CtH m):FE 210 eU sH (eB (m+1)):=fun a r h=>
 fo hct Tryz.func210 (dec:=d5) rfl rfl (SR.sim dQ) ((Qb m a).trans h)
theorem Lr m(hct:CtH m):FE 211 res2 Ae (iT (m+1)):=fun a b r h=>
 fo hct Tryz.func211 (dec:=d39) rfl rfl (SR.sim gZ) ((KW m a b).trans h)
theorem GR m(hct:CtH m):FE 161 res1 BJ (dW (m+1)):=fun a b r h=>
 fo hct Tryz.func161 (dec:=d20) rfl rfl (SR.sim dB) ((Gn m a b).trans h)
theorem MR m(hct:CtH m):FE 212 res1 Z7 (bX (m+1)):=fun a r h=>
 fo hct Tryz.func212 (dec:=d20) rfl rfl (SR.sim dB) ((Mw m a).trans h)
theorem GU m(hct:CtH m):FE 162 res1 Ae (jy (m+1)):=fun a b r h=>
 fo hct Tryz.func162 (dec:=d20) rfl rfl (SR.sim dB) ((Gp m a b).trans h)
theorem Tj m(hct:CtH m):FE 163 res1 BJ (gQ (m+1)):=fun a b r h=>
 fo hct Tryz.func163 (dec:=d20) rfl rfl (SR.sim dB) ((Sn m a b).trans h)
theorem QS m(hct:CtH m):FE 141 eU Di (jM (m+1)):=fun a b r h=>
 fo hct Tryz.func141 (dec:=d5) rfl rfl (SR.sim dQ) ((Qc m a b).trans h)
theorem MS m(hct:CtH m):FE 217 res1 Z8 (kY (m+1)):=fun a b r h=>
 fo hct Tryz.func217 (dec:=d20) rfl rfl (SR.sim dB) ((Mx m a b).trans h)
theorem MU m(hct:CtH m):FE 165 res1 BJ (dM (m+1)):=fun a b r h=>
 fo hct Tryz.func165 (dec:=d20) rfl rfl (SR.sim dB) ((MB m a b).trans h)
theorem QT m(hct:CtH m):FE 218 res2 Dj (kZ (m+1)):=fun a b r h=>
 fo hct Tryz.func218 (dec:=d39) rfl rfl (SR.sim gZ) ((Qd m a b).trans h)
theorem aoR m(hct:CtH m)(a:Dt)(b c:Int){r:Int×Int}(h:agr (m+1) a b c=some r):FX Tryz.prog 234 [.dat 26 a,(.fn 235 [.ptr 0 [] 0,.ptr 1 [] 0])] [.box 3 (.dat 3 (.int b)),.box 3 (.dat 3 (.int c))] (.tup []) [.box 3 (.dat 3 (.int r.1)),.box 3 (.dat 3 (.int r.2))]:=
 fo hct Tryz.func234 rfl rfl aan ((aoD m a b c).trans h)
theorem aoT m(hct:CtH m)(a:Dt)(b c:Int){r:Bool×Int×Int}(h:Fy (m+1) a b c=some r):FX Tryz.prog 235 [.dat 26 a,.ptr 0 [] 0,.ptr 1 [] 0] [.box 3 (.dat 3 (.int b)),.box 3 (.dat 3 (.int c))] (.dat 4 (.bool r.1)) [.box 3 (.dat 3 (.int r.2.1)),.box 3 (.dat 3 (.int r.2.2))]:=
 fo hct Tryz.func235 rfl rfl aao ((aoE m a b c).trans h)
theorem QU m(hct:CtH m):FE 169 res2 sH (nQ (m+1)):=fun a r h=>
 fo hct Tryz.func169 (dec:=d39) rfl rfl (SR.sim gZ) ((Qg m a).trans h)
theorem QV m(hct:CtH m):FE 219 res2 Dj (lg (m+1)):=fun a b r h=>
 fo hct Tryz.func219 (dec:=d39) rfl rfl (SR.sim gZ) ((Qh m a b).trans h)
theorem aoU m(hct:CtH m)(a:Dt)(b c:Int){r:Int×Int}(h:i127 (m+1) a b c=some r):FX Tryz.prog 234 [.dat 26 a,(.fn 236 [.ptr 0 [] 0,.ptr 1 [] 0])] [.box 3 (.dat 3 (.int b)),.box 3 (.dat 3 (.int c))] (.tup []) [.box 3 (.dat 3 (.int r.1)),.box 3 (.dat 3 (.int r.2))]:=
 fo hct Tryz.func234 rfl rfl aan ((aoF m a b c).trans h)
theorem aoV m(hct:CtH m)(a:Dt)(b c:Int){r:Bool×Int×Int}(h:Fz (m+1) a b c=some r):FX Tryz.prog 236 [.dat 26 a,.ptr 0 [] 0,.ptr 1 [] 0] [.box 3 (.dat 3 (.int b)),.box 3 (.dat 3 (.int c))] (.dat 4 (.bool r.1)) [.box 3 (.dat 3 (.int r.2.1)),.box 3 (.dat 3 (.int r.2.2))]:=
 fo hct Tryz.func236 rfl rfl aao ((aoG m a b c).trans h)
theorem QW m(hct:CtH m):FE 170 res2 sH (nR (m+1)):=fun a r h=>
 fo hct Tryz.func170 (dec:=d39) rfl rfl (SR.sim gZ) ((Qk m a).trans h)
theorem aaQ m(hct:CtH m):FE 62 res2 Pj (ni (m+1)):=fun a b r h=>
 fo hct Tryz.func62 (dec:=d39) rfl rfl (SR.sim gZ) ((aaE m a b).trans h)
theorem Ya m(hct:CtH m):FE 23 aoo Pj (sJ (m+1)):=fun a b r h=>
 fo hct Tryz.func23 (dec:=d84) rfl rfl (SR.sim aot) ((XI m a b).trans h)
theorem aaR m(hct:CtH m):FE 124 res1 Z6 (iA (m+1)):=fun a b r h=>
 fo hct Tryz.func124 (dec:=d20) rfl rfl (SR.sim dB) ((aaF m a b).trans h)
theorem QX m(hct:CtH m):FE 222 eU aj0 (iY (m+1)):=fun a b r h=>
 fo hct Tryz.func222 (dec:=d5) rfl rfl (SR.sim dQ) ((Ql m a b).trans h)
theorem MV m(hct:CtH m):FE 177 res1 Pg (lC (m+1)):=fun a r h=>
 fo hct Tryz.func177 (dec:=d20) rfl rfl (SR.sim dB) ((MC m a).trans h)
theorem Tk m(hct:CtH m):FE 185 res1 Pg (qx (m+1)):=fun a r h=>
 fo hct Tryz.func185 (dec:=d20) rfl rfl (SR.sim dB) ((Sq m a).trans h)
theorem Jh m(hct:CtH m):FE 223 res2 Ae (eZ (m+1)):=fun a b r h=>
 fo hct Tryz.func223 (dec:=d39) rfl rfl (SR.sim gZ) ((IZ m a b).trans h)
theorem MW m(hct:CtH m):FE 174 res1 BJ (fU (m+1)):=fun a b r h=>
 fo hct Tryz.func174 (dec:=d20) rfl rfl (SR.sim dB) ((ME m a b).trans h)
theorem QY m(hct:CtH m):FE 224 eU Di (jN (m+1)):=fun a b r h=>
 fo hct Tryz.func224 (dec:=d5) rfl rfl (SR.sim dQ) ((Qm m a b).trans h)
theorem Ji m(hct:CtH m):FE 184 eU Z8 (j5 (m+1)):=fun a b r h=>
 fo hct Tryz.func184 (dec:=d5) rfl rfl (SR.sim dQ) ((I4 m a b).trans h)
theorem Yb m(hct:CtH m):FE 105 res1 aac (pG (m+1)):=fun a b c r h=>
 fo hct Tryz.func105 (dec:=d20) rfl rfl (SR.sim dB) ((XL m a b c).trans h)
theorem QZ m(hct:CtH m):FE 186 res1 Pg (nT (m+1)):=fun a r h=>
 fo hct Tryz.func186 (dec:=d20) rfl rfl (SR.sim dB) ((Qn m a).trans h)
theorem Rf m(hct:CtH m):FE 126 res1 F5 (aV (m+1)):=fun a b r h=>
 fo hct Tryz.func126 (dec:=d20) rfl rfl (SR.sim dB) ((Qq m a b).trans h)
theorem Tm m(hct:CtH m):FE 85 res1 Z4 (bM (m+1)):=fun a b c r h=>
 fo hct Tryz.func85 (dec:=d20) rfl rfl (SR.sim dB) ((Sr m a b c).trans h)
theorem Tn m(hct:CtH m):FE 125 res1 Z4 (dK (m+1)):=fun a b c r h=>
 fo hct Tryz.func125 (dec:=d20) rfl rfl (SR.sim dB) ((Sv m a b c).trans h)
theorem Tp m(hct:CtH m):FE 41 res1 acy (ko (m+1)):=fun a b r h=>
 fo hct Tryz.func41 (dec:=d20) rfl rfl (SR.sim dB) ((Sw m a b).trans h)
theorem Tq m(hct:CtH m):FE 12 ahr F5 (uF (m+1)):=fun a b r h=>
 fo hct Tryz.func12 (dec:=d4) rfl rfl (SR.sim ae4) ((Sy m a b).trans h)
theorem Yc m(hct:CtH m):FE 51 res1 acy (pJ (m+1)):=fun a b r h=>
 fo hct Tryz.func51 (dec:=d20) rfl rfl (SR.sim dB) ((XP m a b).trans h)
theorem Rh m(hct:CtH m):FE 15 aad F5 (qB (m+1)):=fun a b r h=>
 fo hct Tryz.func15 (dec:=Xn) rfl rfl (SR.sim Xm) ((Qr m a b).trans h)
theorem Ri m(hct:CtH m)(a:Dt){r:Int×Int×ByteArray×List Dt×List Dt}(h:dA (m+1) a=some r):FX Tryz.prog 156 [.dat 26 a] [] (.agg 26 [.dat 3 (.int r.1),.dat 3 (.int r.2.1),.dat 9 (.str r.2.2.1),.row 0,.row 1]) [.row 23 r.2.2.2.1,.row 24 r.2.2.2.2]:=
 fo hct Tryz.func156 rfl rfl ae5 ((Qs m a).trans h)
theorem Tt m(hct:CtH m):FE 157 res2 Pj (sj (m+1)):=fun a b r h=>
 fo hct Tryz.func157 (dec:=d39) rfl rfl (SR.sim gZ) ((Sz m a b).trans h)
theorem Yd m(hct:CtH m):FE 119 res1 aac (uG (m+1)):=fun a b c r h=>
 fo hct Tryz.func119 (dec:=d20) rfl rfl (SR.sim dB) ((XQ m a b c).trans h)
theorem Tw m(hct:CtH m):FE 167 res1 Pg (qD (m+1)):=fun a r h=>
 fo hct Tryz.func167 (dec:=d20) rfl rfl (SR.sim dB) ((SB m a).trans h)
theorem MX m(hct:CtH m):FE 238 eU vY (og (m+1)):=fun a r h=>
 fo hct Tryz.func238 (dec:=d5) rfl rfl (SR.sim dQ) ((MG m a).trans h)
theorem Rj m(hct:CtH m):FE 171 eU sH (bP (m+1)):=fun a r h=>
 fo hct Tryz.func171 (dec:=d5) rfl rfl (SR.sim dQ) ((Qu m a).trans h)
theorem DR m(hct:CtH m):FE 221 eU ajZ (bL (m+1)):=fun a r h=>
 fo hct Tryz.func221 (dec:=d5) rfl rfl (SR.sim dQ) ((Dw m a).trans h)
theorem Rk m(hct:CtH m):FE 122 eU sH (lH (m+1)):=fun a r h=>
 fo hct Tryz.func122 (dec:=d5) rfl rfl (SR.sim dQ) ((Qv m a).trans h)
theorem Ye m(hct:CtH m):FE 84 res1 Ph (cZ (m+1)):=fun a b c r h=>
 fo hct Tryz.func84 (dec:=d20) rfl rfl (SR.sim dB) ((X4 m a b c).trans h)
theorem MZ m(hct:CtH m):FE 121 res1 Ph (fF (m+1)):=fun a b c r h=>
 fo hct Tryz.func121 (dec:=d20) rfl rfl (SR.sim dB) ((MH m a b c).trans h)
theorem Yf m(hct:CtH m):FE 160 res1 Ph (eG (m+1)):=fun a b c r h=>
 fo hct Tryz.func160 (dec:=d20) rfl rfl (SR.sim dB) ((X5 m a b c).trans h)
theorem Jj m(hct:CtH m):FE 158 RY Xj (kC (m+1)):=fun a r h=>
 fo hct Tryz.func158 (dec:=d42) rfl rfl (SR.sim NA) ((Jf m a).trans h)
theorem asM m(hct:CtH m)(a:Dt)(b c:Int){r:Int×Int}(h:i46 (m+1) a b c=some r):FX Tryz.prog 120 [.dat 29 a,.dat 3 (.int b),.ptr 0 [] 0] [.box 3 (.dat 3 (.int c))] (.dat 31 (.int r.1)) [.box 3 (.dat 3 (.int r.2))]:=
 fo hct Tryz.func120 rfl rfl aov ((asu m a b c).trans h)
theorem Tz m(hct:CtH m):FE 82 RY Xj (sF (m+1)):=fun a r h=>
 fo hct Tryz.func82 (dec:=d42) rfl rfl (SR.sim NA) ((SC m a).trans h)
theorem Yg m(hct:CtH m):FE 40 res1 acy (kR (m+1)):=fun a b r h=>
 fo hct Tryz.func40 (dec:=d20) rfl rfl (SR.sim dB) ((X7 m a b).trans h)
theorem M0 m(hct:CtH m):FE 11 ahr F5 (qO (m+1)):=fun a b r h=>
 fo hct Tryz.func11 (dec:=d4) rfl rfl (SR.sim ae4) ((MJ m a b).trans h)
theorem Ls m(hct:CtH m):FE 14 aad F5 (mq (m+1)):=fun a b r h=>
 fo hct Tryz.func14 (dec:=Xn) rfl rfl (SR.sim Xm) ((Ld m a b).trans h)
theorem vO m(hct:CtH m):FE 3 eU F5 (lN (m+1)):=fun a b r h=>
 fo hct Tryz.func3 (dec:=d5) rfl rfl (SR.sim dQ) ((DN m a b).trans h)
theorem aoW m(hct:CtK m)(h:arn m args objs K=some r):FQ 43 args objs K r:=by
 unfold arn at h;split at h
 ·rename_i l hl;obtain⟨x,hx,hk⟩:=au.1 h;obtain⟨a,b⟩:=akd hl;cases m with
  |zero=>cases hx
  |succ m=>exact⟨_,hk,(asG m (hct m (Nat.lt_succ_self m)) _ _ _ hx).conv a b,⟨_,Tryz.func43,rfl,by decide⟩⟩
 cases h
theorem aoX m(hct:CtK m)(h:aro m args objs K=some r):FQ 44 args objs K r:=by
 unfold aro at h;split at h
 ·rename_i l hl;obtain⟨x,hx,hk⟩:=au.1 h;obtain⟨a,b⟩:=akf hl;cases m with
  |zero=>cases hx
  |succ m=>exact⟨_,hk,(asF m (hct m (Nat.lt_succ_self m)) _ _ _ hx).conv a b,⟨_,Tryz.func44,rfl,by decide⟩⟩
 cases h
theorem aoY m(hct:CtK m)(h:arp m args objs K=some r):FQ 46 args objs K r:=by
 unfold arp at h;split at h
 ·rename_i l hl;obtain⟨x,hx,hk⟩:=au.1 h;obtain⟨a,b⟩:=akh hl;exact⟨_,hk,(agp hx).conv a b,⟨_,Tryz.func46,rfl,by decide⟩⟩
 cases h
theorem aoZ m(hct:CtK m)(h:arq m args objs K=some r):FQ 47 args objs K r:=by
 unfold arq at h;split at h
 ·rename_i l hl;obtain⟨x,hx,hk⟩:=au.1 h;obtain⟨a,b⟩:=akj hl;cases m with
  |zero=>cases hx
  |succ m=>exact⟨_,hk,(GK m (hct m (Nat.lt_succ_self m)) _ _ hx).conv a b,⟨_,Tryz.func47,rfl,by decide⟩⟩
 cases h
theorem ao0 m(hct:CtK m)(h:ars m args objs K=some r):FQ 49 args objs K r:=by
 unfold ars at h;split at h
 ·rename_i l hl;obtain⟨x,hx,hk⟩:=au.1 h;obtain⟨a,b⟩:=akl hl;cases m with
  |zero=>cases hx
  |succ m=>exact⟨_,hk,(asK m (hct m (Nat.lt_succ_self m)) _ hx).conv a b,⟨_,Tryz.func49,rfl,by decide⟩⟩
 cases h
theorem ao1 m(hct:CtK m)(h:aru m args objs K=some r):FQ 90 args objs K r:=by
 unfold aru at h;split at h
 ·rename_i l hl;obtain⟨x,hx,hk⟩:=au.1 h;obtain⟨a,b⟩:=akn hl;cases m with
  |zero=>cases hx
  |succ m=>exact⟨_,hk,(asJ m (hct m (Nat.lt_succ_self m)) _ _ hx).conv a b,⟨_,Tryz.func90,rfl,by decide⟩⟩
 cases h
theorem amx m(hct:CtK m)(h:aks m args objs K=some r):FQ 131 args objs K r:=by
 unfold aks at h;split at h
 ·rename_i l hl;obtain⟨x,hx,hk⟩:=au.1 h;obtain⟨a,b⟩:=akp hl;cases m with
  |zero=>cases hx
  |succ m=>exact⟨_,hk,(asH m (hct m (Nat.lt_succ_self m)) _ _ _ hx).conv a b,⟨_,Tryz.func131,rfl,by decide⟩⟩
 cases h
theorem amy m(hct:CtK m)(h:akt m args objs K=some r):FQ 132 args objs K r:=by
 unfold akt at h;split at h
 ·rename_i l hl;obtain⟨x,hx,hk⟩:=au.1 h;obtain⟨a,b⟩:=Pn hl;cases m with
  |zero=>cases hx
  |succ m=>exact⟨_,hk,(asI m (hct m (Nat.lt_succ_self m)) _ _ _ _ hx).conv a b,⟨_,Tryz.func132,rfl,by decide⟩⟩
 cases h
theorem amz m(hct:CtK m)(h:aku m args objs K=some r):FQ 190 args objs K r:=by
 unfold aku at h;split at h
 ·rename_i l hl;obtain⟨x,hx,hk⟩:=au.1 h;obtain⟨a,b⟩:=Pn hl;cases m with
  |zero=>cases hx
  |succ m=>exact⟨_,hk,(asE m (hct m (Nat.lt_succ_self m)) _ _ _ _ hx).conv a b,⟨_,Tryz.func190,rfl,by decide⟩⟩
 cases h
theorem amA m(hct:CtK m)(h:akv m args objs K=some r):FQ 225 args objs K r:=by
 unfold akv at h;split at h
 ·rename_i l hl;obtain⟨x,hx,hk⟩:=au.1 h;obtain⟨a,b⟩:=Pn hl;cases m with
  |zero=>cases hx
  |succ m=>exact⟨_,hk,(asD m (hct m (Nat.lt_succ_self m)) _ _ _ _ hx).conv a b,⟨_,Tryz.func225,rfl,by decide⟩⟩
 cases h
theorem amB m(hct:CtK m)(h:akw m args objs K=some r):FQ 120 args objs K r:=by
 unfold akw at h;split at h
 ·rename_i l hl;obtain⟨x,hx,hk⟩:=au.1 h;obtain⟨a,b⟩:=akr hl;cases m with
  |zero=>cases hx
  |succ m=>exact⟨_,hk,(asM m (hct m (Nat.lt_succ_self m)) _ _ _ hx).conv a b,⟨_,Tryz.func120,rfl,by decide⟩⟩
 cases h
theorem amC m(hct:CtK m)(h:akx m args objs K=some r):FQ 156 args objs K r:=by
 unfold akx at h;split at h
 ·rename_i l hl;obtain⟨x,hx,hk⟩:=au.1 h;obtain⟨a,b⟩:=akb hl;cases m with
  |zero=>cases hx
  |succ m=>exact⟨_,hk,(Ri m (hct m (Nat.lt_succ_self m)) _ hx).conv a b,⟨_,Tryz.func156,rfl,by decide⟩⟩
 cases h
theorem amD m(hct:CtK m)(h:aky m args objs K=some r):FQ 234 args objs K r:=by
 unfold aky at h;split at h
 ·rename_i l hl;obtain⟨x,hx,hk⟩:=au.1 h;obtain⟨a,b⟩:=ahs hl;cases m with
  |zero=>cases hx
  |succ m=>exact⟨_,hk,(aoR m (hct m (Nat.lt_succ_self m)) _ _ _ hx).conv a b,⟨_,Tryz.func234,rfl,by decide⟩⟩
 split at h
 ·rename_i l hl;obtain⟨x,hx,hk⟩:=au.1 h;obtain⟨a,b⟩:=aht hl;cases m with
  |zero=>cases hx
  |succ m=>exact⟨_,hk,(aoU m (hct m (Nat.lt_succ_self m)) _ _ _ hx).conv a b,⟨_,Tryz.func234,rfl,by decide⟩⟩
 cases h
theorem amE m(hct:CtK m)(h:akz m args objs K=some r):FQ 235 args objs K r:=by
 unfold akz at h;split at h
 ·rename_i l hl;obtain⟨x,hx,hk⟩:=au.1 h;obtain⟨a,b⟩:=UK hl;cases m with
  |zero=>cases hx
  |succ m=>exact⟨_,hk,(aoT m (hct m (Nat.lt_succ_self m)) _ _ _ hx).conv a b,⟨_,Tryz.func235,rfl,by decide⟩⟩
 cases h
theorem amF m(hct:CtK m)(h:akA m args objs K=some r):FQ 236 args objs K r:=by
 unfold akA at h;split at h
 ·rename_i l hl;obtain⟨x,hx,hk⟩:=au.1 h;obtain⟨a,b⟩:=UK hl;cases m with
  |zero=>cases hx
  |succ m=>exact⟨_,hk,(aoV m (hct m (Nat.lt_succ_self m)) _ _ _ hx).conv a b,⟨_,Tryz.func236,rfl,by decide⟩⟩
 cases h
end
theorem asN m(ck:CtK m)(f:FuncId)(e:Ent):ctE m f=some e->EOK Tryz.prog f e:=
 .st (fe m ck Br ⟨_,Tryz.func3,rfl,by decide⟩ vO (fun _ _=>rfl))<|
 .st (fe m ck Iq ⟨_,Tryz.func8,rfl,by decide⟩ QJ (fun _=>rfl))<|
 .st ⟨Xk,fun r h=>agI h,⟨_,Tryz.func10,rfl,by decide⟩⟩<|
 .st (fe m ck Br ⟨_,Tryz.func11,rfl,by decide⟩ M0 (fun _ _=>rfl))<|
 .st (fe m ck Br ⟨_,Tryz.func12,rfl,by decide⟩ Tq (fun _ _=>rfl))<|
 .st (fe m ck aop ⟨_,Tryz.func13,rfl,by decide⟩ Jg (fun _ _=>rfl))<|
 .st (fe m ck Br ⟨_,Tryz.func14,rfl,by decide⟩ Ls (fun _ _=>rfl))<|
 .st (fe m ck Br ⟨_,Tryz.func15,rfl,by decide⟩ Rh (fun _ _=>rfl))<|
 .st (fe m ck Nz ⟨_,Tryz.func9,rfl,by decide⟩ QL (fun _=>rfl))<|
 .st (fe m ck ae3 ⟨_,Tryz.func16,rfl,by decide⟩ av3 (fun _=>rfl))<|
 .st (fe m ck ae3 ⟨_,Tryz.func53,rfl,by decide⟩ asL (fun _=>rfl))<|
 .st (fe m ck oq ⟨_,Tryz.func33,rfl,by decide⟩ Lp (fun _=>rfl))<|
 .st (fe m ck Xl ⟨_,Tryz.func40,rfl,by decide⟩ Yg (fun _ _=>rfl))<|
 .st (fe m ck Xl ⟨_,Tryz.func41,rfl,by decide⟩ Tp (fun _ _=>rfl))<|
 .st (fe m ck yI ⟨_,Tryz.func42,rfl,by decide⟩ SE (fun _ _=>rfl))<|
 .st (fe m ck yI ⟨_,Tryz.func45,rfl,by decide⟩ Lh (fun _ _=>rfl))<|
 .st (fe m ck Bt ⟨_,Tryz.func48,rfl,by decide⟩ GJ (fun _=>rfl))<|
 .st (fe m ck yI ⟨_,Tryz.func50,rfl,by decide⟩ GN (fun _ _=>rfl))<|
 .st (fe m ck Xl ⟨_,Tryz.func51,rfl,by decide⟩ Yc (fun _ _=>rfl))<|
 .st (fe m ck yI ⟨_,Tryz.func21,rfl,by decide⟩ Le (fun _ _=>rfl))<|
 .st (fe m ck Dk ⟨_,Tryz.func52,rfl,by decide⟩ Lg (fun _ _=>rfl))<|
 .st (fe m ck aj1 ⟨_,Tryz.func34,rfl,by decide⟩ QK (fun _ _ _=>rfl))<|
 .st (fe m ck oq ⟨_,Tryz.func18,rfl,by decide⟩ QI (fun _=>rfl))<|
 .st (fe m ck Nz ⟨_,Tryz.func82,rfl,by decide⟩ Tz (fun _=>rfl))<|
 .st (fe m ck Pk ⟨_,Tryz.func84,rfl,by decide⟩ Ye (fun _ _ _=>rfl))<|
 .st (fe m ck oq ⟨_,Tryz.func83,rfl,by decide⟩ SF (fun _=>rfl))<|
 .st (fe m ck aae ⟨_,Tryz.func85,rfl,by decide⟩ Tm (fun _ _ _=>rfl))<|
 .st (fe m ck Af ⟨_,Tryz.func86,rfl,by decide⟩ Qy (fun _ _=>rfl))<|
 .st ⟨aaf,fun _ _ r h=>acp h,⟨_,Tryz.func87,rfl,by decide⟩⟩<|
 .st (fe m ck Af ⟨_,Tryz.func60,rfl,by decide⟩ SG (fun _ _=>rfl))<|
 .st (fe m ck aaf ⟨_,Tryz.func61,rfl,by decide⟩ Qx (fun _ _=>rfl))<|
 .st (fe m ck Bt ⟨_,Tryz.func91,rfl,by decide⟩ Lf (fun _=>rfl))<|
 .st (fe m ck Nz ⟨_,Tryz.func75,rfl,by decide⟩ Tg (fun _=>rfl))<|
 .st (fe m ck oq ⟨_,Tryz.func54,rfl,by decide⟩ QF (fun _=>rfl))<|
 .st (fe m ck oq ⟨_,Tryz.func55,rfl,by decide⟩ QH (fun _=>rfl))<|
 .st (fe m ck aag ⟨_,Tryz.func56,rfl,by decide⟩ MO (fun _ _=>rfl))<|
 .st (fe m ck Nz ⟨_,Tryz.func158,rfl,by decide⟩ Jj (fun _=>rfl))<|
 .st (fe m ck Pk ⟨_,Tryz.func121,rfl,by decide⟩ MZ (fun _ _ _=>rfl))<|
 .st (fe m ck oq ⟨_,Tryz.func122,rfl,by decide⟩ Rk (fun _=>rfl))<|
 .st (fe m ck Xk ⟨_,Tryz.func123,rfl,by decide⟩ Bh (rfl))<|
 .st (fe m ck Xk ⟨_,Tryz.func127,rfl,by decide⟩ SH (rfl))<|
 .st (fe m ck aah ⟨_,Tryz.func124,rfl,by decide⟩ aaR (fun _ _=>rfl))<|
 .st (fe m ck aae ⟨_,Tryz.func125,rfl,by decide⟩ Tn (fun _ _ _=>rfl))<|
 .st (fe m ck Br ⟨_,Tryz.func126,rfl,by decide⟩ Rf (fun _ _=>rfl))<|
 .st (fe m ck Bt ⟨_,Tryz.func128,rfl,by decide⟩ X8 (fun _=>rfl))<|
 .st (fe m ck Ir ⟨_,Tryz.func65,rfl,by decide⟩ Qz (fun _=>rfl))<|
 .st (fe m ck vL ⟨_,Tryz.func97,rfl,by decide⟩ SI (fun _=>rfl))<|
 .st (fe m ck yI ⟨_,Tryz.func108,rfl,by decide⟩ SN (fun _ _=>rfl))<|
 .st (fe m ck Ir ⟨_,Tryz.func107,rfl,by decide⟩ QA (fun _=>rfl))<|
 .st (fe m ck Bt ⟨_,Tryz.func106,rfl,by decide⟩ SQ (fun _=>rfl))<|
 .st (fe m ck Dk ⟨_,Tryz.func92,rfl,by decide⟩ MN (fun _ _=>rfl))<|
 .st (fe m ck Dk ⟨_,Tryz.func93,rfl,by decide⟩ QG (fun _ _=>rfl))<|
 .st (fe m ck vL ⟨_,Tryz.func94,rfl,by decide⟩ Td (fun _=>rfl))<|
 .st (fe m ck aag ⟨_,Tryz.func95,rfl,by decide⟩ MP (fun _ _=>rfl))<|
 .st (fe m ck Ir ⟨_,Tryz.func147,rfl,by decide⟩ Ti (fun _=>rfl))<|
 .st (fe m ck vL ⟨_,Tryz.func206,rfl,by decide⟩ QM (fun _=>rfl))<|
 .st (fe m ck oq ⟨_,Tryz.func208,rfl,by decide⟩ QB (fun _=>rfl))<|
 .st (fe m ck Ir ⟨_,Tryz.func207,rfl,by decide⟩ Cc (fun _=>rfl))<|
 .st (fe m ck Bt ⟨_,Tryz.func205,rfl,by decide⟩ SV (fun _=>rfl))<|
 .st (fe m ck Af ⟨_,Tryz.func204,rfl,by decide⟩ MK (fun _ _=>rfl))<|
 .st (fe m ck aah ⟨_,Tryz.func159,rfl,by decide⟩ ML (fun _ _=>rfl))<|
 .st (fe m ck Pk ⟨_,Tryz.func160,rfl,by decide⟩ Yf (fun _ _ _=>rfl))<|
 .st (fe m ck Ag ⟨_,Tryz.func161,rfl,by decide⟩ GR (fun _ _=>rfl))<|
 .st (fe m ck Af ⟨_,Tryz.func162,rfl,by decide⟩ GU (fun _ _=>rfl))<|
 .st (fe m ck Ag ⟨_,Tryz.func163,rfl,by decide⟩ Tj (fun _ _=>rfl))<|
 .st ⟨Ag,fun _ _ r h=>JA h,⟨_,Tryz.func164,rfl,by decide⟩⟩<|
 .st (fe m ck Ag ⟨_,Tryz.func165,rfl,by decide⟩ MU (fun _ _=>rfl))<|
 .st (fe m ck Bt ⟨_,Tryz.func166,rfl,by decide⟩ vU (fun _=>rfl))<|
 .st (fe m ck Iq ⟨_,Tryz.func167,rfl,by decide⟩ Tw (fun _=>rfl))<|
 .st (fe m ck Br ⟨_,Tryz.func168,rfl,by decide⟩ GQ (fun _ _=>rfl))<|
 .st (fe m ck oq ⟨_,Tryz.func169,rfl,by decide⟩ QU (fun _=>rfl))<|
 .st (fe m ck oq ⟨_,Tryz.func170,rfl,by decide⟩ QW (fun _=>rfl))<|
 .st (fe m ck oq ⟨_,Tryz.func171,rfl,by decide⟩ Rj (fun _=>rfl))<|
 .st (fe m ck Pm ⟨_,Tryz.func23,rfl,by decide⟩ Ya (fun _ _=>rfl))<|
 .st (fe m ck oq ⟨_,Tryz.func172,rfl,by decide⟩ SX (fun _=>rfl))<|
 .st (fe m ck oq ⟨_,Tryz.func173,rfl,by decide⟩ SY (fun _=>rfl))<|
 .st (fe m ck Ag ⟨_,Tryz.func174,rfl,by decide⟩ MW (fun _ _=>rfl))<|
 .st (fe m ck Ag ⟨_,Tryz.func175,rfl,by decide⟩ QC (fun _ _=>rfl))<|
 .st (fe m ck aai ⟨_,Tryz.func176,rfl,by decide⟩ Li (fun _=>rfl))<|
 .st (fe m ck Iq ⟨_,Tryz.func177,rfl,by decide⟩ MV (fun _=>rfl))<|
 .st (fe m ck Bt ⟨_,Tryz.func178,rfl,by decide⟩ X9 (fun _=>rfl))<|
 .st (fe m ck aj2 ⟨_,Tryz.func180,rfl,by decide⟩ Lj (fun _ _=>rfl))<|
 .st (fe m ck vL ⟨_,Tryz.func179,rfl,by decide⟩ S9 (fun _=>rfl))<|
 .st (fe m ck aj3 ⟨_,Tryz.func181,rfl,by decide⟩ QD (fun _ _ _=>rfl))<|
 .st (fe m ck aj4 ⟨_,Tryz.func182,rfl,by decide⟩ Ta (fun _ _=>rfl))<|
 .st (fe m ck yI ⟨_,Tryz.func183,rfl,by decide⟩ Ll (fun _ _=>rfl))<|
 .st (fe m ck aaj ⟨_,Tryz.func184,rfl,by decide⟩ Ji (fun _ _=>rfl))<|
 .st (fe m ck Iq ⟨_,Tryz.func185,rfl,by decide⟩ Tk (fun _=>rfl))<|
 .st (fe m ck Iq ⟨_,Tryz.func186,rfl,by decide⟩ QZ (fun _=>rfl))<|
 .st (fe m ck aj5 ⟨_,Tryz.func187,rfl,by decide⟩ Lm (fun _ _ _=>rfl))<|
 .st (fe m ck oq ⟨_,Tryz.func133,rfl,by decide⟩ QE (fun _=>rfl))<|
 .st (fe m ck aj6 ⟨_,Tryz.func134,rfl,by decide⟩ Tc (fun _ _ _=>rfl))<|
 .st (fe m ck vL ⟨_,Tryz.func135,rfl,by decide⟩ Tf (fun _=>rfl))<|
 .st (fe m ck aak ⟨_,Tryz.func197,rfl,by decide⟩ aoQ (fun _=>rfl))<|
 .st (fe m ck aak ⟨_,Tryz.func230,rfl,by decide⟩ aoP (fun _=>rfl))<|
 .st (fe m ck vL ⟨_,Tryz.func198,rfl,by decide⟩ MQ (fun _=>rfl))<|
 .st (fe m ck oq ⟨_,Tryz.func209,rfl,by decide⟩ QN (fun _=>rfl))<|
 .st (fe m ck oq ⟨_,Tryz.func210,rfl,by decide⟩ QO (fun _=>rfl))<|
 .st (fe m ck Af ⟨_,Tryz.func211,rfl,by decide⟩ Lr (fun _ _=>rfl))<|
 .st (fe m ck aai ⟨_,Tryz.func212,rfl,by decide⟩ MR (fun _=>rfl))<|
 .st (fe m ck yI ⟨_,Tryz.func141,rfl,by decide⟩ QS (fun _ _=>rfl))<|
 .st (fe m ck aaj ⟨_,Tryz.func217,rfl,by decide⟩ MS (fun _ _=>rfl))<|
 .st (fe m ck aal ⟨_,Tryz.func119,rfl,by decide⟩ Yd (fun _ _ _=>rfl))<|
 .st (fe m ck Dk ⟨_,Tryz.func218,rfl,by decide⟩ QT (fun _ _=>rfl))<|
 .st (fe m ck Dk ⟨_,Tryz.func219,rfl,by decide⟩ QV (fun _ _=>rfl))<|
 .st ⟨vL,fun _ r h=>O9 h,⟨_,Tryz.func220,rfl,by decide⟩⟩<|
 .st (fe m ck aj7 ⟨_,Tryz.func221,rfl,by decide⟩ DR (fun _=>rfl))<|
 .st (fe m ck Pm ⟨_,Tryz.func62,rfl,by decide⟩ aaQ (fun _ _=>rfl))<|
 .st (fe m ck aj8 ⟨_,Tryz.func222,rfl,by decide⟩ QX (fun _ _=>rfl))<|
 .st (fe m ck Af ⟨_,Tryz.func223,rfl,by decide⟩ Jh (fun _ _=>rfl))<|
 .st (fe m ck yI ⟨_,Tryz.func224,rfl,by decide⟩ QY (fun _ _=>rfl))<|
 .st (fe m ck aal ⟨_,Tryz.func105,rfl,by decide⟩ Yb (fun _ _ _=>rfl))<|
 .st (fe m ck Pm ⟨_,Tryz.func157,rfl,by decide⟩ Tt (fun _ _=>rfl))<|
 .st (fe m ck vL ⟨_,Tryz.func238,rfl,by decide⟩ MX (fun _=>rfl))<|
 nofun
theorem asO m(ck:CtK m){R:Type}{f:FuncId}{args:List AV}{objs:List Ob}{K:Res->Option R}{r:R}(h:ctX m f args objs K=some r):FQ f args objs K r:=by
 unfold ctX at h;rcases dG h with⟨hb,a⟩| ⟨_,h⟩;·cases beq_eq hb;exact aoW m ck a
 rcases dG h with⟨hb,a⟩| ⟨_,h⟩;·cases beq_eq hb;exact aoX m ck a
 rcases dG h with⟨hb,a⟩| ⟨_,h⟩;·cases beq_eq hb;exact aoY m ck a
 rcases dG h with⟨hb,a⟩| ⟨_,h⟩;·cases beq_eq hb;exact aoZ m ck a
 rcases dG h with⟨hb,a⟩| ⟨_,h⟩;·cases beq_eq hb;exact ao0 m ck a
 rcases dG h with⟨hb,a⟩| ⟨_,h⟩;·cases beq_eq hb;exact ao1 m ck a
 rcases dG h with⟨hb,a⟩| ⟨_,h⟩;·cases beq_eq hb;exact amx m ck a
 rcases dG h with⟨hb,a⟩| ⟨_,h⟩;·cases beq_eq hb;exact amy m ck a
 rcases dG h with⟨hb,a⟩| ⟨_,h⟩;·cases beq_eq hb;exact amz m ck a
 rcases dG h with⟨hb,a⟩| ⟨_,h⟩;·cases beq_eq hb;exact amA m ck a
 rcases dG h with⟨hb,a⟩| ⟨_,h⟩;·cases beq_eq hb;exact amB m ck a
 rcases dG h with⟨hb,a⟩| ⟨_,h⟩;·cases beq_eq hb;exact amC m ck a
 rcases dG h with⟨hb,a⟩| ⟨_,h⟩;·cases beq_eq hb;exact amD m ck a
 rcases dG h with⟨hb,a⟩| ⟨_,h⟩;·cases beq_eq hb;exact amE m ck a
 rcases dG h with⟨hb,a⟩| ⟨_,h⟩;·cases beq_eq hb;exact amF m ck a
 cases h
theorem ct_ok(m:Nat):CtH m:=Nat.strongRecOn m fun m ck R f args objs K r h=>by
 unfold ct at h;split at h
 ·rename_i e he;exact(asN m ck f e he).run h
 ·exact asO m ck h
