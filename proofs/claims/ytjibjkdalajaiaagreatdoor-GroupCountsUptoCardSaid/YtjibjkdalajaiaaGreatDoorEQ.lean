/- Generated: the functions as contracts for their callers.
Generated:each function's run in the abstract machine is its shallow function.
Generated:each function's run in the abstract machine is its shallow function.
Generated:each function's run in the abstract machine is its shallow function. -/
import Derived.Test.YtjibjkdalajaiaaGreatDoorSh
import Derived.Test.YtjibjkdalajaiaaGreatDoorA4
import Derived.Test.YtjibjkdalajaiaaGreatDoorProg
import Derived.KernelRfl
import Derived.Test.YtjibjkdalajaiaaGreatDoorAmEnv
set_option linter.all false
noncomputable section
namespace Go.Proofs.YtjibjkdalajaiaaGreatDoor
open Go.Am
def aiQ:List SA:=[.d 35 .a,.d 23 .l]
def agJ:List SA:=[]
def abS:List SA:=[.d 29 .a,.d 26 .a]
def Jw:List SA:=[.d 26 .a,.d 26 .a]
def VY:List SA:=[.d 29 .a]
def aq6:List SA:=[.d 30 .l]
def ql:List SA:=[.d 26 .a]
def aq7:List SA:=[.d 32 .a]
def aq8:List SA:=[.d 32 .a,.d 80 .a,.d 26 .a]
def aq9:List SA:=[.d 32 .a,.d 80 .a]
def zL:List SA:=[.d 3 .i,.d 3 .i]
def ad7:List SA:=[.d 9 .s,.d 9 .s]
def aiR:List SA:=[.d 29 .a,.d 3 .i,.d 3 .i]
def GJ:List SA:=[.d 22 .l]
def aiS:List SA:=[.d 22 .l,.d 22 .l]
def YI:List SA:=[.d 26 .a,.d 4 .b]
def Oc:List SA:=[.d 29 .a,.d 26 .a,.d 132 .a]
def aiT:List SA:=[.d 80 .a]
def aiU:List SA:=[.d 108 .a,.d 32 .a,.d 80 .a,.d 26 .a]
def aiV:List SA:=[.d 108 .a,.d 80 .a]
def YJ:List SA:=[.d 29 .a,.d 26 .a,.d 117 .l]
def vB:List SA:=[.d 9 .s]
def GK:List SA:=[.d 26 .a,.d 3 .i]
def zM:List SA:=[.d 3 .i]
def CS:List SA:=[.d 23 .l]
def YK:List SA:=[.d 26 .a,.d 22 .l]
def YL:List SA:=[.d 29 .a,.d 23 .l]
def aiW:List SA:=[.d 9 .s,.d 3 .i,.d 3 .i]
def Br:List SA:=[.d 3 .i,.d 23 .l]
def Od:List SA:=[.d 26 .a,.d 9 .s]
def YM:List SA:=[.d 4 .b]
def aiX:List SA:=[.d 9 .s,.d 4 .b]
def aiY:List SA:=[.d 26 .a,.d 26 .a,.d 26 .a]
def aiZ:List SA:=[.d 3 .i,.d 26 .a]
def YN:List SA:=[.d 23 .l,.d 26 .a]
def ai0:List SA:=[.d 3 .i,.d 26 .a,.d 26 .a]
def YO:List SA:=[.d 22 .l,.f 151]
def YP:List SA:=[.d 26 .a,.d 9 .s,.d 26 .a]
def ai1:List SA:=[.d 24 .l]
def ai2:List SA:=[.d 23 .l,.d 3 .i]
def Ri:SR:= .d 80 .a
def res1:SR:= .d 26 .a
def res2:SR:= .d 3 .i
def fP:SR:= .d 4 .b
def YQ:SR:= .d 23 .l
def LY:SR:= .d 46 .i
def anx:SR:= .t [(3,.i),(46,.i)]
def anz:SR:= .d 9 .s
def anA:SR:= .t [(26,.a),(4,.b)]
theorem ad8:oksA Tryz.prog aiQ:=⟨trivial,⟨_,Tryz.underlying23⟩,trivial⟩
theorem VZ:oksA Tryz.prog agJ:=trivial
theorem V3:oksA Tryz.prog abS:=⟨trivial,trivial,trivial⟩
theorem DX:oksA Tryz.prog Jw:=⟨trivial,trivial,trivial⟩
theorem M9:oksA Tryz.prog VY:=⟨trivial,trivial⟩
theorem anB:oksA Tryz.prog aq6:=⟨⟨_,Tryz.underlying30⟩,trivial⟩
theorem lK:oksA Tryz.prog ql:=⟨trivial,trivial⟩
theorem anC:oksA Tryz.prog aq7:=⟨trivial,trivial⟩
theorem anD:oksA Tryz.prog aq8:=⟨trivial,trivial,trivial,trivial⟩
theorem anE:oksA Tryz.prog aq9:=⟨trivial,trivial,trivial⟩
theorem zN:oksA Tryz.prog zL:=⟨⟨_,Tryz.underlying3⟩,⟨_,Tryz.underlying3⟩,trivial⟩
theorem YR:oksA Tryz.prog ad7:=⟨Tryz.underlying9,Tryz.underlying9,trivial⟩
theorem ai3:oksA Tryz.prog aiR:=⟨trivial,⟨_,Tryz.underlying3⟩,⟨_,Tryz.underlying3⟩,trivial⟩
theorem GN:oksA Tryz.prog GJ:=⟨⟨_,Tryz.underlying22⟩,trivial⟩
theorem ai4:oksA Tryz.prog aiS:=⟨⟨_,Tryz.underlying22⟩,⟨_,Tryz.underlying22⟩,trivial⟩
theorem YS:oksA Tryz.prog YI:=⟨trivial,Tryz.underlying4,trivial⟩
theorem Oe:oksA Tryz.prog Oc:=⟨trivial,trivial,trivial,trivial⟩
theorem ai5:oksA Tryz.prog aiT:=⟨trivial,trivial⟩
theorem ai6:oksA Tryz.prog aiU:=⟨trivial,trivial,trivial,trivial,trivial⟩
theorem ai7:oksA Tryz.prog aiV:=⟨trivial,trivial,trivial⟩
theorem YT:oksA Tryz.prog YJ:=⟨trivial,trivial,⟨_,Tryz.underlying117⟩,trivial⟩
theorem uS:oksA Tryz.prog vB:=⟨Tryz.underlying9,trivial⟩
theorem GQ:oksA Tryz.prog GK:=⟨trivial,⟨_,Tryz.underlying3⟩,trivial⟩
theorem zO:oksA Tryz.prog zM:=⟨⟨_,Tryz.underlying3⟩,trivial⟩
theorem CU:oksA Tryz.prog CS:=⟨⟨_,Tryz.underlying23⟩,trivial⟩
theorem YU:oksA Tryz.prog YK:=⟨trivial,⟨_,Tryz.underlying22⟩,trivial⟩
theorem YV:oksA Tryz.prog YL:=⟨trivial,⟨_,Tryz.underlying23⟩,trivial⟩
theorem ai8:oksA Tryz.prog aiW:=⟨Tryz.underlying9,⟨_,Tryz.underlying3⟩,⟨_,Tryz.underlying3⟩,trivial⟩
theorem zP:oksA Tryz.prog Br:=⟨⟨_,Tryz.underlying3⟩,⟨_,Tryz.underlying23⟩,trivial⟩
theorem Og:oksA Tryz.prog Od:=⟨trivial,Tryz.underlying9,trivial⟩
theorem YW:oksA Tryz.prog YM:=⟨Tryz.underlying4,trivial⟩
theorem ai9:oksA Tryz.prog aiX:=⟨Tryz.underlying9,Tryz.underlying4,trivial⟩
theorem aja:oksA Tryz.prog aiY:=⟨trivial,trivial,trivial,trivial⟩
theorem ajb:oksA Tryz.prog aiZ:=⟨⟨_,Tryz.underlying3⟩,trivial,trivial⟩
theorem YX:oksA Tryz.prog YN:=⟨⟨_,Tryz.underlying23⟩,trivial,trivial⟩
theorem ajc:oksA Tryz.prog ai0:=⟨⟨_,Tryz.underlying3⟩,trivial,trivial,trivial⟩
theorem YZ:oksA Tryz.prog YO:=⟨⟨_,Tryz.underlying22⟩,trivial⟩
theorem Y0:oksA Tryz.prog YP:=⟨trivial,Tryz.underlying9,trivial,trivial⟩
theorem ajd:oksA Tryz.prog ai1:=⟨⟨_,Tryz.underlying24⟩,trivial⟩
theorem aje:oksA Tryz.prog ai2:=⟨⟨_,Tryz.underlying23⟩,⟨_,Tryz.underlying3⟩,trivial⟩
theorem Na:Ri.ok Tryz.prog:=trivial
theorem cZ:res1.ok Tryz.prog:=trivial
theorem iV:res2.ok Tryz.prog:=⟨_,Tryz.underlying3⟩
theorem dZ:fP.ok Tryz.prog:=Tryz.underlying4
theorem V4:YQ.ok Tryz.prog:=⟨_,Tryz.underlying23⟩
theorem GR:LY.ok Tryz.prog:=⟨_,Tryz.underlying46⟩
theorem anF:anx.ok Tryz.prog:=⟨⟨_,Tryz.underlying3⟩,⟨_,Tryz.underlying46⟩,trivial⟩
theorem anG:anz.ok Tryz.prog:=Tryz.underlying9
theorem anH:anA.ok Tryz.prog:=⟨trivial,Tryz.underlying4,trivial⟩
def d22:Res->Option (Dt):=SR.g Ri
def d25:Res->Option (Dt):=SR.g res1
def d28:Res->Option (Int):=SR.g res2
def d32:Res->Option (Bool):=SR.g fP
def d58:Res->Option (List Dt):=SR.g YQ
def d13:Res->Option (Int):=SR.g LY
def d30:Res->Option (Int×Int):=SR.g anx
def d97:Res->Option (ByteArray):=SR.g anz
def d89:Res->Option (Dt×Bool):=SR.g anA
def LZ(args:List AV)(objs:List Ob):Option (Dt×List Dt):=match args,objs with
 | [.dat T0 a,.dat T1 b],[]=>bif (Nat.beq T0 35&&Nat.beq T1 23)then some (a,b.toLst)else none
 |_,_=>none
theorem DY{args:List AV}{objs:List Ob}{l:Dt×List Dt}(h:LZ args objs=some l):CnA Tryz.prog args [.dat 35 l.1,.dat 23 (.lst l.2)]∧CnOL Tryz.prog objs []:=by
 unfold LZ at h;split at h
 ·obtain⟨hc,a⟩:=aJ h;cases a;have e0:=beq_eq (aG hc);have hc:=aB hc;have e1:=beq_eq hc;subst e0 e1;exact⟨(.cons (.of .same rfl rfl) (.cons (.of (.dat (.lst Tryz.underlying23)) rfl rfl) .nil)),.nil⟩
 ·cases h
def ad9(args:List AV)(objs:List Ob):Option (List Dt×Dt):=match args,objs with
 | [.dat T0 a,.fn T1 [.ptr n2 p2 o2]],[.box T3 (.dat T4 b)]=>bif (Nat.beq T0 33&&(Nat.beq T1 13&&(Nat.beq n2 0&&(natsB p2 []&&(Nat.beq o2 0&&(Nat.beq T3 32&&Nat.beq T4 32))))))then some (a.toLst,b)else none
 |_,_=>none
theorem Y1{args:List AV}{objs:List Ob}{l:List Dt×Dt}(h:ad9 args objs=some l):CnA Tryz.prog args [.dat 33 (.lst l.1),(.fn 13 [.ptr 0 [] 0])]∧CnOL Tryz.prog objs [.box 32 (.dat 32 l.2)]:=by
 unfold ad9 at h;split at h
 ·obtain⟨hc,a⟩:=aJ h;cases a;have e0:=beq_eq (aG hc);have hc:=aB hc;have e1:=beq_eq (aG hc);have hc:=aB hc;have e2:=beq_eq (aG hc);have hc:=aB hc;have e3:=gQ (aG hc);have hc:=aB hc;have e4:=beq_eq (aG hc);have hc:=aB hc;have e5:=beq_eq (aG hc);have hc:=aB hc;have e6:=beq_eq hc;subst e0 e1 e2 e3 e4 e5 e6;exact⟨(.cons (.of (.dat (.lst Tryz.underlying33)) rfl rfl) (.cons (.of (.fn (.cons .same .nil)) rfl rfl) .nil)),(.cons (.box .same) .nil)⟩
 ·cases h
def ajf(args:List AV)(objs:List Ob):Option (Dt×Dt):=match args,objs with
 | [.dat T0 a,.ptr n1 p1 o1],[.box T2 (.dat T3 b)]=>bif (Nat.beq T0 32&&(Nat.beq n1 0&&(natsB p1 []&&(Nat.beq o1 0&&(Nat.beq T2 32&&Nat.beq T3 32)))))then some (a,b)else none
 |_,_=>none
theorem ajg{args:List AV}{objs:List Ob}{l:Dt×Dt}(h:ajf args objs=some l):CnA Tryz.prog args [.dat 32 l.1,.ptr 0 [] 0]∧CnOL Tryz.prog objs [.box 32 (.dat 32 l.2)]:=by
 unfold ajf at h;split at h
 ·obtain⟨hc,a⟩:=aJ h;cases a;have e0:=beq_eq (aG hc);have hc:=aB hc;have e1:=beq_eq (aG hc);have hc:=aB hc;have e2:=gQ (aG hc);have hc:=aB hc;have e3:=beq_eq (aG hc);have hc:=aB hc;have e4:=beq_eq (aG hc);have hc:=aB hc;have e5:=beq_eq hc;subst e0 e1 e2 e3 e4 e5;exact⟨(.cons (.of .same rfl rfl) (.cons (.of .same rfl rfl) .nil)),(.cons (.box .same) .nil)⟩
 ·cases h
def ajh(args:List AV)(objs:List Ob):Option Dt:=match args,objs with
 | [.dat T0 a],[]=>bif Nat.beq T0 26 then some a else none
 |_,_=>none
theorem aji{args:List AV}{objs:List Ob}{l:Dt}(h:ajh args objs=some l):CnA Tryz.prog args [.dat 26 l]∧CnOL Tryz.prog objs []:=by
 unfold ajh at h;split at h
 ·obtain⟨hc,a⟩:=aJ h;cases a;have e0:=beq_eq hc;subst e0;exact⟨(.cons (.of .same rfl rfl) .nil),.nil⟩
 ·cases h
def ajj(args:List AV)(objs:List Ob):Option (Dt×Dt×List Dt×List Dt×List Dt×List Dt):=match args,objs with
 | [.ptr n0 p0 o0,.dat T1 c,.dat T2 d],[.box T3 (.agg T4 [.row n5,.row n6,.row n7]),.row T8 e,.rowD T9 S9 none n9 f none,.tok T10 a,.row T11 b]=>bif (Nat.beq n0 0&&(natsB p0 []&&(Nat.beq o0 0&&(Nat.beq T1 35&&(Nat.beq T2 26&&(Nat.beq T3 76&&(Nat.beq T4 76&&(Nat.beq n5 1&&(Nat.beq n6 2&&(Nat.beq n7 4&&(Nat.beq T8 23&&(Nat.beq T9 73&&(Nat.beq S9 78&&(Nat.beq n9 3&&(Nat.beq T10 78&&Nat.beq T11 74)))))))))))))))then some (c,d,e,f,a,b)else none
 |_,_=>none
theorem ajk{args:List AV}{objs:List Ob}{l:Dt×Dt×List Dt×List Dt×List Dt×List Dt}(h:ajj args objs=some l):CnA Tryz.prog args [.ptr 0 [] 0,.dat 35 l.1,.dat 26 l.2.1]∧CnOL Tryz.prog objs [.box 76 (.agg 76 [.row 1,.row 2,.row 4]),.row 23 l.2.2.1,(.rowD 73 78 none 3 l.2.2.2.1 none),(.tok 78 l.2.2.2.2.1),.row 74 l.2.2.2.2.2]:=by
 unfold ajj at h;split at h
 ·obtain⟨hc,a⟩:=aJ h;cases a;have e0:=beq_eq (aG hc);have hc:=aB hc;have e1:=gQ (aG hc);have hc:=aB hc;have e2:=beq_eq (aG hc);have hc:=aB hc;have e3:=beq_eq (aG hc);have hc:=aB hc;have e4:=beq_eq (aG hc);have hc:=aB hc;have e5:=beq_eq (aG hc);have hc:=aB hc;have e6:=beq_eq (aG hc);have hc:=aB hc;have e7:=beq_eq (aG hc);have hc:=aB hc;have e8:=beq_eq (aG hc);have hc:=aB hc;have e9:=beq_eq (aG hc);have hc:=aB hc;have e10:=beq_eq (aG hc);have hc:=aB hc;have e11:=beq_eq (aG hc);have hc:=aB hc;have e12:=beq_eq (aG hc);have hc:=aB hc;have e13:=beq_eq (aG hc);have hc:=aB hc;have e14:=beq_eq (aG hc);have hc:=aB hc;have e15:=beq_eq hc;subst e0 e1 e2 e3 e4 e5 e6 e7 e8 e9 e10 e11 e12 e13 e14 e15;exact⟨(.cons (.of .same rfl rfl) (.cons (.of .same rfl rfl) (.cons (.of .same rfl rfl) .nil))),(.cons (.box (.agg (.cons .same (.cons .same (.cons .same .nil))))) (.cons .same (.cons .same (.cons .same (.cons .same .nil)))))⟩
 ·cases h
def ajl(args:List AV)(objs:List Ob):Option (Dt×List Dt×List Dt×List Dt×List Dt):=match args,objs with
 | [.row n0,.dat T1 d,.fn T2 [.ptr n3 p3 o3]],[.row T4 e,.box T5 (.ptr n6 p6 o6),.box T7 (.agg T8 [.row n9,.row n10,.row n11]),.row T12 a,.rowD T13 S13 none n13 b none,.tok T14 c]=>bif (Nat.beq n0 0&&(Nat.beq T1 26&&(Nat.beq T2 59&&(Nat.beq n3 1&&(natsB p3 []&&(Nat.beq o3 0&&(Nat.beq T4 74&&(Nat.beq T5 56&&(Nat.beq n6 2&&(natsB p6 []&&(Nat.beq o6 0&&(Nat.beq T7 76&&(Nat.beq T8 76&&(Nat.beq n9 3&&(Nat.beq n10 4&&(Nat.beq n11 0&&(Nat.beq T12 23&&(Nat.beq T13 73&&(Nat.beq S13 78&&(Nat.beq n13 5&&Nat.beq T14 78))))))))))))))))))))then some (d,e,a,b,c)else none
 |_,_=>none
theorem ajm{args:List AV}{objs:List Ob}{l:Dt×List Dt×List Dt×List Dt×List Dt}(h:ajl args objs=some l):CnA Tryz.prog args [.row 0,.dat 26 l.1,(.fn 59 [.ptr 1 [] 0])]∧CnOL Tryz.prog objs [.row 74 l.2.1,.box 56 (.ptr 2 [] 0),.box 76 (.agg 76 [.row 3,.row 4,.row 0]),.row 23 l.2.2.1,(.rowD 73 78 none 5 l.2.2.2.1 none),(.tok 78 l.2.2.2.2)]:=by
 unfold ajl at h;split at h
 ·obtain⟨hc,a⟩:=aJ h;cases a;have e0:=beq_eq (aG hc);have hc:=aB hc;have e1:=beq_eq (aG hc);have hc:=aB hc;have e2:=beq_eq (aG hc);have hc:=aB hc;have e3:=beq_eq (aG hc);have hc:=aB hc;have e4:=gQ (aG hc);have hc:=aB hc;have e5:=beq_eq (aG hc);have hc:=aB hc;have e6:=beq_eq (aG hc);have hc:=aB hc;have e7:=beq_eq (aG hc);have hc:=aB hc;have e8:=beq_eq (aG hc);have hc:=aB hc;have e9:=gQ (aG hc);have hc:=aB hc;have e10:=beq_eq (aG hc);have hc:=aB hc;have e11:=beq_eq (aG hc);have hc:=aB hc;have e12:=beq_eq (aG hc);have hc:=aB hc;have e13:=beq_eq (aG hc);have hc:=aB hc;have e14:=beq_eq (aG hc);have hc:=aB hc;have e15:=beq_eq (aG hc);have hc:=aB hc;have e16:=beq_eq (aG hc);have hc:=aB hc;have e17:=beq_eq (aG hc);have hc:=aB hc;have e18:=beq_eq (aG hc);have hc:=aB hc;have e19:=beq_eq (aG hc);have hc:=aB hc;have e20:=beq_eq hc;subst e0 e1 e2 e3 e4 e5 e6 e7 e8 e9 e10 e11 e12 e13 e14 e15 e16 e17 e18 e19 e20;exact⟨(.cons (.of .same rfl rfl) (.cons (.of .same rfl rfl) (.cons (.of (.fn (.cons .same .nil)) rfl rfl) .nil))),(.cons .same (.cons (.box .same) (.cons (.box (.agg (.cons .same (.cons .same (.cons .same .nil))))) (.cons .same (.cons .same (.cons .same .nil))))))⟩
 ·cases h
def ajn(args:List AV)(objs:List Ob):Option (Int×Dt×List Dt×List Dt×List Dt×List Dt):=match args,objs with
 | [.dat T0 e,.dat T1 f,.ptr n2 p2 o2],[.box T3 (.ptr n4 p4 o4),.box T5 (.agg T6 [.row n7,.row n8,.row n9]),.row T10 a,.rowD T11 S11 none n11 b none,.tok T12 c,.row T13 d]=>bif (Nat.beq T0 3&&(Nat.beq T1 26&&(Nat.beq n2 0&&(natsB p2 []&&(Nat.beq o2 0&&(Nat.beq T3 56&&(Nat.beq n4 1&&(natsB p4 []&&(Nat.beq o4 0&&(Nat.beq T5 76&&(Nat.beq T6 76&&(Nat.beq n7 2&&(Nat.beq n8 3&&(Nat.beq n9 5&&(Nat.beq T10 23&&(Nat.beq T11 73&&(Nat.beq S11 78&&(Nat.beq n11 4&&(Nat.beq T12 78&&Nat.beq T13 74)))))))))))))))))))then some (e.toInt,f,a,b,c,d)else none
 |_,_=>none
theorem ajo{args:List AV}{objs:List Ob}{l:Int×Dt×List Dt×List Dt×List Dt×List Dt}(h:ajn args objs=some l):CnA Tryz.prog args [.dat 3 (.int l.1),.dat 26 l.2.1,.ptr 0 [] 0]∧CnOL Tryz.prog objs [.box 56 (.ptr 1 [] 0),.box 76 (.agg 76 [.row 2,.row 3,.row 5]),.row 23 l.2.2.1,(.rowD 73 78 none 4 l.2.2.2.1 none),(.tok 78 l.2.2.2.2.1),.row 74 l.2.2.2.2.2]:=by
 unfold ajn at h;split at h
 ·obtain⟨hc,a⟩:=aJ h;cases a;have e0:=beq_eq (aG hc);have hc:=aB hc;have e1:=beq_eq (aG hc);have hc:=aB hc;have e2:=beq_eq (aG hc);have hc:=aB hc;have e3:=gQ (aG hc);have hc:=aB hc;have e4:=beq_eq (aG hc);have hc:=aB hc;have e5:=beq_eq (aG hc);have hc:=aB hc;have e6:=beq_eq (aG hc);have hc:=aB hc;have e7:=gQ (aG hc);have hc:=aB hc;have e8:=beq_eq (aG hc);have hc:=aB hc;have e9:=beq_eq (aG hc);have hc:=aB hc;have e10:=beq_eq (aG hc);have hc:=aB hc;have e11:=beq_eq (aG hc);have hc:=aB hc;have e12:=beq_eq (aG hc);have hc:=aB hc;have e13:=beq_eq (aG hc);have hc:=aB hc;have e14:=beq_eq (aG hc);have hc:=aB hc;have e15:=beq_eq (aG hc);have hc:=aB hc;have e16:=beq_eq (aG hc);have hc:=aB hc;have e17:=beq_eq (aG hc);have hc:=aB hc;have e18:=beq_eq (aG hc);have hc:=aB hc;have e19:=beq_eq hc;subst e0 e1 e2 e3 e4 e5 e6 e7 e8 e9 e10 e11 e12 e13 e14 e15 e16 e17 e18 e19;exact⟨(.cons (.of (.dat (.int Tryz.underlying3)) rfl rfl) (.cons (.of .same rfl rfl) (.cons (.of .same rfl rfl) .nil))),(.cons (.box .same) (.cons (.box (.agg (.cons .same (.cons .same (.cons .same .nil))))) (.cons .same (.cons .same (.cons .same (.cons .same .nil))))))⟩
 ·cases h
def ajp(args:List AV)(objs:List Ob):Option (Int×List Dt×List Dt):=match args,objs with
 | [.row n0,.dat T1 a,.row n2],[.row T3 b,.row T4 c]=>bif (Nat.beq n0 0&&(Nat.beq T1 3&&(Nat.beq n2 1&&(Nat.beq T3 74&&Nat.beq T4 74))))then some (a.toInt,b,c)else none
 |_,_=>none
theorem ajq{args:List AV}{objs:List Ob}{l:Int×List Dt×List Dt}(h:ajp args objs=some l):CnA Tryz.prog args [.row 0,.dat 3 (.int l.1),.row 1]∧CnOL Tryz.prog objs [.row 74 l.2.1,.row 74 l.2.2]:=by
 unfold ajp at h;split at h
 ·obtain⟨hc,a⟩:=aJ h;cases a;have e0:=beq_eq (aG hc);have hc:=aB hc;have e1:=beq_eq (aG hc);have hc:=aB hc;have e2:=beq_eq (aG hc);have hc:=aB hc;have e3:=beq_eq (aG hc);have hc:=aB hc;have e4:=beq_eq hc;subst e0 e1 e2 e3 e4;exact⟨(.cons (.of .same rfl rfl) (.cons (.of (.dat (.int Tryz.underlying3)) rfl rfl) (.cons (.of .same rfl rfl) .nil))),(.cons .same (.cons .same .nil))⟩
 ·cases h
def ajr(args:List AV)(objs:List Ob):Option (Dt×List Dt×List Dt×List Dt×List Dt):=match args,objs with
 | [.ptr n0 p0 o0,.dat T1 c,.fn T2 []],[.box T3 (.agg T4 [.row n5,.row n6,.row n7]),.row T8 d,.rowD T9 S9 none n9 e none,.tok T10 a,.row T11 b]=>bif (Nat.beq n0 0&&(natsB p0 []&&(Nat.beq o0 0&&(Nat.beq T1 35&&(Nat.beq T2 23&&(Nat.beq T3 76&&(Nat.beq T4 76&&(Nat.beq n5 1&&(Nat.beq n6 2&&(Nat.beq n7 4&&(Nat.beq T8 23&&(Nat.beq T9 73&&(Nat.beq S9 78&&(Nat.beq n9 3&&(Nat.beq T10 78&&Nat.beq T11 74)))))))))))))))then some (c,d,e,a,b)else none
 |_,_=>none
theorem ajs{args:List AV}{objs:List Ob}{l:Dt×List Dt×List Dt×List Dt×List Dt}(h:ajr args objs=some l):CnA Tryz.prog args [.ptr 0 [] 0,.dat 35 l.1,.fn 23 []]∧CnOL Tryz.prog objs [.box 76 (.agg 76 [.row 1,.row 2,.row 4]),.row 23 l.2.1,(.rowD 73 78 none 3 l.2.2.1 none),(.tok 78 l.2.2.2.1),.row 74 l.2.2.2.2]:=by
 unfold ajr at h;split at h
 ·obtain⟨hc,a⟩:=aJ h;cases a;have e0:=beq_eq (aG hc);have hc:=aB hc;have e1:=gQ (aG hc);have hc:=aB hc;have e2:=beq_eq (aG hc);have hc:=aB hc;have e3:=beq_eq (aG hc);have hc:=aB hc;have e4:=beq_eq (aG hc);have hc:=aB hc;have e5:=beq_eq (aG hc);have hc:=aB hc;have e6:=beq_eq (aG hc);have hc:=aB hc;have e7:=beq_eq (aG hc);have hc:=aB hc;have e8:=beq_eq (aG hc);have hc:=aB hc;have e9:=beq_eq (aG hc);have hc:=aB hc;have e10:=beq_eq (aG hc);have hc:=aB hc;have e11:=beq_eq (aG hc);have hc:=aB hc;have e12:=beq_eq (aG hc);have hc:=aB hc;have e13:=beq_eq (aG hc);have hc:=aB hc;have e14:=beq_eq (aG hc);have hc:=aB hc;have e15:=beq_eq hc;subst e0 e1 e2 e3 e4 e5 e6 e7 e8 e9 e10 e11 e12 e13 e14 e15;exact⟨(.cons (.of .same rfl rfl) (.cons (.of .same rfl rfl) (.cons (.of (.fn .nil) rfl rfl) .nil))),(.cons (.box (.agg (.cons .same (.cons .same (.cons .same .nil))))) (.cons .same (.cons .same (.cons .same (.cons .same .nil)))))⟩
 ·cases h
def ajt(args:List AV)(objs:List Ob):Option (Dt×Int×Int):=match args,objs with
 | [.dat T0 a,.dat T1 b,.ptr n2 p2 o2],[.box T3 (.dat T4 c)]=>bif (Nat.beq T0 29&&(Nat.beq T1 3&&(Nat.beq n2 0&&(natsB p2 []&&(Nat.beq o2 0&&(Nat.beq T3 3&&Nat.beq T4 3))))))then some (a,b.toInt,c.toInt)else none
 |_,_=>none
theorem aju{args:List AV}{objs:List Ob}{l:Dt×Int×Int}(h:ajt args objs=some l):CnA Tryz.prog args [.dat 29 l.1,.dat 3 (.int l.2.1),.ptr 0 [] 0]∧CnOL Tryz.prog objs [.box 3 (.dat 3 (.int l.2.2))]:=by
 unfold ajt at h;split at h
 ·obtain⟨hc,a⟩:=aJ h;cases a;have e0:=beq_eq (aG hc);have hc:=aB hc;have e1:=beq_eq (aG hc);have hc:=aB hc;have e2:=beq_eq (aG hc);have hc:=aB hc;have e3:=gQ (aG hc);have hc:=aB hc;have e4:=beq_eq (aG hc);have hc:=aB hc;have e5:=beq_eq (aG hc);have hc:=aB hc;have e6:=beq_eq hc;subst e0 e1 e2 e3 e4 e5 e6;exact⟨(.cons (.of .same rfl rfl) (.cons (.of (.dat (.int Tryz.underlying3)) rfl rfl) (.cons (.of .same rfl rfl) .nil))),(.cons (.box (.dat (.int Tryz.underlying3))) .nil)⟩
 ·cases h
def abT(args:List AV)(objs:List Ob):Option (Dt×Int×Int):=match args,objs with
 | [.dat T0 a,.fn T1 [.ptr n2 p2 o2,.ptr n3 p3 o3]],[.box T4 (.dat T5 b),.box T6 (.dat T7 c)]=>bif (Nat.beq T0 26&&(Nat.beq T1 156&&(Nat.beq n2 0&&(natsB p2 []&&(Nat.beq o2 0&&(Nat.beq n3 1&&(natsB p3 []&&(Nat.beq o3 0&&(Nat.beq T4 3&&(Nat.beq T5 3&&(Nat.beq T6 3&&Nat.beq T7 3)))))))))))then some (a,b.toInt,c.toInt)else none
 |_,_=>none
theorem agK{args:List AV}{objs:List Ob}{l:Dt×Int×Int}(h:abT args objs=some l):CnA Tryz.prog args [.dat 26 l.1,(.fn 156 [.ptr 0 [] 0,.ptr 1 [] 0])]∧CnOL Tryz.prog objs [.box 3 (.dat 3 (.int l.2.1)),.box 3 (.dat 3 (.int l.2.2))]:=by
 unfold abT at h;split at h
 ·obtain⟨hc,a⟩:=aJ h;cases a;have e0:=beq_eq (aG hc);have hc:=aB hc;have e1:=beq_eq (aG hc);have hc:=aB hc;have e2:=beq_eq (aG hc);have hc:=aB hc;have e3:=gQ (aG hc);have hc:=aB hc;have e4:=beq_eq (aG hc);have hc:=aB hc;have e5:=beq_eq (aG hc);have hc:=aB hc;have e6:=gQ (aG hc);have hc:=aB hc;have e7:=beq_eq (aG hc);have hc:=aB hc;have e8:=beq_eq (aG hc);have hc:=aB hc;have e9:=beq_eq (aG hc);have hc:=aB hc;have e10:=beq_eq (aG hc);have hc:=aB hc;have e11:=beq_eq hc;subst e0 e1 e2 e3 e4 e5 e6 e7 e8 e9 e10 e11;exact⟨(.cons (.of .same rfl rfl) (.cons (.of (.fn (.cons .same (.cons .same .nil))) rfl rfl) .nil)),(.cons (.box (.dat (.int Tryz.underlying3))) (.cons (.box (.dat (.int Tryz.underlying3))) .nil))⟩
 ·cases h
def V6(args:List AV)(objs:List Ob):Option (Dt×Int×Int):=match args,objs with
 | [.dat T0 a,.ptr n1 p1 o1,.ptr n2 p2 o2],[.box T3 (.dat T4 b),.box T5 (.dat T6 c)]=>bif (Nat.beq T0 26&&(Nat.beq n1 0&&(natsB p1 []&&(Nat.beq o1 0&&(Nat.beq n2 1&&(natsB p2 []&&(Nat.beq o2 0&&(Nat.beq T3 3&&(Nat.beq T4 3&&(Nat.beq T5 3&&Nat.beq T6 3))))))))))then some (a,b.toInt,c.toInt)else none
 |_,_=>none
theorem TF{args:List AV}{objs:List Ob}{l:Dt×Int×Int}(h:V6 args objs=some l):CnA Tryz.prog args [.dat 26 l.1,.ptr 0 [] 0,.ptr 1 [] 0]∧CnOL Tryz.prog objs [.box 3 (.dat 3 (.int l.2.1)),.box 3 (.dat 3 (.int l.2.2))]:=by
 unfold V6 at h;split at h
 ·obtain⟨hc,a⟩:=aJ h;cases a;have e0:=beq_eq (aG hc);have hc:=aB hc;have e1:=beq_eq (aG hc);have hc:=aB hc;have e2:=gQ (aG hc);have hc:=aB hc;have e3:=beq_eq (aG hc);have hc:=aB hc;have e4:=beq_eq (aG hc);have hc:=aB hc;have e5:=gQ (aG hc);have hc:=aB hc;have e6:=beq_eq (aG hc);have hc:=aB hc;have e7:=beq_eq (aG hc);have hc:=aB hc;have e8:=beq_eq (aG hc);have hc:=aB hc;have e9:=beq_eq (aG hc);have hc:=aB hc;have e10:=beq_eq hc;subst e0 e1 e2 e3 e4 e5 e6 e7 e8 e9 e10;exact⟨(.cons (.of .same rfl rfl) (.cons (.of .same rfl rfl) (.cons (.of .same rfl rfl) .nil))),(.cons (.box (.dat (.int Tryz.underlying3))) (.cons (.box (.dat (.int Tryz.underlying3))) .nil))⟩
 ·cases h
def abU(args:List AV)(objs:List Ob):Option (Dt×Int×Int):=match args,objs with
 | [.dat T0 a,.fn T1 [.ptr n2 p2 o2,.ptr n3 p3 o3]],[.box T4 (.dat T5 b),.box T6 (.dat T7 c)]=>bif (Nat.beq T0 26&&(Nat.beq T1 157&&(Nat.beq n2 0&&(natsB p2 []&&(Nat.beq o2 0&&(Nat.beq n3 1&&(natsB p3 []&&(Nat.beq o3 0&&(Nat.beq T4 3&&(Nat.beq T5 3&&(Nat.beq T6 3&&Nat.beq T7 3)))))))))))then some (a,b.toInt,c.toInt)else none
 |_,_=>none
theorem agL{args:List AV}{objs:List Ob}{l:Dt×Int×Int}(h:abU args objs=some l):CnA Tryz.prog args [.dat 26 l.1,(.fn 157 [.ptr 0 [] 0,.ptr 1 [] 0])]∧CnOL Tryz.prog objs [.box 3 (.dat 3 (.int l.2.1)),.box 3 (.dat 3 (.int l.2.2))]:=by
 unfold abU at h;split at h
 ·obtain⟨hc,a⟩:=aJ h;cases a;have e0:=beq_eq (aG hc);have hc:=aB hc;have e1:=beq_eq (aG hc);have hc:=aB hc;have e2:=beq_eq (aG hc);have hc:=aB hc;have e3:=gQ (aG hc);have hc:=aB hc;have e4:=beq_eq (aG hc);have hc:=aB hc;have e5:=beq_eq (aG hc);have hc:=aB hc;have e6:=gQ (aG hc);have hc:=aB hc;have e7:=beq_eq (aG hc);have hc:=aB hc;have e8:=beq_eq (aG hc);have hc:=aB hc;have e9:=beq_eq (aG hc);have hc:=aB hc;have e10:=beq_eq (aG hc);have hc:=aB hc;have e11:=beq_eq hc;subst e0 e1 e2 e3 e4 e5 e6 e7 e8 e9 e10 e11;exact⟨(.cons (.of .same rfl rfl) (.cons (.of (.fn (.cons .same (.cons .same .nil))) rfl rfl) .nil)),(.cons (.box (.dat (.int Tryz.underlying3))) (.cons (.box (.dat (.int Tryz.underlying3))) .nil))⟩
 ·cases h
def atY{R:Type}(m:Nat)(args:List AV)(objs:List Ob)(K:Res->Option R):Option R:=VU args objs K
section
variable{R:Type}(m:Nat)(args:List AV)(objs:List Ob)(K:Res->Option R)
def ara:Option R:=match ad9 args objs with
 |some l=>(i10 m l.1 l.2).bind fun r=>K ((.dat 4 (.bool r.1)),[.box 32 (.dat 32 r.2)])
 |none=>none
def arb:Option R:=match ad9 args objs with
 |some l=>(i11 m l.1 l.2).bind fun r=>K ((.dat 3 (.int r.1)),[.box 32 (.dat 32 r.2)])
 |none=>none
def ard:Option R:=match ajf args objs with
 |some l=>(i12 m l.1 l.2).bind fun r=>K ((.dat 4 (.bool r.1)),[.box 32 (.dat 32 r.2)])
 |none=>none
def arf:Option R:=match LZ args objs with
 |some l=>(i15 m l.1 l.2).bind fun r=>K ((.ptr 0 [] 0),[.box 76 (.agg 76 [.row 1,.row 2,.row 4]),.row 23 r.1,(.rowD 73 78 none 3 r.2.1 none),(.tok 78 r.2.2.1),.row 74 r.2.2.2])
 |none=>none
def arh:Option R:=match ajj args objs with
 |some l=>(i17 m l.1 l.2.1 l.2.2.1 l.2.2.2.1 l.2.2.2.2.1 l.2.2.2.2.2).bind fun r=>K ((.dat 3 (.int r.1)),[.box 76 (.agg 76 [.row 5,.row 6,.row 8]),.gone,.gone,.gone,.gone,.row 23 r.2.1,(.rowD 73 78 none 7 r.2.2.1 none),(.tok 78 r.2.2.2.1),.row 74 r.2.2.2.2])
 |none=>none
def ari:Option R:=match ajl args objs with
 |some l=>(i18 m l.1 l.2.1 l.2.2.1 l.2.2.2.1 l.2.2.2.2).bind fun r=>K ((.tup [.dat 3 (.int r.1),.dat 4 (.bool r.2.1)]),[.row 74 r.2.2.1,.box 56 (.ptr 2 [] 0),.box 76 (.agg 76 [.row 3,.row 4,.row 0]),.row 23 r.2.2.2.1,(.rowD 73 78 none 5 r.2.2.2.2.1 none),(.tok 78 r.2.2.2.2.2)])
 |none=>none
def arj:Option R:=match ajn args objs with
 |some l=>(i19 m l.1 l.2.1 l.2.2.1 l.2.2.2.1 l.2.2.2.2.1 l.2.2.2.2.2).bind fun r=>K ((.dat 3 (.int r.1)),[.box 56 (.ptr 1 [] 0),.box 76 (.agg 76 [.row 2,.row 3,.row 5]),.row 23 r.2.1,(.rowD 73 78 none 4 r.2.2.1 none),(.tok 78 r.2.2.2.1),.row 74 r.2.2.2.2])
 |none=>none
def ark{R:Type}(m:Nat)(args:List AV)(objs:List Ob)(K:Res->Option R):Option R:=match ajp args objs with
 |some l=>(lu l.1 l.2.1 l.2.2).bind fun r=>K ((.row 2),[.gone,.gone,.row 74 r])
 |none=>none
def arl:Option R:=match ajr args objs with
 |some l=>(i24 m l.1 l.2.1 l.2.2.1 l.2.2.2.1 l.2.2.2.2).bind fun r=>K ((.dat 23 (.lst r.1)),[.box 76 (.agg 76 [.row 5,.row 6,.row 8]),.gone,.gone,.gone,.gone,.row 23 r.2.1,(.rowD 73 78 none 7 r.2.2.1 none),(.tok 78 r.2.2.2.1),.row 74 r.2.2.2.2])
 |none=>none
def arn:Option R:=match ajt args objs with
 |some l=>(i52 m l.1 l.2.1 l.2.2).bind fun r=>K ((.dat 46 (.int r.1)),[.box 3 (.dat 3 (.int r.2))])
 |none=>none
def ajv:Option R:=match ajh args objs with
 |some l=>(dw m l).bind fun r=>K ((.agg 26 [.dat 3 (.int r.1),.dat 3 (.int r.2.1),.dat 9 (.str r.2.2.1),.row 0,.row 1]),[.row 23 r.2.2.2.1,.row 24 r.2.2.2.2])
 |none=>none
def ajw:Option R:=match abT args objs with
 |some l=>(i127 m l.1 l.2.1 l.2.2).bind fun r=>K ((.tup []),[.box 3 (.dat 3 (.int r.1)),.box 3 (.dat 3 (.int r.2))])
 |none=>match abU args objs with
 |some l=>(agI m l.1 l.2.1 l.2.2).bind fun r=>K ((.tup []),[.box 3 (.dat 3 (.int r.1)),.box 3 (.dat 3 (.int r.2))])
 |none=>none
def ajx:Option R:=match V6 args objs with
 |some l=>(Fe m l.1 l.2.1 l.2.2).bind fun r=>K ((.dat 4 (.bool r.1)),[.box 3 (.dat 3 (.int r.2.1)),.box 3 (.dat 3 (.int r.2.2))])
 |none=>none
def ajy:Option R:=match V6 args objs with
 |some l=>(i130 m l.1 l.2.1 l.2.2).bind fun r=>K ((.dat 4 (.bool r.1)),[.box 3 (.dat 3 (.int r.2.1)),.box 3 (.dat 3 (.int r.2.2))])
 |none=>none
end
def d12(q:Res):Option (Bool×Dt):=match q with
 |(.dat T0 a,[.box T1 (.dat T2 b)])=>bif (Nat.beq T0 4&&(Nat.beq T1 32&&Nat.beq T2 32))then some (a.toBool,b)else none
 |_=>none
theorem aea{b:Res}{r:Bool×Dt}(h:d12 b=some r):Sim Tryz.prog b ((.dat 4 (.bool r.1)),[.box 32 (.dat 32 r.2)]):=by
 unfold d12 at h;split at h
 ·obtain⟨hc,a⟩:=aJ h;cases a;have e0:=beq_eq (aG hc);have hc:=aB hc;have e1:=beq_eq (aG hc);have hc:=aB hc;have e2:=beq_eq hc;subst e0 e1 e2;exact Sim.of (.of (.dat (.bool Tryz.underlying4)) rfl rfl) (.cons (.box .same) .nil)
 ·cases h
def d11(q:Res):Option (Int×Dt):=match q with
 |(.dat T0 a,[.box T1 (.dat T2 b)])=>bif (Nat.beq T0 3&&(Nat.beq T1 32&&Nat.beq T2 32))then some (a.toInt,b)else none
 |_=>none
theorem anI{b:Res}{r:Int×Dt}(h:d11 b=some r):Sim Tryz.prog b ((.dat 3 (.int r.1)),[.box 32 (.dat 32 r.2)]):=by
 unfold d11 at h;split at h
 ·obtain⟨hc,a⟩:=aJ h;cases a;have e0:=beq_eq (aG hc);have hc:=aB hc;have e1:=beq_eq (aG hc);have hc:=aB hc;have e2:=beq_eq hc;subst e0 e1 e2;exact Sim.of (.of (.dat (.int Tryz.underlying3)) rfl rfl) (.cons (.box .same) .nil)
 ·cases h
def d19(q:Res):Option (Int×List Dt×List Dt×List Dt×List Dt):=match q with
 |(.dat T0 c,[.box T1 (.ptr n2 p2 o2),.box T3 (.agg T4 [.row n5,.row n6,.row n7]),.row T8 d,.rowD T9 S9 none n9 e none,.tok T10 a,.row T11 b])=>bif (Nat.beq T0 3&&(Nat.beq T1 56&&(Nat.beq n2 1&&(natsB p2 []&&(Nat.beq o2 0&&(Nat.beq T3 76&&(Nat.beq T4 76&&(Nat.beq n5 2&&(Nat.beq n6 3&&(Nat.beq n7 5&&(Nat.beq T8 23&&(Nat.beq T9 73&&(Nat.beq S9 78&&(Nat.beq n9 4&&(Nat.beq T10 78&&Nat.beq T11 74)))))))))))))))then some (c.toInt,d,e,a,b)else none
 |_=>none
theorem anJ{b:Res}{r:Int×List Dt×List Dt×List Dt×List Dt}(h:d19 b=some r):Sim Tryz.prog b ((.dat 3 (.int r.1)),[.box 56 (.ptr 1 [] 0),.box 76 (.agg 76 [.row 2,.row 3,.row 5]),.row 23 r.2.1,(.rowD 73 78 none 4 r.2.2.1 none),(.tok 78 r.2.2.2.1),.row 74 r.2.2.2.2]):=by
 unfold d19 at h;split at h
 ·obtain⟨hc,a⟩:=aJ h;cases a;have e0:=beq_eq (aG hc);have hc:=aB hc;have e1:=beq_eq (aG hc);have hc:=aB hc;have e2:=beq_eq (aG hc);have hc:=aB hc;have e3:=gQ (aG hc);have hc:=aB hc;have e4:=beq_eq (aG hc);have hc:=aB hc;have e5:=beq_eq (aG hc);have hc:=aB hc;have e6:=beq_eq (aG hc);have hc:=aB hc;have e7:=beq_eq (aG hc);have hc:=aB hc;have e8:=beq_eq (aG hc);have hc:=aB hc;have e9:=beq_eq (aG hc);have hc:=aB hc;have e10:=beq_eq (aG hc);have hc:=aB hc;have e11:=beq_eq (aG hc);have hc:=aB hc;have e12:=beq_eq (aG hc);have hc:=aB hc;have e13:=beq_eq (aG hc);have hc:=aB hc;have e14:=beq_eq (aG hc);have hc:=aB hc;have e15:=beq_eq hc;subst e0 e1 e2 e3 e4 e5 e6 e7 e8 e9 e10 e11 e12 e13 e14 e15;exact Sim.of (.of (.dat (.int Tryz.underlying3)) rfl rfl) (.cons (.box .same) (.cons (.box (.agg (.cons .same (.cons .same (.cons .same .nil))))) (.cons .same (.cons .same (.cons .same (.cons .same .nil))))))
 ·cases h
def d18(q:Res):Option (Int×Bool×List Dt×List Dt×List Dt×List Dt):=match q with
 |(.tup [.dat T0 d,.dat T1 e],[.row T2 f,.box T3 (.ptr n4 p4 o4),.box T5 (.agg T6 [.row n7,.row n8,.row n9]),.row T10 a,.rowD T11 S11 none n11 b none,.tok T12 c])=>bif (Nat.beq T0 3&&(Nat.beq T1 4&&(Nat.beq T2 74&&(Nat.beq T3 56&&(Nat.beq n4 2&&(natsB p4 []&&(Nat.beq o4 0&&(Nat.beq T5 76&&(Nat.beq T6 76&&(Nat.beq n7 3&&(Nat.beq n8 4&&(Nat.beq n9 0&&(Nat.beq T10 23&&(Nat.beq T11 73&&(Nat.beq S11 78&&(Nat.beq n11 5&&Nat.beq T12 78))))))))))))))))then some (d.toInt,e.toBool,f,a,b,c)else none
 |_=>none
theorem anK{b:Res}{r:Int×Bool×List Dt×List Dt×List Dt×List Dt}(h:d18 b=some r):Sim Tryz.prog b ((.tup [.dat 3 (.int r.1),.dat 4 (.bool r.2.1)]),[.row 74 r.2.2.1,.box 56 (.ptr 2 [] 0),.box 76 (.agg 76 [.row 3,.row 4,.row 0]),.row 23 r.2.2.2.1,(.rowD 73 78 none 5 r.2.2.2.2.1 none),(.tok 78 r.2.2.2.2.2)]):=by
 unfold d18 at h;split at h
 ·obtain⟨hc,a⟩:=aJ h;cases a;have e0:=beq_eq (aG hc);have hc:=aB hc;have e1:=beq_eq (aG hc);have hc:=aB hc;have e2:=beq_eq (aG hc);have hc:=aB hc;have e3:=beq_eq (aG hc);have hc:=aB hc;have e4:=beq_eq (aG hc);have hc:=aB hc;have e5:=gQ (aG hc);have hc:=aB hc;have e6:=beq_eq (aG hc);have hc:=aB hc;have e7:=beq_eq (aG hc);have hc:=aB hc;have e8:=beq_eq (aG hc);have hc:=aB hc;have e9:=beq_eq (aG hc);have hc:=aB hc;have e10:=beq_eq (aG hc);have hc:=aB hc;have e11:=beq_eq (aG hc);have hc:=aB hc;have e12:=beq_eq (aG hc);have hc:=aB hc;have e13:=beq_eq (aG hc);have hc:=aB hc;have e14:=beq_eq (aG hc);have hc:=aB hc;have e15:=beq_eq (aG hc);have hc:=aB hc;have e16:=beq_eq hc;subst e0 e1 e2 e3 e4 e5 e6 e7 e8 e9 e10 e11 e12 e13 e14 e15 e16;exact Sim.of (.tup (.cons (.dat (.int Tryz.underlying3)) (.cons (.dat (.bool Tryz.underlying4)) .nil))) (.cons .same (.cons (.box .same) (.cons (.box (.agg (.cons .same (.cons .same (.cons .same .nil))))) (.cons .same (.cons .same (.cons .same .nil))))))
 ·cases h
def d17(q:Res):Option (Int×List Dt×List Dt×List Dt×List Dt):=match q with
 |(.dat T0 a,[.box T1 (.agg T2 [.row n3,.row n4,.row n5]),.gone,.gone,.gone,.gone,.row T6 b,.rowD T7 S7 none n7 c none,.tok T8 d,.row T9 e])=>bif (Nat.beq T0 3&&(Nat.beq T1 76&&(Nat.beq T2 76&&(Nat.beq n3 5&&(Nat.beq n4 6&&(Nat.beq n5 8&&(Nat.beq T6 23&&(Nat.beq T7 73&&(Nat.beq S7 78&&(Nat.beq n7 7&&(Nat.beq T8 78&&Nat.beq T9 74)))))))))))then some (a.toInt,b,c,d,e)else none
 |_=>none
theorem anL{b:Res}{r:Int×List Dt×List Dt×List Dt×List Dt}(h:d17 b=some r):Sim Tryz.prog b ((.dat 3 (.int r.1)),[.box 76 (.agg 76 [.row 5,.row 6,.row 8]),.gone,.gone,.gone,.gone,.row 23 r.2.1,(.rowD 73 78 none 7 r.2.2.1 none),(.tok 78 r.2.2.2.1),.row 74 r.2.2.2.2]):=by
 unfold d17 at h;split at h
 ·obtain⟨hc,a⟩:=aJ h;cases a;have e0:=beq_eq (aG hc);have hc:=aB hc;have e1:=beq_eq (aG hc);have hc:=aB hc;have e2:=beq_eq (aG hc);have hc:=aB hc;have e3:=beq_eq (aG hc);have hc:=aB hc;have e4:=beq_eq (aG hc);have hc:=aB hc;have e5:=beq_eq (aG hc);have hc:=aB hc;have e6:=beq_eq (aG hc);have hc:=aB hc;have e7:=beq_eq (aG hc);have hc:=aB hc;have e8:=beq_eq (aG hc);have hc:=aB hc;have e9:=beq_eq (aG hc);have hc:=aB hc;have e10:=beq_eq (aG hc);have hc:=aB hc;have e11:=beq_eq hc;subst e0 e1 e2 e3 e4 e5 e6 e7 e8 e9 e10 e11;exact Sim.of (.of (.dat (.int Tryz.underlying3)) rfl rfl) (.cons (.box (.agg (.cons .same (.cons .same (.cons .same .nil))))) (.cons .same (.cons .same (.cons .same (.cons .same (.cons .same (.cons .same (.cons .same (.cons .same .nil)))))))))
 ·cases h
def d24(q:Res):Option (List Dt×List Dt×List Dt×List Dt×List Dt):=match q with
 |(.dat T0 a,[.box T1 (.agg T2 [.row n3,.row n4,.row n5]),.gone,.gone,.gone,.gone,.row T6 b,.rowD T7 S7 none n7 c none,.tok T8 d,.row T9 e])=>bif (Nat.beq T0 23&&(Nat.beq T1 76&&(Nat.beq T2 76&&(Nat.beq n3 5&&(Nat.beq n4 6&&(Nat.beq n5 8&&(Nat.beq T6 23&&(Nat.beq T7 73&&(Nat.beq S7 78&&(Nat.beq n7 7&&(Nat.beq T8 78&&Nat.beq T9 74)))))))))))then some (a.toLst,b,c,d,e)else none
 |_=>none
theorem anM{b:Res}{r:List Dt×List Dt×List Dt×List Dt×List Dt}(h:d24 b=some r):Sim Tryz.prog b ((.dat 23 (.lst r.1)),[.box 76 (.agg 76 [.row 5,.row 6,.row 8]),.gone,.gone,.gone,.gone,.row 23 r.2.1,(.rowD 73 78 none 7 r.2.2.1 none),(.tok 78 r.2.2.2.1),.row 74 r.2.2.2.2]):=by
 unfold d24 at h;split at h
 ·obtain⟨hc,a⟩:=aJ h;cases a;have e0:=beq_eq (aG hc);have hc:=aB hc;have e1:=beq_eq (aG hc);have hc:=aB hc;have e2:=beq_eq (aG hc);have hc:=aB hc;have e3:=beq_eq (aG hc);have hc:=aB hc;have e4:=beq_eq (aG hc);have hc:=aB hc;have e5:=beq_eq (aG hc);have hc:=aB hc;have e6:=beq_eq (aG hc);have hc:=aB hc;have e7:=beq_eq (aG hc);have hc:=aB hc;have e8:=beq_eq (aG hc);have hc:=aB hc;have e9:=beq_eq (aG hc);have hc:=aB hc;have e10:=beq_eq (aG hc);have hc:=aB hc;have e11:=beq_eq hc;subst e0 e1 e2 e3 e4 e5 e6 e7 e8 e9 e10 e11;exact Sim.of (.of (.dat (.lst Tryz.underlying23)) rfl rfl) (.cons (.box (.agg (.cons .same (.cons .same (.cons .same .nil))))) (.cons .same (.cons .same (.cons .same (.cons .same (.cons .same (.cons .same (.cons .same (.cons .same .nil)))))))))
 ·cases h
def agM(q:Res):Option (Int×Int):=match q with
 |(.tup [],[.box T0 (.dat T1 a),.box T2 (.dat T3 b)])=>bif (Nat.beq T0 3&&(Nat.beq T1 3&&(Nat.beq T2 3&&Nat.beq T3 3)))then some (a.toInt,b.toInt)else none
 |_=>none
theorem Y2{b:Res}{r:Int×Int}(h:agM b=some r):Sim Tryz.prog b ((.tup []),[.box 3 (.dat 3 (.int r.1)),.box 3 (.dat 3 (.int r.2))]):=by
 unfold agM at h;split at h
 ·obtain⟨hc,a⟩:=aJ h;cases a;have e0:=beq_eq (aG hc);have hc:=aB hc;have e1:=beq_eq (aG hc);have hc:=aB hc;have e2:=beq_eq (aG hc);have hc:=aB hc;have e3:=beq_eq hc;subst e0 e1 e2 e3;exact Sim.of (.tup .nil) (.cons (.box (.dat (.int Tryz.underlying3))) (.cons (.box (.dat (.int Tryz.underlying3))) .nil))
 ·cases h
def agN(q:Res):Option (Bool×Int×Int):=match q with
 |(.dat T0 a,[.box T1 (.dat T2 b),.box T3 (.dat T4 c)])=>bif (Nat.beq T0 4&&(Nat.beq T1 3&&(Nat.beq T2 3&&(Nat.beq T3 3&&Nat.beq T4 3))))then some (a.toBool,b.toInt,c.toInt)else none
 |_=>none
theorem Y3{b:Res}{r:Bool×Int×Int}(h:agN b=some r):Sim Tryz.prog b ((.dat 4 (.bool r.1)),[.box 3 (.dat 3 (.int r.2.1)),.box 3 (.dat 3 (.int r.2.2))]):=by
 unfold agN at h;split at h
 ·obtain⟨hc,a⟩:=aJ h;cases a;have e0:=beq_eq (aG hc);have hc:=aB hc;have e1:=beq_eq (aG hc);have hc:=aB hc;have e2:=beq_eq (aG hc);have hc:=aB hc;have e3:=beq_eq (aG hc);have hc:=aB hc;have e4:=beq_eq hc;subst e0 e1 e2 e3 e4;exact Sim.of (.of (.dat (.bool Tryz.underlying4)) rfl rfl) (.cons (.box (.dat (.int Tryz.underlying3))) (.cons (.box (.dat (.int Tryz.underlying3))) .nil))
 ·cases h
def anN(q:Res):Option (Int×Int×ByteArray×List Dt×List Dt):=match q with
 |(.agg T0 [.dat T1 a,.dat T2 b,.dat T3 c,.row n4,.row n5],[.row T6 d,.row T7 e])=>bif (Nat.beq T0 26&&(Nat.beq T1 3&&(Nat.beq T2 3&&(Nat.beq T3 9&&(Nat.beq n4 0&&(Nat.beq n5 1&&(Nat.beq T6 23&&Nat.beq T7 24)))))))then some (a.toInt,b.toInt,c.toStr,d,e)else none
 |_=>none
theorem ajz{b:Res}{r:Int×Int×ByteArray×List Dt×List Dt}(h:anN b=some r):Sim Tryz.prog b ((.agg 26 [.dat 3 (.int r.1),.dat 3 (.int r.2.1),.dat 9 (.str r.2.2.1),.row 0,.row 1]),[.row 23 r.2.2.2.1,.row 24 r.2.2.2.2]):=by
 unfold anN at h;split at h
 ·obtain⟨hc,a⟩:=aJ h;cases a;have e0:=beq_eq (aG hc);have hc:=aB hc;have e1:=beq_eq (aG hc);have hc:=aB hc;have e2:=beq_eq (aG hc);have hc:=aB hc;have e3:=beq_eq (aG hc);have hc:=aB hc;have e4:=beq_eq (aG hc);have hc:=aB hc;have e5:=beq_eq (aG hc);have hc:=aB hc;have e6:=beq_eq (aG hc);have hc:=aB hc;have e7:=beq_eq hc;subst e0 e1 e2 e3 e4 e5 e6 e7;exact Sim.of (.of (.agg (.cons (.dat (.int Tryz.underlying3)) (.cons (.dat (.int Tryz.underlying3)) (.cons (.dat (.str Tryz.underlying9)) (.cons .same (.cons .same .nil)))))) rfl rfl) (.cons .same (.cons .same .nil))
 ·cases h
def d52(q:Res):Option (Int×Int):=match q with
 |(.dat T0 a,[.box T1 (.dat T2 b)])=>bif (Nat.beq T0 46&&(Nat.beq T1 3&&Nat.beq T2 3))then some (a.toInt,b.toInt)else none
 |_=>none
theorem anO{b:Res}{r:Int×Int}(h:d52 b=some r):Sim Tryz.prog b ((.dat 46 (.int r.1)),[.box 3 (.dat 3 (.int r.2))]):=by
 unfold d52 at h;split at h
 ·obtain⟨hc,a⟩:=aJ h;cases a;have e0:=beq_eq (aG hc);have hc:=aB hc;have e1:=beq_eq (aG hc);have hc:=aB hc;have e2:=beq_eq hc;subst e0 e1 e2;exact Sim.of (.of (.dat (.int Tryz.underlying46)) rfl rfl) (.cons (.box (.dat (.int Tryz.underlying3))) .nil)
 ·cases h
def d15(q:Res):Option (List Dt×List Dt×List Dt×List Dt):=match q with
 |(.ptr n0 p0 o0,[.box T1 (.agg T2 [.row n3,.row n4,.row n5]),.row T6 a,.rowD T7 S7 none n7 b none,.tok T8 c,.row T9 d])=>bif (Nat.beq n0 0&&(natsB p0 []&&(Nat.beq o0 0&&(Nat.beq T1 76&&(Nat.beq T2 76&&(Nat.beq n3 1&&(Nat.beq n4 2&&(Nat.beq n5 4&&(Nat.beq T6 23&&(Nat.beq T7 73&&(Nat.beq S7 78&&(Nat.beq n7 3&&(Nat.beq T8 78&&Nat.beq T9 74)))))))))))))then some (a,b,c,d)else none
 |_=>none
theorem anP{b:Res}{r:List Dt×List Dt×List Dt×List Dt}(h:d15 b=some r):Sim Tryz.prog b ((.ptr 0 [] 0),[.box 76 (.agg 76 [.row 1,.row 2,.row 4]),.row 23 r.1,(.rowD 73 78 none 3 r.2.1 none),(.tok 78 r.2.2.1),.row 74 r.2.2.2]):=by
 unfold d15 at h;split at h
 ·obtain⟨hc,a⟩:=aJ h;cases a;have e0:=beq_eq (aG hc);have hc:=aB hc;have e1:=gQ (aG hc);have hc:=aB hc;have e2:=beq_eq (aG hc);have hc:=aB hc;have e3:=beq_eq (aG hc);have hc:=aB hc;have e4:=beq_eq (aG hc);have hc:=aB hc;have e5:=beq_eq (aG hc);have hc:=aB hc;have e6:=beq_eq (aG hc);have hc:=aB hc;have e7:=beq_eq (aG hc);have hc:=aB hc;have e8:=beq_eq (aG hc);have hc:=aB hc;have e9:=beq_eq (aG hc);have hc:=aB hc;have e10:=beq_eq (aG hc);have hc:=aB hc;have e11:=beq_eq (aG hc);have hc:=aB hc;have e12:=beq_eq (aG hc);have hc:=aB hc;have e13:=beq_eq hc;subst e0 e1 e2 e3 e4 e5 e6 e7 e8 e9 e10 e11 e12 e13;exact Sim.of (.of .same rfl rfl) (.cons (.box (.agg (.cons .same (.cons .same (.cons .same .nil))))) (.cons .same (.cons .same (.cons .same (.cons .same .nil)))))
 ·cases h
def ctE(m:Nat)(f:FuncId):Option Ent:=
 bif Nat.beq f 4 then some ⟨aiQ,fP,tJ m⟩else
 bif Nat.beq f 5 then some ⟨agJ,fP,Cx⟩else
 bif Nat.beq f 6 then some ⟨aiQ,YQ,vR m⟩else
 bif Nat.beq f 7 then some ⟨abS,res1,vQ m⟩else
 bif Nat.beq f 10 then some ⟨Jw,res2,bB m⟩else
 bif Nat.beq f 11 then some ⟨VY,LY,gU m⟩else
 bif Nat.beq f 14 then some ⟨aq6,LY,uR m⟩else
 bif Nat.beq f 15 then some ⟨ql,fP,iO m⟩else
 bif Nat.beq f 42 then some ⟨abS,res1,ow m⟩else
 bif Nat.beq f 60 then some ⟨Jw,res2,bg m⟩else
 bif Nat.beq f 62 then some ⟨aq7,Ri,qX m⟩else
 bif Nat.beq f 43 then some ⟨aq8,Ri,vP m⟩else
 bif Nat.beq f 44 then some ⟨ql,res1,bS m⟩else
 bif Nat.beq f 23 then some ⟨aq9,res1,pV m⟩else
 bif Nat.beq f 24 then some ⟨abS,res1,pz m⟩else
 bif Nat.beq f 26 then some ⟨zL,res2,dJ m⟩else
 bif Nat.beq f 27 then some ⟨ad7,res2,jv m⟩else
 bif Nat.beq f 28 then some ⟨aiR,anx,fE m⟩else
 bif Nat.beq f 30 then some ⟨GJ,fP,fZ m⟩else
 bif Nat.beq f 31 then some ⟨aiS,fP,wz m⟩else
 bif Nat.beq f 32 then some ⟨ql,res2,mW m⟩else
 bif Nat.beq f 33 then some ⟨ql,res2,mX m⟩else
 bif Nat.beq f 34 then some ⟨YI,fP,bC m⟩else
 bif Nat.beq f 65 then some ⟨VY,LY,qV m⟩else
 bif Nat.beq f 67 then some ⟨Oc,res1,cK m⟩else
 bif Nat.beq f 66 then some ⟨ql,res1,bK m⟩else
 bif Nat.beq f 78 then some ⟨zL,res2,eG m⟩else
 bif Nat.beq f 79 then some ⟨ad7,res2,strings_Compare⟩else
 bif Nat.beq f 63 then some ⟨aiT,Ri,oN m⟩else
 bif Nat.beq f 181 then some ⟨aiU,Ri,jh m⟩else
 bif Nat.beq f 183 then some ⟨aiV,res1,gH m⟩else
 bif Nat.beq f 46 then some ⟨ql,res1,dF m⟩else
 bif Nat.beq f 47 then some ⟨YJ,res1,bI m⟩else
 bif Nat.beq f 48 then some ⟨VY,LY,qP m⟩else
 bif Nat.beq f 49 then some ⟨vB,fP,ig m⟩else
 bif Nat.beq f 50 then some ⟨GK,res2,eD m⟩else
 bif Nat.beq f 51 then some ⟨GK,res2,iN m⟩else
 bif Nat.beq f 52 then some ⟨vB,fP,qO m⟩else
 bif Nat.beq f 53 then some ⟨YI,fP,dz m⟩else
 bif Nat.beq f 108 then some ⟨VY,LY,j3 m⟩else
 bif Nat.beq f 85 then some ⟨Oc,res1,fA m⟩else
 bif Nat.beq f 86 then some ⟨ql,fP,kU m⟩else
 bif Nat.beq f 87 then some ⟨agJ,res1,cB m⟩else
 bif Nat.beq f 105 then some ⟨zM,fP,qY m⟩else
 bif Nat.beq f 56 then some ⟨CS,YQ,eF m⟩else
 bif Nat.beq f 82 then some ⟨zM,res1,qw m⟩else
 bif Nat.beq f 71 then some ⟨agJ,res1,bZ m⟩else
 bif Nat.beq f 68 then some ⟨YK,res1,gW m⟩else
 bif Nat.beq f 69 then some ⟨YJ,res1,dD m⟩else
 bif Nat.beq f 70 then some ⟨YL,res1,aV m⟩else
 bif Nat.beq f 74 then some ⟨Jw,fP,bD m⟩else
 bif Nat.beq f 73 then some ⟨GJ,fP,mV m⟩else
 bif Nat.beq f 72 then some ⟨zM,res2,oP m⟩else
 bif Nat.beq f 75 then some ⟨ql,YQ,kJ m⟩else
 bif Nat.beq f 76 then some ⟨aiW,fP,qN m⟩else
 bif Nat.beq f 77 then some ⟨vB,fP,nD m⟩else
 bif Nat.beq f 131 then some ⟨GJ,fP,nH m⟩else
 bif Nat.beq f 132 then some ⟨vB,fP,kK m⟩else
 bif Nat.beq f 134 then some ⟨ql,fP,oU m⟩else
 bif Nat.beq f 133 then some ⟨GJ,fP,eH m⟩else
 bif Nat.beq f 130 then some ⟨zM,res2,oV m⟩else
 bif Nat.beq f 129 then some ⟨zL,fP,pW m⟩else
 bif Nat.beq f 109 then some ⟨YK,res1,bU m⟩else
 bif Nat.beq f 110 then some ⟨Oc,res1,d9 m⟩else
 bif Nat.beq f 111 then some ⟨Br,res1,dO m⟩else
 bif Nat.beq f 112 then some ⟨zL,res1,jd m⟩else
 bif Nat.beq f 113 then some ⟨Br,res1,gI m⟩else
 bif Nat.beq f 114 then some ⟨Br,res1,dU⟩else
 bif Nat.beq f 115 then some ⟨Br,res1,dI m⟩else
 bif Nat.beq f 116 then some ⟨zM,res1,bM m⟩else
 bif Nat.beq f 117 then some ⟨CS,res1,pG m⟩else
 bif Nat.beq f 118 then some ⟨YL,res1,dY m⟩else
 bif Nat.beq f 119 then some ⟨ql,res2,ng m⟩else
 bif Nat.beq f 120 then some ⟨ql,res2,ni m⟩else
 bif Nat.beq f 121 then some ⟨ql,fP,bJ m⟩else
 bif Nat.beq f 88 then some ⟨Od,anA,qZ m⟩else
 bif Nat.beq f 89 then some ⟨ql,res1,nE m⟩else
 bif Nat.beq f 90 then some ⟨ql,fP,fQ m⟩else
 bif Nat.beq f 91 then some ⟨Br,res1,fJ m⟩else
 bif Nat.beq f 92 then some ⟨Br,res1,mY m⟩else
 bif Nat.beq f 93 then some ⟨YM,res1,bO m⟩else
 bif Nat.beq f 94 then some ⟨CS,res1,kP m⟩else
 bif Nat.beq f 95 then some ⟨zM,res1,dP m⟩else
 bif Nat.beq f 97 then some ⟨aiX,anz,gF m⟩else
 bif Nat.beq f 96 then some ⟨vB,res1,jR m⟩else
 bif Nat.beq f 98 then some ⟨aiY,res1,mZ m⟩else
 bif Nat.beq f 99 then some ⟨aiZ,res1,lI m⟩else
 bif Nat.beq f 100 then some ⟨Jw,res1,jD m⟩else
 bif Nat.beq f 101 then some ⟨YN,fP,jW m⟩else
 bif Nat.beq f 102 then some ⟨CS,res1,o9 m⟩else
 bif Nat.beq f 103 then some ⟨CS,res1,nu m⟩else
 bif Nat.beq f 104 then some ⟨ai0,res1,dS m⟩else
 bif Nat.beq f 150 then some ⟨YO,fP,agH m⟩else
 bif Nat.beq f 160 then some ⟨YO,res2,i107 m⟩else
 bif Nat.beq f 151 then some ⟨vB,fP,nG m⟩else
 bif Nat.beq f 135 then some ⟨ql,res1,gV m⟩else
 bif Nat.beq f 136 then some ⟨ql,fP,dV m⟩else
 bif Nat.beq f 137 then some ⟨zL,res2,iK m⟩else
 bif Nat.beq f 138 then some ⟨YM,res1,bP m⟩else
 bif Nat.beq f 143 then some ⟨Jw,fP,jE m⟩else
 bif Nat.beq f 144 then some ⟨YN,res1,kL m⟩else
 bif Nat.beq f 145 then some ⟨YP,res1,tN m⟩else
 bif Nat.beq f 146 then some ⟨GK,res2,kM m⟩else
 bif Nat.beq f 147 then some ⟨GK,res2,kN m⟩else
 bif Nat.beq f 148 then some ⟨vB,fP,utf8_ValidString⟩else
 bif Nat.beq f 149 then some ⟨ai1,fP,bH m⟩else
 bif Nat.beq f 122 then some ⟨Od,res2,mJ m⟩else
 bif Nat.beq f 123 then some ⟨ai2,fP,iP m⟩else
 bif Nat.beq f 124 then some ⟨zL,res2,eO m⟩else
 bif Nat.beq f 125 then some ⟨Jw,fP,jF m⟩else
 bif Nat.beq f 126 then some ⟨YP,res1,oq m⟩else
 bif Nat.beq f 154 then some ⟨Od,res2,qQ m⟩else
 bif Nat.beq f 159 then some ⟨vB,fP,nJ m⟩else
 none
def ctX{R:Type}(m:Nat)(f:FuncId)(args:List AV)(objs:List Ob)(K:Res->Option R):Option R:=
 bif Nat.beq f 12 then ara m args objs K else
 bif Nat.beq f 29 then arb m args objs K else
 bif Nat.beq f 13 then ard m args objs K else
 bif Nat.beq f 21 then arf m args objs K else
 bif Nat.beq f 38 then arh m args objs K else
 bif Nat.beq f 58 then ari m args objs K else
 bif Nat.beq f 59 then arj m args objs K else
 bif Nat.beq f 61 then ark m args objs K else
 bif Nat.beq f 22 then arl m args objs K else
 bif Nat.beq f 84 then arn m args objs K else
 bif Nat.beq f 153 then ajv m args objs K else
 bif Nat.beq f 155 then ajw m args objs K else
 bif Nat.beq f 156 then ajx m args objs K else
 bif Nat.beq f 157 then ajy m args objs K else
 bif Nat.beq f 45 then atY m args objs K else
 none
def ct{R:Type}(m:Nat)(f:FuncId)(args:List AV)(objs:List Ob)(K:Res->Option R):Option R:=match ctE m f with
 |some e=>e.run args objs K
 |none=>ctX m f args objs K
section
variable{R:Type}{P:Program}{E:Env}{call:FuncId->List AV->List Ob->(Res->Option R)->Option R}{m n M:Nat}{f:FuncId}{fn:Func}{dec:Res->Option R}{p ms:List Nat}{σ:St}{g:(Nat->Nat->Nat->St->Option R->Option R)->Option R}{r:Option R}
theorem tq(e:g jn=r)(h:∀J,evAt P E call J m f n fn dec p ms σ=g J:=by intro J;kernel_rfl):evAt P E call jn m f n fn dec p ms σ=r:=(h jn).trans e
theorem tl(e:g jn=r)(h:∀J,loopAt P E call J m f n fn dec p ms M σ=g J:=by intro J;kernel_rfl):loopAt P E call jn m f n fn dec p ms M σ=r:=(h jn).trans e
end
end Go.Proofs.YtjibjkdalajaiaaGreatDoor
noncomputable section
namespace Go.Proofs.YtjibjkdalajaiaaGreatDoor
open Nat (succ)
open IntKind (wrap)
open Go.Am Dt
set_option maxRecDepth 100000
def e12(J:Q50)(m:Nat):=evAt Tryz.prog env (ct m) J (m+1) 13 9 Tryz.f13 d12
theorem aro m b a:e12 jn m [] [] ⟨[.dat 32 b,.ptr 0 [] 0],[.box 32 (.dat 32 a)],1⟩=i12 (m+1) b a:=
 tq (g:=fun J=>some ((S a 0).toList==(S b 0).toList,a)) (by rfl)
def e11(J:Q83)(m:Nat):=evAt Tryz.prog env (ct m) J (m+1) 29 19 Tryz.f29 d11
def l11(J:Q83)(m:Nat):=loopAt Tryz.prog env (ct m) J (m+1) 29 19 Tryz.f29 d11
def ajA(a:List Dt)(b c:Int)(d:Dt):St:=⟨tsOf [(0,.dat 33 (.lst a)),(1,(.fn 13 [.ptr 0 [] 0])),(7,.dat 3 (.int b)),(8,.dat 3 (.int c))],[.box 32 (.dat 32 d)],1⟩
theorem TG m:∀b c d a e,l11 jn m [1,0,1,0] [] b (ajA c d a e)=abE m b c d a e
 |0,_,_,_,_=>rfl
 |b+1,c,d,a,e=>
  tl (g:=fun J=>cond (a<d) ((idx c a).bind fun h=>(i12 m h e).bind fun f=>cond f.1 (some (a,f.2)) (jj J 1 2 b (ajA c d (wrap .i64 (a+1)) f.2) (l11 J m [1,0,1,0] [] b))) (some ((-1),e))) (by simp only[aM,(TG m b)];rfl)
theorem arp m a b:e11 jn m [] [] ⟨[.dat 33 (.lst a),(.fn 13 [.ptr 0 [] 0])],[.box 32 (.dat 32 b)],1⟩=i11 (m+1) a b:=
 tq (g:=fun J=>jj J 1 2 (succ m) (ajA a (a.length:Int) 0 b) (l11 J m [1,0,1,0] [] (succ m))) (by simp only[aM,TG m];rfl)
def e10(J:Q50)(m:Nat):=evAt Tryz.prog env (ct m) J (m+1) 12 9 Tryz.f12 d12
theorem arq m a b:e10 jn m [] [] ⟨[.dat 33 (.lst a),(.fn 13 [.ptr 0 [] 0])],[.box 32 (.dat 32 b)],1⟩=i10 (m+1) a b:=
 tq (g:=fun J=>(i11 m a b).bind fun c=>some (decide (0<=c.1),c.2)) (by rfl)
def e22(J:Q0)(m:Nat):=evAt Tryz.prog env (ct m) J (m+1) 62 6 Tryz.f62 d22
theorem Oh m a:e22 jn m [] [] ⟨[.dat 32 a],[],0⟩=qX (m+1) a:=
 tq (g:=fun J=>some (agg [int (I a 1),int 0,int 0,aj,lst [],lst []])) (by rfl)
def ajB:List Nat:=[1,1,1,0,1,0]
def atZ:List Nat:=[1,1,1,1,0,1]
def ajC:List Nat:=atZ++[0]
def e25(J:Q0)(m:Nat):=evAt Tryz.prog env (ct m) J (m+1) 44 46 Tryz.f44 d25
def l25(J:Q0)(m:Nat):=loopAt Tryz.prog env (ct m) J (m+1) 44 46 Tryz.f44 d25
def ajD(a:List Dt)(b c:Int)(d e:Dt)(f g:Int)(h:ByteArray)(i j:List Dt):St:=⟨tsOf [(1,.ptr 0 [] 0),(2,.ptr 1 [] 0),(3,.ptr 2 [] 0),(12,.dat 23 (.lst a)),(13,.dat 3 (.int b)),(14,.dat 3 (.int c))],[.box 26 (.dat 26 d),.box 26 (.dat 26 e),.box 26 (.agg 26 [.dat 3 (.int f),.dat 3 (.int g),.dat 9 (.str h),.row 3,.row 4]),.row 23 i,.row 24 j],0⟩
def ajE(a:List Dt)(b c:Int)(d:Dt)(e f:Int)(g:ByteArray)(h i:List Dt):St:=⟨tsOf [(2,.ptr 0 [] 0),(3,.ptr 1 [] 0),(27,.dat 24 (.lst a)),(28,.dat 3 (.int b)),(29,.dat 3 (.int c))],[.box 26 (.dat 26 d),.box 26 (.agg 26 [.dat 3 (.int e),.dat 3 (.int f),.dat 9 (.str g),.row 2,.row 3]),.row 23 h,.row 24 i],0⟩
theorem sO m:∀a c d b k e f h i j,l25 jn m ajC [] a (ajE c d b k e f h i j)=jP m (bS m) a c d b k e f h i j
 |0,_,_,_,_,_,_,_,_,_=>rfl
 |a+1,c,d,b,k,e,f,h,i,j=>
  tl (g:=fun J=>cond (b<d) ((idx c b).bind fun l=>(bS m (fld l 1)).bind fun n=>(app j [agg [str (S l 0),n]]).bind fun o=>jj J 1 9 a (ajE c d (wrap .i64 (b+1)) k e f h i o) (l25 J m ajC [] a)) (some (agg [int e,int f,str h,lst i,lst j]))) (by simp only[aM,(sO m a)];rfl)
theorem sP m:∀a d e b c f h i j k l,l25 jn m ajB [] a (ajD d e b c f h i j k l)=gY m (bS m) a d e b c f h i j k l
 |0,_,_,_,_,_,_,_,_,_,_=>rfl
 |a+1,d,e,b,c,f,h,i,j,k,l=>
  tl (g:=fun J=>cond (b<e) ((idx d b).bind fun n=>(bS m n).bind fun o=>(app k [o]).bind fun p=>jj J 1 4 a (ajD d e (wrap .i64 (b+1)) c f h i j p l) (l25 J m ajB [] a)) (jj J 1 9 (succ m) (ajE (L c 4) ((L c 4).length:Int) 0 f h i j k l) (l25 J m ajC [] (succ m)))) (by simp only[aM,(sP m a),sO m];rfl)
theorem Fh m a:e25 jn m [] [] ⟨[.dat 26 a],[],0⟩=bS (m+1) a:=
 tq (g:=fun J=>jj J 1 4 (succ m) (ajD (L a 3) ((L a 3).length:Int) 0 a aj (I a 0) (I a 1) (S a 2) [] []) (l25 J m ajB [] (succ m))) (by simp only[aM,sP m];rfl)
def e28(J:Q2)(m:Nat):=evAt Tryz.prog env (ct m) J (m+1) 26 11 Tryz.f26 d28
theorem Rj m a b:e28 jn m [] [] ⟨[.dat 3 (.int a),.dat 3 (.int b)],[],0⟩=dJ (m+1) a b:=
 tq (g:=fun J=>cond (a<b) (some (-1)) (cond (b<a) (some 1) (some 0))) (by rfl)
def e29(J:Q2)(m:Nat):=evAt Tryz.prog env (ct m) J (m+1) 27 39 Tryz.f27 d28
def l29(J:Q2)(m:Nat):=loopAt Tryz.prog env (ct m) J (m+1) 27 39 Tryz.f27 d28
def ajF(a b:ByteArray)(c:Int):St:=⟨tsOf [(0,.dat 9 (.str a)),(1,.dat 9 (.str b)),(5,.dat 3 (.int c))],[],0⟩
theorem xY m:∀d b c a,l29 jn m [1,0,1,0] [] d (ajF b c a)=oM m d b c a
 |0,_,_,_=>rfl
 |d+1,b,c,a=>
  tl (g:=fun J=>cond (a<(b.size:Int)) (bif a<(c.size:Int)then(idxS b a).bind fun f=>(idxS c a).bind fun h=>cond (f !=h) ((idxS b a).bind fun i=>(idxS c a).bind fun j=>(dJ m (wrap .i64 i) (wrap .i64 j)).bind fun k=>some k) (jj J 1 2 d (ajF b c (wrap .i64 (a+1))) (l29 J m [1,0,1,0] [] d))else(dJ m (b.size:Int) (c.size:Int)).bind fun e=>some e) ((dJ m (b.size:Int) (c.size:Int)).bind fun e=>some e)) (by simp only[aM,(xY m d)];rfl)
theorem Oi m a b:e29 jn m [] [] ⟨[.dat 9 (.str a),.dat 9 (.str b)],[],0⟩=jv (m+1) a b:=
 tq (g:=fun J=>jj J 1 2 (succ m) (ajF a b 0) (l29 J m [1,0,1,0] [] (succ m))) (by simp only[aM,xY m];rfl)
def Y4:List Nat:=[1,1,0,1,0,1]
def Ll:List Nat:=Y4++[1,1]
def ars:List Nat:=Ll++[1,1,0,1]
def awT:List Nat:=Ll++[1,1,0,0,1]
def aru:List Nat:=awT++[0]
def arv:List Nat:=Ll++[1,1,1,1,0,1]
def at0:List Nat:=Ll++[1,1,1,1,0,0,1]
def ajG:List Nat:=at0++[0]
def awU:List Nat:=ajG++[0,1]
def arw:List Nat:=awU++[0,0,1,1]
def e8(J:Q2)(m:Nat):=evAt Tryz.prog env (ct m) J (m+1) 10 130 Tryz.f10 d28
def l8(J:Q2)(m:Nat):=loopAt Tryz.prog env (ct m) J (m+1) 10 130 Tryz.f10 d28
def arx(a:Int)(b c:Dt):St:=⟨tsOf [(2,.ptr 0 [] 0),(3,.ptr 1 [] 0),(5,.dat 3 (.int a))],[.box 26 (.dat 26 b),.box 26 (.dat 26 c)],0⟩
def agO(a b:Dt):St:=⟨tsOf [(2,.ptr 0 [] 0),(3,.ptr 1 [] 0)],[.box 26 (.dat 26 a),.box 26 (.dat 26 b)],0⟩
def aeb(a:Int)(b c:Dt):St:=⟨tsOf [(2,.ptr 0 [] 0),(3,.ptr 1 [] 0),(7,.dat 3 (.int a))],[.box 26 (.dat 26 b),.box 26 (.dat 26 c)],0⟩
def ajH(a b:Int)(c d:Dt):St:=⟨tsOf [(2,.ptr 0 [] 0),(3,.ptr 1 [] 0),(7,.dat 3 (.int a)),(8,.dat 3 (.int b))],[.box 26 (.dat 26 c),.box 26 (.dat 26 d)],0⟩
def anQ(a:Int)(b:Bool)(c d:Dt):St:=⟨tsOf [(2,.ptr 0 [] 0),(3,.ptr 1 [] 0),(20,.dat 3 (.int a)),(30,.dat 4 (.bool b))],[.box 26 (.dat 26 c),.box 26 (.dat 26 d)],0⟩
def anR(a:Int)(b:Bool)(c d:Dt):St:=⟨tsOf [(2,.ptr 0 [] 0),(3,.ptr 1 [] 0),(20,.dat 3 (.int a)),(21,.dat 4 (.bool b))],[.box 26 (.dat 26 c),.box 26 (.dat 26 d)],0⟩
theorem Ed m a b:e8 jn m ars [] (agO a b)=lQ m (bB m) a b:=
 tq (g:=fun J=>(dJ m ((L a 3).length:Int) ((L b 3).length:Int)).bind fun c=>some c) (by rfl)
theorem vC m:∀d a b c,l8 jn m aru [] d (arx a b c)=lS m (bB m) d a b c
 |0,_,_,_=>rfl
 |d+1,a,b,c=>
  tl (g:=fun J=>cond (a<((L b 3).length:Int)) (bif a<((L c 3).length:Int)then(idx (L b 3) a).bind fun f=>(idx (L c 3) a).bind fun h=>(bB m f h).bind fun e=>cond (e !=0) (some e) (jj J 1 14 d (arx (wrap .i64 (a+1)) b c) (l8 J m aru [] d))else jj J 0 19 0 (agO b c) (e8 J m ars [])) (jj J 0 19 0 (agO b c) (e8 J m ars []))) (by simp only[aM,(vC m d),Ed m];rfl)
abbrev awV(m e:Nat)(a:Q31):Prop:=∀b c d,l8 jn m ajG [] e (aeb b c d)=a b c d
theorem CV m b a(h:awV m b a) d c e f:e8 jn m arw [b] (ajH d c e f)=oC m (bB m) a d c e f:=
 tq (g:=fun J=>cond (c !=0) (some c) (jj J 1 22 b (aeb (wrap .i64 (d+1)) e f) (l8 J m ajG [] b))) (by simp only[aM,h];rfl)
theorem CX m a b:e8 jn m arv [] (agO a b)=kI m (bB m) a b:=
 tq (g:=fun J=>(dJ m ((L a 4).length:Int) ((L b 4).length:Int)).bind fun c=>some c) (by rfl)
theorem vD m:∀d a b c,l8 jn m ajG [] d (aeb a b c)=gZ m (bB m) d a b c
 |0,_,_,_=>rfl
 |d+1,a,b,c=>
  tl (g:=fun J=>cond (a<((L b 4).length:Int)) (bif a<((L c 4).length:Int)then(idx (L b 4) a).bind fun j=>(idx (L c 4) a).bind fun k=>(jv m (S j 0) (S k 0)).bind fun i=>cond (i==0) ((idx (L b 4) a).bind fun e=>(idx (L c 4) a).bind fun f=>(bB m (fld e 1) (fld f 1)).bind fun h=>jj J 0 27 0 (ajH a h b c) (e8 J m arw [d])) (jj J 0 27 0 (ajH a i b c) (e8 J m arw [d]))else jj J 0 29 0 (agO b c) (e8 J m arv [])) (jj J 0 29 0 (agO b c) (e8 J m arv []))) (by simp only[aM,CV m d (gZ m (bB m) d) (vD m d),CX m];rfl)
theorem Ee m c d a b:e8 jn m Ll [] (anQ c d a b)=lT m (bB m) c d a b:=
 tq (g:=fun J=>cond d ((jv m (S a 2) (S b 2)).bind fun e=>some e) (cond (c==6) (jj J 1 14 (succ m) (arx 0 a b) (l8 J m aru [] (succ m))) (cond (c==5) (jj J 1 22 (succ m) (aeb 0 a b) (l8 J m ajG [] (succ m))) (some 0)))) (by simp only[aM,vC m,vD m];rfl)
theorem Ef m a d b c:e8 jn m Y4 [] (anR a d b c)=lU m (bB m) a d b c:=
 tq (g:=fun J=>cond d ((dJ m (I b 1) (I c 1)).bind fun e=>some e) (cond (a==4) (jj J 0 11 0 (anQ a (a==4) b c) (e8 J m Ll [])) (cond (a==7) (jj J 0 11 0 (anQ a (a==7) b c) (e8 J m Ll [])) (jj J 0 11 0 (anQ a (a==8) b c) (e8 J m Ll []))))) (by simp only[aM,Ee m];rfl)
theorem Jy m a b:e8 jn m [] [] ⟨[.dat 26 a,.dat 26 b],[],0⟩=bB (m+1) a b:=
 tq (g:=fun J=>cond (I a 0 !=I b 0) ((dJ m (I a 0) (I b 0)).bind fun c=>some c) (cond (I a 0==3) (jj J 0 7 0 (anR (I a 0) (I a 0==3) a b) (e8 J m Y4 [])) (cond (I a 0==9) (jj J 0 7 0 (anR (I a 0) (I a 0==9) a b) (e8 J m Y4 [])) (jj J 0 7 0 (anR (I a 0) (I a 0==10) a b) (e8 J m Y4 []))))) (by simp only[aM,Ef m];rfl)
def ajI:List Nat:=[1,1,0,1,0]
def e32(J:Q1)(m:Nat):=evAt Tryz.prog env (ct m) J (m+1) 31 26 Tryz.f31 d32
def l32(J:Q1)(m:Nat):=loopAt Tryz.prog env (ct m) J (m+1) 31 26 Tryz.f31 d32
def ajJ(a b:List Dt)(c:Int):St:=⟨tsOf [(0,.dat 22 (.lst a)),(1,.dat 22 (.lst b)),(5,.dat 3 (.int c))],[],0⟩
theorem zQ m:∀b c d a,l32 jn m ajI [] b (ajJ c d a)=yP m b c d a
 |0,_,_,_=>rfl
 |b+1,c,d,a=>
  tl (g:=fun J=>bif a<(c.length:Int)then(idx c a).bind fun e=>(idx d a).bind fun f=>cond (!(toStr e).toList==(toStr f).toList) (some false) (jj J 1 4 b (ajJ c d (wrap .i64 (a+1))) (l32 J m ajI [] b))else some true) (by simp only[aM,(zQ m b)];rfl)
theorem Rk m a b:e32 jn m [] [] ⟨[.dat 22 (.lst a),.dat 22 (.lst b)],[],0⟩=wz (m+1) a b:=
 tq (g:=fun J=>cond ((a.length:Int) !=(b.length:Int)) (some false) (jj J 1 4 (succ m) (ajJ a b 0) (l32 J m ajI [] (succ m)))) (by simp only[aM,zQ m];rfl)
def at1:List Nat:=[1,1,0,1,0,1,1]
def Y5:List Nat:=at1++[0]
def at5:List Nat:=[1,1,1,0,1,0,1,1]
def GU:List Nat:=at5++[0]
def ajK:List Nat:=Y5++[0,1,1]
def apy:List Nat:=ajK++[1]
def Y6:List Nat:=GU++[0,1,1]
def aec:List Nat:=Y6++[1]
def e38(J:Q0)(m:Nat):=evAt Tryz.prog env (ct m) J (m+1) 66 68 Tryz.f66 d25
def l38(J:Q0)(m:Nat):=loopAt Tryz.prog env (ct m) J (m+1) 66 68 Tryz.f66 d25
def Lm(a:List Dt)(b c:Int)(d e:Dt)(f g:Int)(h:ByteArray)(i:List Dt):St:=⟨tsOf [(1,.ptr 0 [] 0),(2,.ptr 1 [] 0),(3,.ptr 2 [] 0),(25,.dat 23 (.lst a)),(26,.dat 3 (.int b)),(27,.dat 3 (.int c))],[.box 26 (.dat 26 d),.box 26 (.dat 26 e),.box 26 (.agg 26 [.dat 3 (.int f),.dat 3 (.int g),.dat 9 (.str h),.row 3,.nils 24]),.row 23 i],0⟩
def Lp(a:List Dt)(b c:Int)(d:Dt)(e f:Int)(g:ByteArray)(h i:List Dt):St:=⟨tsOf [(2,.ptr 0 [] 0),(3,.ptr 1 [] 0),(49,.dat 24 (.lst a)),(50,.dat 3 (.int b)),(51,.dat 3 (.int c))],[.box 26 (.dat 26 d),.box 26 (.agg 26 [.dat 3 (.int e),.dat 3 (.int f),.dat 9 (.str g),.row 2,.row 3]),.row 23 h,.row 24 i],0⟩
def apz(a:Dt)(b c:Int)(d:ByteArray)(e f:List Dt):St:=⟨tsOf [(2,.ptr 0 [] 0),(3,.ptr 1 [] 0)],[.box 26 (.dat 26 a),.box 26 (.agg 26 [.dat 3 (.int b),.dat 3 (.int c),.dat 9 (.str d),.row 2,.row 3]),.row 23 e,.row 24 f],0⟩
def ajL(a:Dt)(b c:Int)(d:ByteArray)(e:List Dt):St:=⟨tsOf [(2,.ptr 0 [] 0),(3,.ptr 1 [] 0)],[.box 26 (.dat 26 a),.box 26 (.agg 26 [.dat 3 (.int b),.dat 3 (.int c),.dat 9 (.str d),.row 2,.nils 24]),.row 23 e],0⟩
def apA(a b:Dt)(c d:Int)(e:ByteArray)(f:List Dt):St:=⟨tsOf [(1,.ptr 0 [] 0),(2,.ptr 1 [] 0),(3,.ptr 2 [] 0)],[.box 26 (.dat 26 a),.box 26 (.dat 26 b),.box 26 (.agg 26 [.dat 3 (.int c),.dat 3 (.int d),.dat 9 (.str e),.row 3,.nils 24]),.row 23 f],0⟩
def CY(a:List Dt)(b c:Int)(d:Dt)(e f:Int)(g:ByteArray)(h i:List Dt):St:=⟨tsOf [(2,.ptr 0 [] 0),(3,.ptr 1 [] 0),(49,.dat 24 (.lst a)),(50,.dat 3 (.int b)),(51,.dat 3 (.int c))],[.box 26 (.dat 26 d),.box 26 (.agg 26 [.dat 3 (.int e),.dat 3 (.int f),.dat 9 (.str g),.dat 23 (.lst h),.row 2]),.row 24 i],0⟩
def ajM(a:Dt)(b c:Int)(d:ByteArray)(e f:List Dt):St:=⟨tsOf [(2,.ptr 0 [] 0),(3,.ptr 1 [] 0)],[.box 26 (.dat 26 a),.box 26 (.agg 26 [.dat 3 (.int b),.dat 3 (.int c),.dat 9 (.str d),.dat 23 (.lst e),.row 2]),.row 24 f],0⟩
def ajN(a b:Dt):St:=⟨tsOf [(2,.ptr 0 [] 0),(3,.ptr 1 [] 0)],[.box 26 (.dat 26 a),.box 26 (.dat 26 b)],0⟩
def ajO(a b c:Dt):St:=⟨tsOf [(1,.ptr 0 [] 0),(2,.ptr 1 [] 0),(3,.ptr 2 [] 0)],[.box 26 (.dat 26 a),.box 26 (.dat 26 b),.box 26 (.dat 26 c)],0⟩
abbrev apB(m k:Nat)(a:Q56):Prop:=∀b c d e f g h i j,l38 jn m Y5 [] k (Lm b c d e f g h i j)=a b c d e f g h i j
theorem Jz m b a(n:apB m b a) c d e f h i j k l:e38 jn m apy [b] (Lm c d e f h i j k l)=yQ m (bK m) a c d e f h i j k l:=
 tq (g:=fun J=>jj J 1 5 b (Lm c d (wrap .i64 (e+1)) f h i j k l) (l38 J m Y5 [] b)) (by simp only[aM,n];rfl)
theorem JA m d a(n:apB m d a) e f b h i j k l c:e38 jn m ajK [d] (Lm e f b h i j k l c)=yR m (bK m) a e f b h i j k l c:=
 tq (g:=fun J=>(idx e b).bind fun o=>(bK m o).bind fun p=>(inL c b).bind fun q=>(c[b.toNat]?).bind fun r=>jj J 0 8 0 (Lm e f b h i j k l (List.set c b.toNat p)) (e38 J m apy [d])) (by simp only[aM,Jz m d a n];rfl)
abbrev apC(m k:Nat)(a:Q13):Prop:=∀b c d e f g h i j,l38 jn m GU [] k (Lp b c d e f g h i j)=a b c d e f g h i j
theorem JB m b a(n:apC m b a) c d e f h i j k l:e38 jn m aec [b] (Lp c d e f h i j k l)=yS m (bK m) a c d e f h i j k l:=
 tq (g:=fun J=>jj J 1 12 b (Lp c d (wrap .i64 (e+1)) f h i j k l) (l38 J m GU [] b)) (by simp only[aM,n];rfl)
theorem JC m d a(o:apC m d a) e f b h i j k l c:e38 jn m Y6 [d] (Lp e f b h i j k l c)=yT m (bK m) a e f b h i j k l c:=
 tq (g:=fun J=>(idx e b).bind fun n=>(bK m (fld n 1)).bind fun p=>(inL c b).bind fun q=>(c[b.toNat]?).bind fun r=>jj J 0 15 0 (Lp e f b h i j k l (List.set c b.toNat (agg [str (S n 0),p]))) (e38 J m aec [d])) (by simp only[aM,JB m d a o];rfl)
theorem JD m f a b c d e:e38 jn m [1,1,1,1] [] (apz f a b c d e)=yU m (bK m) f a b c d e:=
 tq (g:=fun J=>some (agg [int a,int b,str c,lst d,lst e])) (by rfl)
theorem zR m:∀a k b c d e f h i j,l38 jn m GU [] a (Lp k b c d e f h i j)=nZ m (bK m) a k b c d e f h i j
 |0,_,_,_,_,_,_,_,_,_=>rfl
 |a+1,k,b,c,d,e,f,h,i,j=>
  tl (g:=fun J=>cond (c<b) (jj J 0 13 0 (Lp k b c d e f h i j) (e38 J m Y6 [a])) (jj J 0 16 0 (apz d e f h i j) (e38 J m [1,1,1,1] []))) (by simp only[aM,JC m a (nZ m (bK m) a) (zR m a),JD m];rfl)
theorem GV m e a b c d:e38 jn m [1,1,1,1] [] (ajL e a b c d)=Cy m (bK m) e a b c d:=
 tq (g:=fun J=>some (agg [int a,int b,str c,lst d,lst []])) (by rfl)
theorem JE m a b c d e f:e38 jn m [1,1,1] [] (apA a b c d e f)=yV m (bK m) a b c d e f:=
 tq (g:=fun J=>bif 0<((L a 4).length:Int)then(mkL ((L a 4).length:Int) ((L a 4).length:Int) DN).bind fun h=>jj J 1 12 (succ m) (Lp (L a 4) ((L a 4).length:Int) 0 b c d e f h) (l38 J m GU [] (succ m))else jj J 0 16 0 (ajL b c d e f) (e38 J m [1,1,1,1] [])) (by simp only[aM,zR m,GV m];rfl)
theorem zS m:∀a k b c d e f h i j,l38 jn m Y5 [] a (Lm k b c d e f h i j)=lC m (bK m) a k b c d e f h i j
 |0,_,_,_,_,_,_,_,_,_=>rfl
 |a+1,k,b,c,d,e,f,h,i,j=>
  tl (g:=fun J=>cond (c<b) (jj J 0 6 0 (Lm k b c d e f h i j) (e38 J m ajK [a])) (jj J 0 9 0 (apA d e f h i j) (e38 J m [1,1,1] []))) (by simp only[aM,JA m a (lC m (bK m) a) (zS m a),JE m];rfl)
abbrev ajP(m b:Nat)(a:Q13):Prop:=∀c d e f g h i j k,l38 jn m GU [] b (CY c d e f g h i j k)=a c d e f g h i j k
theorem GX m b a(c:ajP m b a) d e f h i j k l n:e38 jn m aec [b] (CY d e f h i j k l n)=wB m (bK m) a d e f h i j k l n:=
 tq (g:=fun J=>jj J 1 12 b (CY d e (wrap .i64 (f+1)) h i j k l n) (l38 J m GU [] b)) (by simp only[aM,c];rfl)
theorem GY m b a(h:ajP m b a) f i c j k l n o d:e38 jn m Y6 [b] (CY f i c j k l n o d)=wC m (bK m) a f i c j k l n o d:=
 tq (g:=fun J=>(idx f c).bind fun e=>(bK m (fld e 1)).bind fun p=>(inL d c).bind fun q=>(d[c.toNat]?).bind fun r=>jj J 0 15 0 (CY f i c j k l n o (List.set d c.toNat (agg [str (S e 0),p]))) (e38 J m aec [b])) (by simp only[aM,GX m b a h];rfl)
theorem GZ m f a b c d e:e38 jn m [1,1,1,1] [] (ajM f a b c d e)=wD m (bK m) f a b c d e:=
 tq (g:=fun J=>some (agg [int a,int b,str c,lst d,lst e])) (by rfl)
theorem xZ m:∀a k b c d e f h i j,l38 jn m GU [] a (CY k b c d e f h i j)=lV m (bK m) a k b c d e f h i j
 |0,_,_,_,_,_,_,_,_,_=>rfl
 |a+1,k,b,c,d,e,f,h,i,j=>
  tl (g:=fun J=>cond (c<b) (jj J 0 13 0 (CY k b c d e f h i j) (e38 J m Y6 [a])) (jj J 0 16 0 (ajM d e f h i j) (e38 J m [1,1,1,1] []))) (by simp only[aM,GY m a (lV m (bK m) a) (xZ m a),GZ m];rfl)
theorem G5 m b a:e38 jn m [1,1,1,1] [] (ajN b a)=Cz m (bK m) b a:=
 tq (g:=fun J=>some a) (by rfl)
theorem G6 m a c b:e38 jn m [1,1,1] [] (ajO a c b)=CB m (bK m) a c b:=
 tq (g:=fun J=>bif 0<((L a 4).length:Int)then(mkL ((L a 4).length:Int) ((L a 4).length:Int) DN).bind fun d=>jj J 1 12 (succ m) (CY (L a 4) ((L a 4).length:Int) 0 c (I b 0) (I b 1) (S b 2) (L b 3) d) (l38 J m GU [] (succ m))else jj J 0 16 0 (ajN c b) (e38 J m [1,1,1,1] [])) (by simp only[aM,xZ m,G5 m];rfl)
theorem Rl m a:e38 jn m [] [] ⟨[.dat 26 a],[],0⟩=bK (m+1) a:=
 tq (g:=fun J=>bif 0<((L a 3).length:Int)then(mkL ((L a 3).length:Int) ((L a 3).length:Int) aj).bind fun b=>jj J 1 5 (succ m) (Lm (L a 3) ((L a 3).length:Int) 0 a aj (I a 0) (I a 1) (S a 2) b) (l38 J m Y5 [] (succ m))else jj J 0 9 0 (ajO a aj (agg [int (I a 0),int (I a 1),str (S a 2),lst [],lst []])) (e38 J m [1,1,1] [])) (by simp only[aM,zS m,G6 m];rfl)
def e42(J:Q0)(m:Nat):=evAt Tryz.prog env (ct m) J (m+1) 181 14 Tryz.f181 d22
theorem AU m b c a d:e42 jn m [] [] ⟨[.dat 108 b,.dat 32 c,.dat 80 a,.dat 26 d],[],0⟩=jh (m+1) b c a d:=
 tq (g:=fun J=>some (agg [int (I a 0),int (I a 1),int (wrap .i64 (I a 2+1)),fld a 3,lst (L a 4),lst (L a 5)])) (by rfl)
def ajQ:List Nat:=[1,1,1,0,1,0]
def e44(J:Q0)(m:Nat):=evAt Tryz.prog env (ct m) J (m+1) 46 32 Tryz.f46 d25
def l44(J:Q0)(m:Nat):=loopAt Tryz.prog env (ct m) J (m+1) 46 32 Tryz.f46 d25
def ajR(a:List Dt)(b c:Int)(d:Dt)(e f:Int)(g:ByteArray)(h i:List Dt):St:=⟨tsOf [(2,.ptr 0 [] 0),(3,.ptr 1 [] 0),(13,.dat 24 (.lst a)),(14,.dat 3 (.int b)),(15,.dat 3 (.int c))],[.box 26 (.dat 26 d),.box 26 (.agg 26 [.dat 3 (.int e),.dat 3 (.int f),.dat 9 (.str g),.dat 23 (.lst h),.row 2]),.row 24 i],0⟩
theorem sQ m:∀a c d b k e f h i j,l44 jn m ajQ [] a (ajR c d b k e f h i j)=qM m (dF m) (eF m) a c d b k e f h i j
 |0,_,_,_,_,_,_,_,_,_=>rfl
 |a+1,c,d,b,k,e,f,h,i,j=>
  tl (g:=fun J=>cond (b<d) ((idx c b).bind fun l=>(dF m (fld l 1)).bind fun n=>(app j [agg [str (S l 0),n]]).bind fun o=>jj J 1 4 a (ajR c d (wrap .i64 (b+1)) k e f h i o) (l44 J m ajQ [] a)) (some (agg [int e,int f,str h,lst i,lst j]))) (by simp only[aM,(sQ m a)];rfl)
theorem Fj m a:e44 jn m [] [] ⟨[.dat 26 a],[],0⟩=dF (m+1) a:=
 tq (g:=fun J=>(eF m (L a 3)).bind fun b=>jj J 1 4 (succ m) (ajR (L a 4) ((L a 4).length:Int) 0 aj (I a 0) (I a 1) (S a 2) b []) (l44 J m ajQ [] (succ m))) (by simp only[aM,sQ m];rfl)
def ajS:List Nat:=[1,1,1,0,1,0]
def e58(J:Q42)(m:Nat):=evAt Tryz.prog env (ct m) J (m+1) 56 26 Tryz.f56 d58
def l58(J:Q42)(m:Nat):=loopAt Tryz.prog env (ct m) J (m+1) 56 26 Tryz.f56 d58
def ajT(a:List Dt)(b c:Int)(d:List Dt):St:=⟨tsOf [(3,.row 0),(12,.dat 23 (.lst a)),(13,.dat 3 (.int b)),(14,.dat 3 (.int c))],[.row 23 d],0⟩
theorem uU m:∀c d e a b,l58 jn m ajS [] c (ajT d e a b)=rR m (dF m) c d e a b
 |0,_,_,_,_=>rfl
 |c+1,d,e,a,b=>
  tl (g:=fun J=>cond (a<e) ((idx d a).bind fun f=>(dF m f).bind fun h=>(inL b a).bind fun i=>(b[a.toNat]?).bind fun j=>jj J 1 5 c (ajT d e (wrap .i64 (a+1)) (List.set b a.toNat h)) (l58 J m ajS [] c)) (some b)) (by simp only[aM,(uU m c)];rfl)
theorem G7 m a:e58 jn m [] [] ⟨[.dat 23 (.lst a)],[],0⟩=eF (m+1) a:=
 tq (g:=fun J=>bif (a.length:Int)==0 then some []else(mkL (a.length:Int) (a.length:Int) aj).bind fun b=>jj J 1 5 (succ m) (ajT a (a.length:Int) 0 b) (l58 J m ajS [] (succ m))) (by simp only[aM,uU m];rfl)
def e41(J:Q0)(m:Nat):=evAt Tryz.prog env (ct m) J (m+1) 63 16 Tryz.f63 d22
theorem G8 m a:e41 jn m [] [] ⟨[.dat 80 a],[],0⟩=oN (m+1) a:=
 tq (g:=fun J=>(dF m (fld a 3)).bind fun b=>(eF m (L a 4)).bind fun c=>(eF m (L a 5)).bind fun d=>some (agg [int (I a 0),int (I a 1),int (I a 2),b,lst c,lst d])) (by rfl)
def e23(J:Q0)(m:Nat):=evAt Tryz.prog env (ct m) J (m+1) 43 25 Tryz.f43 d22
theorem V7 m a b c:e23 jn m [] [] ⟨[.dat 32 a,.dat 80 b,.dat 26 c],[],0⟩=vP (m+1) a b c:=
 tq (g:=fun J=>(oN m b).bind fun d=>cond (I a 1==2) ((jh m (agg []) a d c).bind fun e=>some e) none) (by rfl)
def aed:List Nat:=[1,1,0,1,0]
def at6:List Nat:=[1,1,0,1,0,0,1]
def aee:List Nat:=at6++[0,0,1]
def e47(J:Q1)(m:Nat):=evAt Tryz.prog env (ct m) J (m+1) 49 39 Tryz.f49 d32
def l47(J:Q1)(m:Nat):=loopAt Tryz.prog env (ct m) J (m+1) 49 39 Tryz.f49 d32
def aef(a:ByteArray)(b:Int):St:=⟨tsOf [(0,.dat 9 (.str a)),(3,.dat 3 (.int b))],[],0⟩
def aeg(a:ByteArray)(b:Int)(c:Bool):St:=⟨tsOf [(0,.dat 9 (.str a)),(3,.dat 3 (.int b)),(38,.dat 4 (.bool c))],[],0⟩
def aeh(a:ByteArray)(b:Bool):St:=⟨tsOf [(0,.dat 9 (.str a)),(16,.dat 4 (.bool b))],[],0⟩
abbrev at7(m d:Nat)(a:Q11):Prop:=∀b c,l47 jn m aed [] d (aef b c)=a b c
theorem JF m b a(f:at7 m b a) c d e:e47 jn m aee [b] (aeg c d e)=iE m a c d e:=
 tq (g:=fun J=>cond e (some false) (jj J 1 4 b (aef c (wrap .i64 (d+1))) (l47 J m aed [] b))) (by simp only[aM,f];rfl)
theorem zT m:∀c a b,l47 jn m aed [] c (aef a b)=iF m c a b
 |0,_,_=>rfl
 |c+1,a,b=>
  tl (g:=fun J=>bif b<(a.size:Int)then(idxS a b).bind fun d=>cond (d<33) (jj J 0 7 0 (aeg a b true) (e47 J m aee [c])) ((idxS a b).bind fun e=>cond (126<e) (jj J 0 7 0 (aeg a b true) (e47 J m aee [c])) ((idxS a b).bind fun f=>jj J 0 7 0 (aeg a b (f==46)) (e47 J m aee [c])))else some true) (by simp only[aM,JF m c (iF m c) (zT m c)];rfl)
theorem JG m a b:e47 jn m [1,0,1] [] (aeh a b)=iG m a b:=
 tq (g:=fun J=>cond b (some false) (jj J 1 4 (succ m) (aef a 0) (l47 J m aed [] (succ m)))) (by simp only[aM,zT m];rfl)
theorem Rm m a:e47 jn m [] [] ⟨[.dat 9 (.str a)],[],0⟩=ig (m+1) a:=
 tq (g:=fun J=>cond ((a.size:Int)<1) (jj J 0 2 0 (aeh a true) (e47 J m [1,0,1] [])) (bif 32<(a.size:Int)then jj J 0 2 0 (aeh a true) (e47 J m [1,0,1] [])else(idxS a 0).bind fun b=>jj J 0 2 0 (aeh a (b==36)) (e47 J m [1,0,1] []))) (by simp only[aM,JG m];rfl)
def ajU:List Nat:=[1,1,0,1,0]
def e31(J:Q1)(m:Nat):=evAt Tryz.prog env (ct m) J (m+1) 30 24 Tryz.f30 d32
def l31(J:Q1)(m:Nat):=loopAt Tryz.prog env (ct m) J (m+1) 30 24 Tryz.f30 d32
def ajV(a:List Dt)(b:Int):St:=⟨tsOf [(0,.dat 22 (.lst a)),(3,.dat 3 (.int b))],[],0⟩
def ajW(a:List Dt)(b:Bool):St:=⟨tsOf [(0,.dat 22 (.lst a)),(11,.dat 4 (.bool b))],[],0⟩
theorem yc m:∀a b c,l31 jn m ajU [] a (ajV b c)=lW m a b c
 |0,_,_=>rfl
 |a+1,b,c=>
  tl (g:=fun J=>bif c<(b.length:Int)then(idx b c).bind fun d=>(ig m (toStr d)).bind fun e=>cond (!e) (some false) (jj J 1 4 a (ajV b (wrap .i64 (c+1))) (l31 J m ajU [] a))else some true) (by simp only[aM,(yc m a)];rfl)
theorem G9 m a b:e31 jn m [1,0,1] [] (ajW a b)=lX m a b:=
 tq (g:=fun J=>cond b (some false) (jj J 1 4 (succ m) (ajV a 0) (l31 J m ajU [] (succ m)))) (by simp only[aM,yc m];rfl)
theorem Oj m a:e31 jn m [] [] ⟨[.dat 22 (.lst a)],[],0⟩=fZ (m+1) a:=
 tq (g:=fun J=>cond ((a.length:Int)<1) (jj J 0 2 0 (ajW a true) (e31 J m [1,0,1] [])) (jj J 0 2 0 (ajW a (decide (16<(a.length:Int)))) (e31 J m [1,0,1] []))) (by simp only[aM,G9 m];rfl)
def aei:List Nat:=[1,1,0,1,0]
def aua:List Nat:=[1,1,0,1,0,0,1]
def aub:List Nat:=aua++[0,0,1]
def auc:List Nat:=aub++[1]
def ajX:List Nat:=auc++[0]
def e13(J:Q2)(m:Nat):=evAt Tryz.prog env (ct m) J (m+1) 14 37 Tryz.f14 d13
def l13(J:Q2)(m:Nat):=loopAt Tryz.prog env (ct m) J (m+1) 14 37 Tryz.f14 d13
def ajY(a:List Dt)(b c:Int):St:=⟨tsOf [(0,.dat 30 (.lst a)),(3,.dat 3 (.int b)),(4,.dat 3 (.int c))],[],0⟩
def aej(a:List Dt)(b:Int):St:=⟨tsOf [(0,.dat 30 (.lst a)),(3,.dat 3 (.int b))],[],0⟩
abbrev aud(m d:Nat)(a:Q26):Prop:=∀b c,l13 jn m aei [] d (aej b c)=a b c
theorem yg m d a(h:aud m d a):∀e b c f,l13 jn m ajX [d] e (ajY b c f)=wE m a e b c f
 |0,_,_,_=>rfl
 |e+1,b,c,f=>
  tl (g:=fun J=>cond (f<c) ((idx b c).bind fun i=>(idx b f).bind fun j=>(wz m (L i 0) (L j 0)).bind fun k=>cond k (some 12) (jj J 1 9 e (ajY b c (wrap .i64 (f+1))) (l13 J m ajX [d] e))) (jj J 1 4 d (aej b (wrap .i64 (c+1))) (l13 J m aei [] d))) (by simp only[aM,(yg m d a h e),h];rfl)
theorem yh m:∀a b c,l13 jn m aei [] a (aej b c)=rT m a b c
 |0,_,_=>rfl
 |a+1,b,c=>
  tl (g:=fun J=>bif c<(b.length:Int)then(idx b c).bind fun d=>(fZ m (L d 0)).bind fun e=>cond (!e) (some 10) (jj J 1 9 (succ m) (ajY b c 0) (l13 J m ajX [a] (succ m)))else some 0) (by simp only[aM,yg m a (rT m a) (yh m a)];rfl)
theorem Ol m a:e13 jn m [] [] ⟨[.dat 30 (.lst a)],[],0⟩=uR (m+1) a:=
 tq (g:=fun J=>cond (8<(a.length:Int)) (some 2) (jj J 1 4 (succ m) (aej a 0) (l13 J m aei [] (succ m)))) (by simp only[aM,yh m];rfl)
def e56(J:Q0)(m:Nat):=evAt Tryz.prog env (ct m) J (m+1) 87 2 Tryz.f87 d25
theorem AX m:e56 jn m [] [] ⟨[],[],0⟩=cB (m+1):=
 tq (g:=fun J=>some nC) (by rfl)
def e57(J:Q1)(m:Nat):=evAt Tryz.prog env (ct m) J (m+1) 105 6 Tryz.f105 d32
theorem V8 m a:e57 jn m [] [] ⟨[.dat 3 (.int a)],[],0⟩=qY (m+1) a:=
 tq (g:=fun J=>some (a !=a)) (by rfl)
def e39(J:Q2)(m:Nat):=evAt Tryz.prog env (ct m) J (m+1) 78 20 Tryz.f78 d28
theorem Om m a b:e39 jn m [] [] ⟨[.dat 3 (.int a),.dat 3 (.int b)],[],0⟩=eG (m+1) a b:=
 tq (g:=fun J=>(qY m a).bind fun d=>(qY m b).bind fun c=>cond d (cond c (some 0) (some (-1))) (cond c (some 1) (cond (a<b) (some (-1)) (cond (b<a) (some 1) (some 0))))) (by rfl)
def Oo:List Nat:=[1,1,0,1,0,1]
def JH:List Nat:=Oo++[1,1]
def aue:List Nat:=JH++[1,1,0,0,1]
def ajZ:List Nat:=aue++[0]
def arz:List Nat:=JH++[1,1,1,1,0,0,1]
def aj0:List Nat:=arz++[0]
def e20(J:Q2)(m:Nat):=evAt Tryz.prog env (ct m) J (m+1) 60 126 Tryz.f60 d28
def l20(J:Q2)(m:Nat):=loopAt Tryz.prog env (ct m) J (m+1) 60 126 Tryz.f60 d28
def aj1(a b:Int)(c d:Dt):St:=⟨tsOf [(2,.ptr 0 [] 0),(3,.ptr 1 [] 0),(48,.dat 3 (.int a)),(49,.dat 3 (.int b))],[.box 26 (.dat 26 c),.box 26 (.dat 26 d)],0⟩
def abV(a b:Int)(c d:Dt):St:=⟨tsOf [(2,.ptr 0 [] 0),(3,.ptr 1 [] 0),(82,.dat 3 (.int a)),(83,.dat 3 (.int b))],[.box 26 (.dat 26 c),.box 26 (.dat 26 d)],0⟩
def aek(a:Int)(b:Bool)(c d:Dt):St:=⟨tsOf [(2,.ptr 0 [] 0),(3,.ptr 1 [] 0),(21,.dat 3 (.int a)),(31,.dat 4 (.bool b))],[.box 26 (.dat 26 c),.box 26 (.dat 26 d)],0⟩
def ael(a:Int)(b:Bool)(c d:Dt):St:=⟨tsOf [(2,.ptr 0 [] 0),(3,.ptr 1 [] 0),(21,.dat 3 (.int a)),(22,.dat 4 (.bool b))],[.box 26 (.dat 26 c),.box 26 (.dat 26 d)],0⟩
theorem vE m:∀b e a c d,l20 jn m ajZ [] b (aj1 e a c d)=lY m (bg m) b e a c d
 |0,_,_,_,_=>rfl
 |b+1,e,a,c,d=>
  tl (g:=fun J=>bif a<e then(idx (L c 3) a).bind fun h=>(idx (L d 3) a).bind fun i=>(bg m h i).bind fun f=>cond (f !=0) (some f) (jj J 1 14 b (aj1 e (wrap .i64 (a+1)) c d) (l20 J m ajZ [] b))else(eG m ((L c 3).length:Int) ((L d 3).length:Int)).bind fun j=>some j) (by simp only[aM,(vE m b)];rfl)
theorem vF m:∀d e a b c,l20 jn m aj0 [] d (abV e a b c)=lZ m (bg m) d e a b c
 |0,_,_,_,_=>rfl
 |d+1,e,a,b,c=>
  tl (g:=fun J=>bif a<e then(idx (L b 4) a).bind fun l=>(idx (L c 4) a).bind fun n=>(strings_Compare (S l 0) (S n 0)).bind fun k=>cond (k !=0) (some k) ((idx (L b 4) a).bind fun h=>(idx (L c 4) a).bind fun i=>(bg m (fld h 1) (fld i 1)).bind fun f=>cond (f !=0) (some f) (jj J 1 23 d (abV e (wrap .i64 (a+1)) b c) (l20 J m aj0 [] d)))else(eG m ((L b 4).length:Int) ((L c 4).length:Int)).bind fun j=>some j) (by simp only[aM,(vF m d)];rfl)
theorem Eh m c d a b:e20 jn m JH [] (aek c d a b)=l5 m (bg m) c d a b:=
 tq (g:=fun J=>cond d ((strings_Compare (S a 2) (S b 2)).bind fun e=>some e) (cond (c==6) (jj J 1 14 (succ m) (aj1 (cond (((L b 3).length:Int)<((L a 3).length:Int)) ((L b 3).length:Int) ((L a 3).length:Int)) 0 a b) (l20 J m ajZ [] (succ m))) (cond (c==5) (jj J 1 23 (succ m) (abV (cond (((L b 4).length:Int)<((L a 4).length:Int)) ((L b 4).length:Int) ((L a 4).length:Int)) 0 a b) (l20 J m aj0 [] (succ m))) (some 0)))) (by simp only[aM,vE m,vF m];rfl)
theorem Ei m a d b c:e20 jn m Oo [] (ael a d b c)=l7 m (bg m) a d b c:=
 tq (g:=fun J=>cond d ((eG m (I b 1) (I c 1)).bind fun e=>some e) (cond (a==4) (jj J 0 11 0 (aek a (a==4) b c) (e20 J m JH [])) (cond (a==7) (jj J 0 11 0 (aek a (a==7) b c) (e20 J m JH [])) (jj J 0 11 0 (aek a (a==8) b c) (e20 J m JH []))))) (by simp only[aM,Eh m];rfl)
theorem JJ m a b:e20 jn m [] [] ⟨[.dat 26 a,.dat 26 b],[],0⟩=bg (m+1) a b:=
 tq (g:=fun J=>cond (I a 0 !=I b 0) ((eG m (I a 0) (I b 0)).bind fun c=>some c) (cond (I a 0==3) (jj J 0 7 0 (ael (I a 0) (I a 0==3) a b) (e20 J m Oo [])) (cond (I a 0==9) (jj J 0 7 0 (ael (I a 0) (I a 0==9) a b) (e20 J m Oo [])) (jj J 0 7 0 (ael (I a 0) (I a 0==10) a b) (e20 J m Oo []))))) (by simp only[aM,Ei m];rfl)
def e19(J:Q51)(m:Nat):=evAt Tryz.prog env (ct m) J (m+1) 59 15 Tryz.f59 d19
theorem arA m b c a d e f:e19 jn m [] [] ⟨[.dat 3 (.int b),.dat 26 c,.ptr 0 [] 0],[.box 56 (.ptr 1 [] 0),.box 76 (.agg 76 [.row 2,.row 3,.row 5]),.row 23 a,(.rowD 73 78 none 4 d none),(.tok 78 e),.row 74 f],6⟩=i19 (m+1) b c a d e f:=
 tq (g:=fun J=>(inL a b).bind fun j=>(a[b.toNat]?).bind fun h=>(bg m h c).bind fun i=>some (i,a,d,e,f)) (by rfl)
def aem:List Nat:=[1,1,1,0,0]
def e18(J:Q84)(m:Nat):=evAt Tryz.prog env (ct m) J (m+1) 58 49 Tryz.f58 d18
def l18(J:Q84)(m:Nat):=loopAt Tryz.prog env (ct m) J (m+1) 58 49 Tryz.f58 d18
def aen(a b c:Int)(d e f g:List Dt)(h:Dt):St:=⟨tsOf [(0,.row 0),(2,(.fn 59 [.ptr 1 [] 0])),(4,.ptr 6 [] 0),(8,.dat 3 (.int a)),(9,.dat 3 (.int b)),(10,.dat 3 (.int c))],[.row 74 d,.box 56 (.ptr 2 [] 0),.box 76 (.agg 76 [.row 3,.row 4,.row 0]),.row 23 e,(.rowD 73 78 none 5 f none),(.tok 78 g),.box 26 (.dat 26 h)],6⟩
theorem TH m:∀e h a c b i j k f,l18 jn m aem [] e (aen h a c b i j k f)=Jt m e h a c b i j k f
 |0,_,_,_,_,_,_,_,_=>rfl
 |e+1,h,a,c,b,i,j,k,f=>
  tl (g:=fun J=>cond (a<c) ((inL b (wrap .i64 (shrI IntKind.u64 (wrap IntKind.u64 (wrap .i64 (a+c))) 1))).bind fun p=>(b[(wrap .i64 (shrI IntKind.u64 (wrap IntKind.u64 (wrap .i64 (a+c))) 1)).toNat]?).bind fun n=>(i19 m (toInt n) f i j k b).bind fun d=>cond (d.1<0) (jj J 1 3 e (aen h (wrap .i64 (wrap .i64 (shrI IntKind.u64 (wrap IntKind.u64 (wrap .i64 (a+c))) 1)+1)) c d.2.2.2.2 d.2.1 d.2.2.1 d.2.2.2.1 f) (l18 J m aem [] e)) (jj J 1 3 e (aen h a (wrap .i64 (shrI IntKind.u64 (wrap IntKind.u64 (wrap .i64 (a+c))) 1)) d.2.2.2.2 d.2.1 d.2.2.1 d.2.2.2.1 f) (l18 J m aem [] e))) (cond (a<h) ((inL b a).bind fun q=>(b[a.toNat]?).bind fun o=>(i19 m (toInt o) f i j k b).bind fun l=>some (a,l.1==0,l.2.2.2.2,l.2.1,l.2.2.1,l.2.2.2.1)) (some (a,false,b,i,j,k)))) (by simp only[aM,(TH m e)];rfl)
theorem arB m b a c d e:e18 jn m [] [] ⟨[.row 0,.dat 26 b,(.fn 59 [.ptr 1 [] 0])],[.row 74 a,.box 56 (.ptr 2 [] 0),.box 76 (.agg 76 [.row 3,.row 4,.row 0]),.row 23 c,(.rowD 73 78 none 5 d none),(.tok 78 e)],6⟩=i18 (m+1) b a c d e:=
 tq (g:=fun J=>jj J 1 3 (succ m) (aen (a.length:Int) 0 (a.length:Int) a c d e b) (l18 J m aem [] (succ m))) (by simp only[aM,TH m];rfl)
def Y7:List Nat:=[1,1,1,1,1,1]
def apD:List Nat:=Y7++[1,1]
def auf:List Nat:=Y7++[1,0,1]
def Y8:List Nat:=auf++[0]
def aj2:List Nat:=Y8++[0,1,1]
def apE:List Nat:=aj2++[1]
def e17(J:Q51)(m:Nat):=evAt Tryz.prog env (ct m) J (m+1) 38 99 Tryz.f38 d17
def l17(J:Q51)(m:Nat):=loopAt Tryz.prog env (ct m) J (m+1) 38 99 Tryz.f38 d17
def Lr(a:Int)(b:List Dt)(c d:Int)(e f g h i:List Dt):St:=⟨tsOf [(0,.ptr 0 [] 0),(3,.ptr 7 [] 0),(9,.dat 3 (.int a)),(10,.row 8),(75,.dat 33 (.lst b)),(76,.dat 3 (.int c)),(77,.dat 3 (.int d))],[.box 76 (.agg 76 [.row 5,.row 2,.row 6]),.gone,(.rowD 73 78 none 3 e none),(.tok 78 f),.gone,.row 23 g,.row 74 h,.box 56 (.ptr 0 [] 0),.row 78 i],5⟩
def apF(a:Int)(b c d e f:List Dt):St:=⟨tsOf [(0,.ptr 0 [] 0),(3,.ptr 7 [] 0),(9,.dat 3 (.int a)),(10,.row 8)],[.box 76 (.agg 76 [.row 5,.row 2,.row 6]),.gone,(.rowD 73 78 none 3 b none),(.tok 78 c),.gone,.row 23 d,.row 74 e,.box 56 (.ptr 0 [] 0),.row 78 f],5⟩
def aj3(a:Int)(b c d e:List Dt)(f:Dt):St:=⟨tsOf [(0,.ptr 0 [] 0),(3,.ptr 7 [] 0),(4,.ptr 8 [] 0),(9,.dat 3 (.int a))],[.box 76 (.agg 76 [.row 5,.row 2,.row 6]),.gone,(.rowD 73 78 none 3 b none),(.tok 78 c),.gone,.row 23 d,.row 74 e,.box 56 (.ptr 0 [] 0),.box 35 (.dat 35 f)],5⟩
def apG(a:Int)(b c d e:List Dt)(f g:Dt):St:=⟨tsOf [(0,.ptr 0 [] 0),(3,.ptr 5 [] 0),(4,.ptr 6 [] 0),(5,.ptr 7 [] 0),(7,.dat 3 (.int a))],[.box 76 (.agg 76 [.row 1,.row 2,.row 4]),.row 23 b,(.rowD 73 78 none 3 c none),(.tok 78 d),.row 74 e,.box 56 (.ptr 0 [] 0),.box 35 (.dat 35 f),.box 26 (.dat 26 g)],5⟩
abbrev apH(m k:Nat)(a:Q58):Prop:=∀b c d e f g h i j,l17 jn m Y8 [] k (Lr b c d e f g h i j)=a b c d e f g h i j
theorem agP m b a(n:apH m b a) c d e f h i j k l:e17 jn m apE [b] (Lr c d e f h i j k l)=aiL m a c d e f h i j k l:=
 tq (g:=fun J=>jj J 1 12 b (Lr c d e (wrap .i64 (f+1)) h i j k l) (l17 J m Y8 [] b)) (by simp only[aM,n];rfl)
theorem agQ m d a(n:apH m d a) f e h b i j k l c:e17 jn m aj2 [d] (Lr f e h b i j k l c)=abF m a f e h b i j k l c:=
 tq (g:=fun J=>(idx e b).bind fun o=>(qX m o).bind fun p=>(inL c b).bind fun q=>(c[b.toNat]?).bind fun r=>jj J 0 15 0 (Lr f e h b i j k l (List.set c b.toNat p)) (e17 J m apE [d])) (by simp only[aM,agP m d a n];rfl)
theorem agR m b a c d e f:e17 jn m apD [] (apF b a c d e f)=abG m b a c d e f:=
 tq (g:=fun J=>cond (Bool.and true (Bool.and true (Bool.and true (Bool.and true (Bool.and true (Bool.and true (Bool.and true (Nat.ble (a.length+1) 137438953472)))))))) (some (b,d,a++[bool true],List.set (c++[lst []]) a.length (lst f),e)) none) (by rfl)
theorem TK m:∀a b k c d e f h i j,l17 jn m Y8 [] a (Lr b k c d e f h i j)=CG m a b k c d e f h i j
 |0,_,_,_,_,_,_,_,_,_=>rfl
 |a+1,b,k,c,d,e,f,h,i,j=>
  tl (g:=fun J=>cond (d<c) (jj J 0 13 0 (Lr b k c d e f h i j) (e17 J m aj2 [a])) (jj J 0 16 0 (apF b e f h i j) (e17 J m apD []))) (by simp only[aM,agQ m a (CG m a) (TK m a),agR m];rfl)
theorem agS m b c d e f a:e17 jn m Y7 [] (aj3 b c d e f a)=VW m b c d e f a:=
 tq (g:=fun J=>(mkL ((L a 1).length:Int) ((L a 1).length:Int) ad6).bind fun h=>jj J 1 12 (succ m) (Lr b (L a 1) ((L a 1).length:Int) 0 c d e f h) (l17 J m Y8 [] (succ m))) (by simp only[aM,TK m];rfl)
theorem agT m h a c d i e f:e17 jn m [1,1,1] [] (apG h a c d i e f)=abH m h a c d i e f:=
 tq (g:=fun J=>(lu h i [int (a.length:Int)]).bind fun j=>same ((app a [f]).bind fun k=>jj J 0 10 0 (aj3 (a.length:Int) c d k j e) (e17 J m Y7 [])) ((app a [aj]).bind fun b=>(inL b (a.length:Int)).bind fun l=>(b[(a.length:Int).toNat]?).bind fun n=>jj J 0 10 0 (aj3 (a.length:Int) c d (List.set b (a.length:Int).toNat f) j e) (e17 J m Y7 []))) (by simp only[aM,agS m];rfl)
theorem arC m c b d e f h:e17 jn m [] [] ⟨[.ptr 0 [] 0,.dat 35 c,.dat 26 b],[.box 76 (.agg 76 [.row 1,.row 2,.row 4]),.row 23 d,(.rowD 73 78 none 3 e none),(.tok 78 f),.row 74 h],5⟩=i17 (m+1) c b d e f h:=
 tq (g:=fun J=>(i18 m b h d e f).bind fun a=>cond a.2.1 ((inL a.2.2.1 a.1).bind fun j=>(a.2.2.1[(a.1).toNat]?).bind fun i=>some (toInt i,a.2.2.2.1,a.2.2.2.2.1,a.2.2.2.2.2,a.2.2.1)) (jj J 0 4 0 (apG a.1 a.2.2.2.1 a.2.2.2.2.1 a.2.2.2.2.2 a.2.2.1 c b) (e17 J m [1,1,1] []))) (by simp only[aM,agT m];rfl)
def e59(J:Q0)(m:Nat):=evAt Tryz.prog env (ct m) J (m+1) 82 5 Tryz.f82 d25
theorem JK m a:e59 jn m [] [] ⟨[.dat 3 (.int a)],[],0⟩=qw (m+1) a:=
 tq (g:=fun J=>some (agg [int 3,int a,str (ByteArray.mk (List.toArray [])),lst [],lst []])) (by rfl)
def e43(J:Q0)(m:Nat):=evAt Tryz.prog env (ct m) J (m+1) 183 8 Tryz.f183 d25
theorem xG m b a:e43 jn m [] [] ⟨[.dat 108 b,.dat 80 a],[],0⟩=gH (m+1) b a:=
 tq (g:=fun J=>(qw m (I a 2)).bind fun c=>some c) (by rfl)
def e26(J:Q0)(m:Nat):=evAt Tryz.prog env (ct m) J (m+1) 23 19 Tryz.f23 d25
theorem L6 m a b:e26 jn m [] [] ⟨[.dat 32 a,.dat 80 b],[],0⟩=pV (m+1) a b:=
 tq (g:=fun J=>cond (I a 1==2) ((gH m (agg []) b).bind fun c=>(dF m c).bind fun d=>some d) none) (by rfl)
def aeo:List Nat:=[1,1,0,1,0]
def Y9:List Nat:=[1,1,0,1,0,0,1,1]
def apI:List Nat:=Y9++[1]
def apJ:List Nat:=Y9++[0,0,1,1,1]
def aug:List Nat:=Y9++[0,0,1,1,0,1]
def Za:List Nat:=aug++[0]
def aj4:List Nat:=Za++[0,1,1]
def apK:List Nat:=aj4++[1]
def e24(J:Q85)(m:Nat):=evAt Tryz.prog env (ct m) J (m+1) 22 68 Tryz.f22 d24
def l24(J:Q85)(m:Nat):=loopAt Tryz.prog env (ct m) J (m+1) 22 68 Tryz.f22 d24
def Ls(d e f:Int)(g:List Dt)(h i:Int)(j k l m:List Dt)(a:Dt)(b c:List Dt):St:=⟨tsOf [(0,.ptr 0 [] 0),(2,.fn 23 []),(4,.ptr 9 [] 0),(7,.row 10),(8,.dat 3 (.int d)),(10,.row 11),(22,.row 5),(23,.dat 3 (.int e)),(24,.dat 3 (.int f)),(34,.dat 33 (.lst g)),(35,.dat 3 (.int h)),(36,.dat 3 (.int i))],[.box 76 (.agg 76 [.row 5,.row 6,.row 8]),.gone,.gone,.gone,.gone,.row 23 j,(.rowD 73 78 none 7 k none),(.tok 78 l),.row 74 m,.box 35 (.dat 35 a),.row 23 b,.row 24 c],5⟩
def Lu(a b:Int)(c d e f:List Dt)(g:Dt)(h:List Dt):St:=⟨tsOf [(0,.ptr 0 [] 0),(2,.fn 23 []),(4,.ptr 9 [] 0),(7,.row 10),(22,.row 5),(23,.dat 3 (.int a)),(24,.dat 3 (.int b))],[.box 76 (.agg 76 [.row 5,.row 6,.row 8]),.gone,.gone,.gone,.gone,.row 23 c,(.rowD 73 78 none 7 d none),(.tok 78 e),.row 74 f,.box 35 (.dat 35 g),.row 23 h],5⟩
def apL(a b c:Int)(d e f g:List Dt)(h:Dt)(i j:List Dt):St:=⟨tsOf [(0,.ptr 0 [] 0),(2,.fn 23 []),(4,.ptr 9 [] 0),(7,.row 10),(8,.dat 3 (.int a)),(10,.row 11),(22,.row 5),(23,.dat 3 (.int b)),(24,.dat 3 (.int c))],[.box 76 (.agg 76 [.row 5,.row 6,.row 8]),.gone,.gone,.gone,.gone,.row 23 d,(.rowD 73 78 none 7 e none),(.tok 78 f),.row 74 g,.box 35 (.dat 35 h),.row 23 i,.row 24 j],5⟩
def apM(a b c d e:List Dt):St:=⟨tsOf [(7,.row 5)],[.box 76 (.agg 76 [.row 6,.row 7,.row 9]),.gone,.gone,.gone,.gone,.row 23 a,.row 23 b,(.rowD 73 78 none 8 c none),(.tok 78 d),.row 74 e],5⟩
abbrev TL(m j:Nat)(a:Q27):Prop:=∀b c d e f g h i,l24 jn m aeo [] j (Lu b c d e f g h i)=a b c d e f g h i
abbrev apN(m p q:Nat)(a:Q59):Prop:=∀e f g h i j k l n o b c d,l24 jn m Za [p] q (Ls e f g h i j k l n o b c d)=a e f g h i j k l n o b c d
theorem agU m f a(u:TL m f a) h b(t:apN m f h b) i j k l n o p q r s c d e:e24 jn m apK [f,h] (Ls i j k l n o p q r s c d e)=aiM m a b i j k l n o p q r s c d e:=
 tq (g:=fun J=>jj J 1 7 h (Ls i j k l n (wrap .i64 (o+1)) p q r s c d e) (l24 J m Za [f] h)) (by simp only[aM,t];rfl)
theorem agV m j a(y:TL m j a) k b(z:apN m j k b) c o p l q h r i n s d e f:e24 jn m aj4 [j,k] (Ls c o p l q h r i n s d e f)=abI m a b c o p l q h r i n s d e f:=
 tq (g:=fun J=>(idx l h).bind fun x=>(i[c.toNat]?).bind fun A=>cond (lkd Option.none A) ((n[c.toNat]?).bind fun t=>(inL i c).bind fun D=>cond (Nat.beq c.toNat c.toNat) ((i[c.toNat]?).bind fun C=>cond (lkd Option.none C) ((inL (toLst t) h).bind fun E=>((toLst t)[h.toNat]?).bind fun u=>(pV m x u).bind fun v=>(app f [agg [str (S x 0),v]]).bind fun w=>jj J 0 10 0 (Ls c o p l q h r i (List.set (List.set n c.toNat (lst [])) c.toNat (lst (toLst t))) s d e w) (e24 J m apK [j,k])) none) none) none) (by simp only[aM,agU m j a y k b z];rfl)
theorem agW m b a(l:TL m b a) c d e f h i j k:e24 jn m apI [b] (Lu c d e f h i j k)=abJ m a c d e f h i j k:=
 tq (g:=fun J=>jj J 1 3 b (Lu c (wrap .i64 (d+1)) e f h i j k) (l24 J m aeo [] b)) (by simp only[aM,l];rfl)
theorem agX m d a(o:TL m d a) b e f h i j k l c n:e24 jn m apJ [d] (apL b e f h i j k l c n)=abK m a b e f h i j k l c n:=
 tq (g:=fun J=>(inL c b).bind fun p=>(c[b.toNat]?).bind fun q=>jj J 0 12 0 (Lu e f h i j k l (List.set c b.toNat (agg [int 5,int 0,str (ByteArray.mk (List.toArray [])),lst [],lst n]))) (e24 J m apI [d])) (by simp only[aM,agW m d a o];rfl)
theorem TM m e a(s:TL m e a):∀f h i j r k l n o p q b c d,l24 jn m Za [e] f (Ls h i j r k l n o p q b c d)=CJ m a f h i j r k l n o p q b c d
 |0,_,_,_,_,_,_,_,_,_,_,_,_,_=>rfl
 |f+1,h,i,j,r,k,l,n,o,p,q,b,c,d=>
  tl (g:=fun J=>cond (l<k) (jj J 0 8 0 (Ls h i j r k l n o p q b c d) (e24 J m aj4 [e,f])) (jj J 0 11 0 (apL h i j n o p q b c d) (e24 J m apJ [e]))) (by simp only[aM,agV m e a s f (CJ m a f) (TM m e a s f),agX m e a s];rfl)
theorem agY m e a(l:TL m e a) f b c h i j d k:e24 jn m Y9 [e] (Lu f b c h i j d k)=abL m a f b c h i j d k:=
 tq (g:=fun J=>(inL c b).bind fun p=>(c[b.toNat]?).bind fun n=>(bS m n).bind fun o=>jj J 1 7 (succ m) (Ls b f b (L d 1) ((L d 1).length:Int) 0 c h i j d k [agg [str (ByteArray.mk (List.toArray [95,105,100])),o]]) (l24 J m Za [e] (succ m))) (by simp only[aM,TM m e a l];rfl)
theorem agZ m a b c d e:e24 jn m [1,1,1] [] (apM a b c d e)=abM m a b c d e:=
 tq (g:=fun J=>some (a,b,c,d,e)) (by rfl)
theorem TN m:∀a b c d e f h j i,l24 jn m aeo [] a (Lu b c d e f h j i)=Ju m a b c d e f h j i
 |0,_,_,_,_,_,_,_,_=>rfl
 |a+1,b,c,d,e,f,h,j,i=>
  tl (g:=fun J=>cond (c<b) (jj J 0 4 0 (Lu b c d e f h j i) (e24 J m Y9 [a])) (jj J 0 13 0 (apM i d e f h) (e24 J m [1,1,1] []))) (by simp only[aM,agY m a (Ju m a) (TN m a),agZ m];rfl)
theorem arD m b a c d e:e24 jn m [] [] ⟨[.ptr 0 [] 0,.dat 35 b,.fn 23 []],[.box 76 (.agg 76 [.row 1,.row 2,.row 4]),.row 23 a,(.rowD 73 78 none 3 c none),(.tok 78 d),.row 74 e],5⟩=i24 (m+1) b a c d e:=
 tq (g:=fun J=>(mkL (a.length:Int) (a.length:Int) aj).bind fun f=>jj J 1 3 (succ m) (Lu (a.length:Int) 0 a c d e b f) (l24 J m aeo [] (succ m))) (by simp only[aM,TN m];rfl)
def e60(J:Q0)(m:Nat):=evAt Tryz.prog env (ct m) J (m+1) 71 2 Tryz.f71 d25
theorem Rn m:e60 jn m [] [] ⟨[],[],0⟩=bZ (m+1):=
 tq (g:=fun J=>some nC) (by rfl)
def aj5:List Nat:=[1,1,0,1,0]
def Zb:List Nat:=[1,1,1,0,1,0]
def auh:List Nat:=Zb++[0,1]
def aj6:List Nat:=auh++[0,0,1]
def e64(J:Q1)(m:Nat):=evAt Tryz.prog env (ct m) J (m+1) 74 99 Tryz.f74 d32
def l64(J:Q1)(m:Nat):=loopAt Tryz.prog env (ct m) J (m+1) 74 99 Tryz.f74 d32
def aj7(a:Int)(b c:Dt):St:=⟨tsOf [(2,.ptr 0 [] 0),(3,.ptr 1 [] 0),(5,.dat 3 (.int a))],[.box 26 (.dat 26 b),.box 26 (.dat 26 c)],0⟩
def V9(a:Int)(b c:Dt):St:=⟨tsOf [(2,.ptr 0 [] 0),(3,.ptr 1 [] 0),(6,.dat 3 (.int a))],[.box 26 (.dat 26 b),.box 26 (.dat 26 c)],0⟩
def abW(a:Int)(b:Bool)(c d:Dt):St:=⟨tsOf [(2,.ptr 0 [] 0),(3,.ptr 1 [] 0),(6,.dat 3 (.int a)),(98,.dat 4 (.bool b))],[.box 26 (.dat 26 c),.box 26 (.dat 26 d)],0⟩
def TP(a:Bool)(b c:Dt):St:=⟨tsOf [(2,.ptr 0 [] 0),(3,.ptr 1 [] 0),(43,.dat 4 (.bool a))],[.box 26 (.dat 26 b),.box 26 (.dat 26 c)],0⟩
abbrev aui(m e:Nat)(a:Q33):Prop:=∀b c d,l64 jn m Zb [] e (V9 b c d)=a b c d
theorem He m b a(h:aui m b a) c d e f:e64 jn m aj6 [b] (abW c d e f)=l9 m (bD m) a c d e f:=
 tq (g:=fun J=>cond d (some false) (jj J 1 9 b (V9 (wrap .i64 (c+1)) e f) (l64 J m Zb [] b))) (by simp only[aM,h];rfl)
theorem zU m:∀b a c d,l64 jn m Zb [] b (V9 a c d)=og m (bD m) b a c d
 |0,_,_,_=>rfl
 |b+1,a,c,d=>
  tl (g:=fun J=>bif a<((L c 4).length:Int)then(idx (L c 4) a).bind fun e=>(idx (L d 4) a).bind fun f=>cond (!(S e 0).toList==(S f 0).toList) (jj J 0 12 0 (abW a true c d) (e64 J m aj6 [b])) ((idx (L c 4) a).bind fun h=>(idx (L d 4) a).bind fun i=>(bD m (fld h 1) (fld i 1)).bind fun j=>jj J 0 12 0 (abW a (!j) c d) (e64 J m aj6 [b]))else some true) (by simp only[aM,He m b (og m (bD m) b) (zU m b)];rfl)
theorem zV m:∀c a b d,l64 jn m aj5 [] c (aj7 a b d)=tZ m (bD m) c a b d
 |0,_,_,_=>rfl
 |c+1,a,b,d=>
  tl (g:=fun J=>bif a<((L b 3).length:Int)then(idx (L b 3) a).bind fun e=>(idx (L d 3) a).bind fun f=>(bD m e f).bind fun h=>cond (!h) (some false) (jj J 1 4 c (aj7 (wrap .i64 (a+1)) b d) (l64 J m aj5 [] c))else jj J 1 9 (succ m) (V9 0 b d) (l64 J m Zb [] (succ m))) (by simp only[aM,(zV m c),zU m];rfl)
theorem JL m a b c:e64 jn m [1,0,1] [] (TP a b c)=dR m (bD m) a b c:=
 tq (g:=fun J=>cond a (some false) (jj J 1 4 (succ m) (aj7 0 b c) (l64 J m aj5 [] (succ m)))) (by simp only[aM,zV m];rfl)
theorem Ro m a b:e64 jn m [] [] ⟨[.dat 26 a,.dat 26 b],[],0⟩=bD (m+1) a b:=
 tq (g:=fun J=>cond (I a 0 !=I b 0) (jj J 0 2 0 (TP true a b) (e64 J m [1,0,1] [])) (cond (I a 1 !=I b 1) (jj J 0 2 0 (TP true a b) (e64 J m [1,0,1] [])) (cond (!(S a 2).toList==(S b 2).toList) (jj J 0 2 0 (TP true a b) (e64 J m [1,0,1] [])) (bif ((L a 3).length:Int) !=((L b 3).length:Int)then jj J 0 2 0 (TP true a b) (e64 J m [1,0,1] [])else jj J 0 2 0 (TP (((L a 4).length:Int) !=((L b 4).length:Int)) a b) (e64 J m [1,0,1] []))))) (by simp only[aM,JL m];rfl)
def auj:List Nat:=[1,0,1,0,0,1]
def auk:List Nat:=auj++[0,0,1]
def aul:List Nat:=auk++[1]
def aj8:List Nat:=aul++[0]
def e65(J:Q1)(m:Nat):=evAt Tryz.prog env (ct m) J (m+1) 73 31 Tryz.f73 d32
def l65(J:Q1)(m:Nat):=loopAt Tryz.prog env (ct m) J (m+1) 73 31 Tryz.f73 d32
def aj9(a:List Dt)(b c:Int):St:=⟨tsOf [(0,.dat 22 (.lst a)),(3,.dat 3 (.int b)),(4,.dat 3 (.int c))],[],0⟩
def aep(a:List Dt)(b:Int):St:=⟨tsOf [(0,.dat 22 (.lst a)),(3,.dat 3 (.int b))],[],0⟩
abbrev aum(m d:Nat)(a:Q21):Prop:=∀b c,l65 jn m [1,0,1,0] [] d (aep b c)=a b c
theorem yj m d a(h:aum m d a):∀e b c f,l65 jn m aj8 [d] e (aj9 b c f)=oO m a e b c f
 |0,_,_,_=>rfl
 |e+1,b,c,f=>
  tl (g:=fun J=>cond (f<c) ((idx b f).bind fun i=>(idx b c).bind fun j=>cond ((toStr i).toList==(toStr j).toList) (some false) (jj J 1 7 e (aj9 b c (wrap .i64 (f+1))) (l65 J m aj8 [d] e))) (jj J 1 2 d (aep b (wrap .i64 (c+1))) (l65 J m [1,0,1,0] [] d))) (by simp only[aM,(yj m d a h e),h];rfl)
theorem yt m:∀a b c,l65 jn m [1,0,1,0] [] a (aep b c)=jQ m a b c
 |0,_,_=>rfl
 |a+1,b,c=>
  tl (g:=fun J=>bif c<(b.length:Int)then(idx b c).bind fun d=>(ig m (toStr d)).bind fun e=>cond (!e) (some false) (jj J 1 7 (succ m) (aj9 b c 0) (l65 J m aj8 [a] (succ m)))else some true) (by simp only[aM,yj m a (jQ m a) (yt m a)];rfl)
theorem Oq m a:e65 jn m [] [] ⟨[.dat 22 (.lst a)],[],0⟩=mV (m+1) a:=
 tq (g:=fun J=>jj J 1 2 (succ m) (aep a 0) (l65 J m [1,0,1,0] [] (succ m))) (by simp only[aM,yt m];rfl)
def aer:List Nat:=[1,0,1,0,1]
def EK:List Nat:=[1,0,1,0,1,1,1]
def aes:List Nat:=EK++[1,1]
def EL:List Nat:=aes++[1,1]
def e66(J:Q2)(m:Nat):=evAt Tryz.prog env (ct m) J (m+1) 72 30 Tryz.f72 d28
def EM(a:Bool):St:=⟨tsOf [(20,.dat 4 (.bool a))],[],0⟩
def akb(a:Int)(b:Bool):St:=⟨tsOf [(3,.dat 3 (.int a)),(17,.dat 4 (.bool b))],[],0⟩
def Hf(a:Int)(b:Bool):St:=⟨tsOf [(3,.dat 3 (.int a)),(8,.dat 4 (.bool b))],[],0⟩
def aeu(a:Int)(b:Bool):St:=⟨tsOf [(3,.dat 3 (.int a)),(4,.dat 4 (.bool b))],[],0⟩
theorem JM m a:e66 jn m EL [] (EM a)=gD m a:=
 tq (g:=fun J=>cond a (some (-1)) (some 2)) (by rfl)
theorem JN m a b:e66 jn m aes [] (akb a b)=yX m a b:=
 tq (g:=fun J=>cond b (some 3) (cond (a==4) (jj J 0 27 0 (EM (a==4)) (e66 J m EL [])) (cond (a==6) (jj J 0 27 0 (EM (a==6)) (e66 J m EL [])) (cond (a==16) (jj J 0 27 0 (EM (a==16)) (e66 J m EL [])) (cond (a==17) (jj J 0 27 0 (EM (a==17)) (e66 J m EL [])) (cond (a==21) (jj J 0 27 0 (EM (a==21)) (e66 J m EL [])) (cond (a==29) (jj J 0 27 0 (EM (a==29)) (e66 J m EL [])) (cond (a==37) (jj J 0 27 0 (EM (a==37)) (e66 J m EL [])) (cond (a==35) (jj J 0 27 0 (EM (a==35)) (e66 J m EL [])) (jj J 0 27 0 (EM (a==34)) (e66 J m EL []))))))))))) (by simp only[aM,JM m];rfl)
theorem JO m a b:e66 jn m EK [] (Hf a b)=iH m a b:=
 tq (g:=fun J=>cond b (some 1) (cond (a==19) (jj J 0 17 0 (akb a (a==19)) (e66 J m aes [])) (jj J 0 17 0 (akb a (a==25)) (e66 J m aes [])))) (by simp only[aM,JN m];rfl)
theorem JQ m a b:e66 jn m aer [] (aeu a b)=uf m a b:=
 tq (g:=fun J=>cond b (some 0) (cond (a==18) (jj J 0 14 0 (Hf a (a==18)) (e66 J m EK [])) (cond (a==22) (jj J 0 14 0 (Hf a (a==22)) (e66 J m EK [])) (cond (a==23) (jj J 0 14 0 (Hf a (a==23)) (e66 J m EK [])) (cond (a==24) (jj J 0 14 0 (Hf a (a==24)) (e66 J m EK [])) (cond (a==26) (jj J 0 14 0 (Hf a (a==26)) (e66 J m EK [])) (cond (a==30) (jj J 0 14 0 (Hf a (a==30)) (e66 J m EK [])) (cond (a==31) (jj J 0 14 0 (Hf a (a==31)) (e66 J m EK [])) (jj J 0 14 0 (Hf a (a==36)) (e66 J m EK [])))))))))) (by simp only[aM,JO m];rfl)
theorem Rp m a:e66 jn m [] [] ⟨[.dat 3 (.int a)],[],0⟩=oP (m+1) a:=
 tq (g:=fun J=>cond (a==1) (jj J 0 5 0 (aeu a (a==1)) (e66 J m aer [])) (cond (a==2) (jj J 0 5 0 (aeu a (a==2)) (e66 J m aer [])) (jj J 0 5 0 (aeu a (a==3)) (e66 J m aer [])))) (by simp only[aM,JQ m];rfl)
def aun:List Nat:=[1,1,0,1,0,1]
def akc:List Nat:=aun++[0]
def auo:List Nat:=[1,1,1,0,1,0,1]
def akd:List Nat:=auo++[0]
def e67(J:Q42)(m:Nat):=evAt Tryz.prog env (ct m) J (m+1) 75 44 Tryz.f75 d58
def l67(J:Q42)(m:Nat):=loopAt Tryz.prog env (ct m) J (m+1) 75 44 Tryz.f75 d58
def ake(a:Int)(b:Dt)(c:List Dt):St:=⟨tsOf [(1,.ptr 0 [] 0),(3,.row 1),(4,.dat 3 (.int a))],[.box 26 (.dat 26 b),.row 23 c],0⟩
def akf(a:Int)(b:Dt)(c:List Dt):St:=⟨tsOf [(1,.ptr 0 [] 0),(3,.row 1),(5,.dat 3 (.int a))],[.box 26 (.dat 26 b),.row 23 c],0⟩
def akg(a:Dt)(b:List Dt):St:=⟨tsOf [(1,.ptr 0 [] 0),(3,.row 1)],[.box 26 (.dat 26 a),.row 23 b],0⟩
theorem yu m:∀a b c d,l67 jn m akd [] a (akf b c d)=mh m a b c d
 |0,_,_,_=>rfl
 |a+1,b,c,d=>
  tl (g:=fun J=>bif b<((L c 4).length:Int)then(idx (L c 4) b).bind fun e=>(app d [fld e 1]).bind fun f=>jj J 1 9 a (akf (wrap .i64 (b+1)) c f) (l67 J m akd [] a)else some d) (by simp only[aM,(yu m a)];rfl)
theorem yw m a b:e67 jn m [1,1,1] [] (akg a b)=mo m a b:=
 tq (g:=fun J=>cond (I a 0==5) (jj J 1 9 (succ m) (akf 0 a b) (l67 J m akd [] (succ m))) (some b)) (by simp only[aM,yu m];rfl)
theorem yx m:∀b c a d,l67 jn m akc [] b (ake c a d)=mq m b c a d
 |0,_,_,_=>rfl
 |b+1,c,a,d=>
  tl (g:=fun J=>bif c<((L a 3).length:Int)then(idx (L a 3) c).bind fun e=>(app d [e]).bind fun f=>jj J 1 4 b (ake (wrap .i64 (c+1)) a f) (l67 J m akc [] b)else jj J 0 7 0 (akg a d) (e67 J m [1,1,1] [])) (by simp only[aM,(yx m b),yw m];rfl)
theorem Ot m a:e67 jn m [] [] ⟨[.dat 26 a],[],0⟩=kJ (m+1) a:=
 tq (g:=fun J=>cond (I a 0==6) (jj J 1 4 (succ m) (ake 0 a []) (l67 J m akc [] (succ m))) (jj J 0 7 0 (akg a []) (e67 J m [1,1,1] []))) (by simp only[aM,yx m,yw m];rfl)
def aup:List Nat:=[1,1,1,1,0,1]
def akh:List Nat:=aup++[0]
def e48(J:Q2)(m:Nat):=evAt Tryz.prog env (ct m) J (m+1) 50 34 Tryz.f50 d28
def l48(J:Q2)(m:Nat):=loopAt Tryz.prog env (ct m) J (m+1) 50 34 Tryz.f50 d28
def aki(a:Int)(b:List Dt)(c d:Int):St:=⟨tsOf [(1,.dat 3 (.int a)),(5,.dat 23 (.lst b)),(6,.dat 3 (.int c)),(7,.dat 3 (.int d))],[],0⟩
def akj(a:Int)(b:List Dt)(c:Bool):St:=⟨tsOf [(1,.dat 3 (.int a)),(5,.dat 23 (.lst b)),(16,.dat 4 (.bool c))],[],0⟩
theorem wM m:∀a e b c d,l48 jn m akh [] a (aki e b c d)=ko m (eD m) a e b c d
 |0,_,_,_,_=>rfl
 |a+1,e,b,c,d=>
  tl (g:=fun J=>bif d<(b.length:Int)then(idx b d).bind fun h=>(eD m h (wrap .i64 (e-1))).bind fun f=>jj J 1 6 a (aki e b (cond (c<f) f c) (wrap .i64 (d+1))) (l48 J m akh [] a)else some (wrap .i64 (c+1))) (by simp only[aM,(wM m a)];rfl)
theorem Fp m a b c:e48 jn m [1,1,0,1] [] (akj a b c)=gT m (eD m) a b c:=
 tq (g:=fun J=>cond c (some 1) (jj J 1 6 (succ m) (aki a b 0 0) (l48 J m akh [] (succ m)))) (by simp only[aM,wM m];rfl)
theorem L8 m b a:e48 jn m [] [] ⟨[.dat 26 b,.dat 3 (.int a)],[],0⟩=eD (m+1) b a:=
 tq (g:=fun J=>(kJ m b).bind fun c=>cond (a<2) (jj J 0 3 0 (akj a c true) (e48 J m [1,1,0,1] [])) (jj J 0 3 0 (akj a c ((c.length:Int)==0)) (e48 J m [1,1,0,1] []))) (by simp only[aM,Fp m];rfl)
def e33(J:Q2)(m:Nat):=evAt Tryz.prog env (ct m) J (m+1) 32 5 Tryz.f32 d28
theorem Ou m a:e33 jn m [] [] ⟨[.dat 26 a],[],0⟩=mW (m+1) a:=
 tq (g:=fun J=>(eD m a 17).bind fun b=>some b) (by rfl)
def akk:List Nat:=[1,1,1,0,1,0]
def e49(J:Q2)(m:Nat):=evAt Tryz.prog env (ct m) J (m+1) 51 32 Tryz.f51 d28
def l49(J:Q2)(m:Nat):=loopAt Tryz.prog env (ct m) J (m+1) 51 32 Tryz.f51 d28
def akl(a b:Int)(c:List Dt)(d:Int):St:=⟨tsOf [(1,.dat 3 (.int a)),(5,.dat 3 (.int b)),(6,.dat 23 (.lst c)),(7,.dat 3 (.int d))],[],0⟩
theorem yA m:∀b c a d e,l49 jn m akk [] b (akl c a d e)=oQ m (iN m) b c a d e
 |0,_,_,_,_=>rfl
 |b+1,c,a,d,e=>
  tl (g:=fun J=>cond (e<(d.length:Int)) (cond (a<c) ((idx d e).bind fun f=>(iN m f (wrap .i64 (c-a))).bind fun h=>jj J 1 4 b (akl c (wrap .i64 (a+h)) d (wrap .i64 (e+1))) (l49 J m akk [] b)) (some a)) (some a)) (by simp only[aM,(yA m b)];rfl)
theorem Ov m a b:e49 jn m [] [] ⟨[.dat 26 a,.dat 3 (.int b)],[],0⟩=iN (m+1) a b:=
 tq (g:=fun J=>(kJ m a).bind fun c=>jj J 1 4 (succ m) (akl b 1 c 0) (l49 J m akk [] (succ m))) (by simp only[aM,yA m];rfl)
def e34(J:Q2)(m:Nat):=evAt Tryz.prog env (ct m) J (m+1) 33 5 Tryz.f33 d28
theorem Ow m a:e34 jn m [] [] ⟨[.dat 26 a],[],0⟩=mX (m+1) a:=
 tq (g:=fun J=>(iN m a 1025).bind fun b=>some b) (by rfl)
def aev:List Nat:=[1,1,0,1,0]
def auq:List Nat:=[1,1,0,1,0,0,1]
def akm:List Nat:=auq++[0,0,1]
def e68(J:Q1)(m:Nat):=evAt Tryz.prog env (ct m) J (m+1) 76 33 Tryz.f76 d32
def l68(J:Q1)(m:Nat):=loopAt Tryz.prog env (ct m) J (m+1) 76 33 Tryz.f76 d32
def aew(a:ByteArray)(b c d:Int):St:=⟨tsOf [(0,.dat 9 (.str a)),(1,.dat 3 (.int b)),(2,.dat 3 (.int c)),(7,.dat 3 (.int d))],[],0⟩
def akn(a:ByteArray)(b c d:Int)(e:Bool):St:=⟨tsOf [(0,.dat 9 (.str a)),(1,.dat 3 (.int b)),(2,.dat 3 (.int c)),(7,.dat 3 (.int d)),(32,.dat 4 (.bool e))],[],0⟩
abbrev aur(m f:Nat)(a:Q44):Prop:=∀b c d e,l68 jn m aev [] f (aew b c d e)=a b c d e
theorem JR m b a(i:aur m b a) c d e f h:e68 jn m akm [b] (akn c d e f h)=oh m a c d e f h:=
 tq (g:=fun J=>cond h (some false) (jj J 1 4 b (aew c d e (wrap .i64 (f+1))) (l68 J m aev [] b))) (by simp only[aM,i];rfl)
theorem zW m:∀a c d e b,l68 jn m aev [] a (aew c d e b)=om m a c d e b
 |0,_,_,_,_=>rfl
 |a+1,c,d,e,b=>
  tl (g:=fun J=>cond (b<e) ((idxS c (wrap .i64 (d+b))).bind fun f=>cond (f<128) (jj J 0 7 0 (akn c d e b true) (e68 J m akm [a])) ((idxS c (wrap .i64 (d+b))).bind fun h=>jj J 0 7 0 (akn c d e b (decide (191<h))) (e68 J m akm [a]))) (some true)) (by simp only[aM,JR m a (om m a) (zW m a)];rfl)
theorem Rq m a b c:e68 jn m [] [] ⟨[.dat 9 (.str a),.dat 3 (.int b),.dat 3 (.int c)],[],0⟩=qN (m+1) a b c:=
 tq (g:=fun J=>cond ((a.size:Int)<wrap .i64 (b+c)) (some false) (jj J 1 4 (succ m) (aew a b c 0) (l68 J m aev [] (succ m)))) (by simp only[aM,zW m];rfl)
def apO:List Nat:=[1,0,1,0,0,1]
def TW:List Nat:=apO++[0,1,1,1]
def aus:List Nat:=TW++[1]
def oG:List Nat:=aus++[0,1]
def aex:List Nat:=apO++[0,1,1,0,0,1,1,1]
def aey:List Nat:=aex++[1,1]
def ako:List Nat:=aey++[1,1]
def e50(J:Q1)(m:Nat):=evAt Tryz.prog env (ct m) J (m+1) 52 89 Tryz.f52 d32
def l50(J:Q1)(m:Nat):=loopAt Tryz.prog env (ct m) J (m+1) 52 89 Tryz.f52 d32
def oH(a:ByteArray)(b c:Int)(d:Bool):St:=⟨tsOf [(0,.dat 9 (.str a)),(3,.dat 3 (.int b)),(5,.dat 3 (.int c)),(84,.dat 4 (.bool d))],[],0⟩
def Zc(a:ByteArray)(b c d:Int):St:=⟨tsOf [(0,.dat 9 (.str a)),(3,.dat 3 (.int b)),(4,.dat 5 (.int c)),(5,.dat 3 (.int d))],[],0⟩
def akp(a:ByteArray)(b c:Int)(d:Bool):St:=⟨tsOf [(0,.dat 9 (.str a)),(3,.dat 3 (.int b)),(4,.dat 5 (.int c)),(30,.dat 4 (.bool d))],[],0⟩
def akq(a:ByteArray)(b c:Int)(d:Bool):St:=⟨tsOf [(0,.dat 9 (.str a)),(3,.dat 3 (.int b)),(4,.dat 5 (.int c)),(23,.dat 4 (.bool d))],[],0⟩
def akr(a:ByteArray)(b c:Int)(d:Bool):St:=⟨tsOf [(0,.dat 9 (.str a)),(3,.dat 3 (.int b)),(4,.dat 5 (.int c)),(16,.dat 4 (.bool d))],[],0⟩
def aez(a:ByteArray)(b:Int):St:=⟨tsOf [(0,.dat 9 (.str a)),(3,.dat 3 (.int b))],[],0⟩
abbrev Zd(m d:Nat)(a:Q11):Prop:=∀b c,l50 jn m [1,0,1,0] [] d (aez b c)=a b c
theorem JU m b a(h:Zd m b a) c d e f:e50 jn m oG [b] (oH c d e f)=bL m a c d e f:=
 tq (g:=fun J=>cond f (some false) (jj J 1 2 b (aez c (wrap .i64 (wrap .i64 (d+e)+1))) (l50 J m [1,0,1,0] [] b))) (by simp only[aM,h];rfl)
theorem p9 m c f(p:Zd m c f) a b e d:e50 jn m TW [c] (Zc a b e d)=lD m f a b e d:=
 tq (g:=fun J=>(qN m a (wrap .i64 (b+1)) d).bind fun q=>cond (!q) (some false) (cond (e==224) ((idxS a (wrap .i64 (b+1))).bind fun r=>cond (r<160) (jj J 0 16 0 (oH a b d true) (e50 J m oG [c])) (cond (e==237) ((idxS a (wrap .i64 (b+1))).bind fun s=>cond (159<s) (jj J 0 16 0 (oH a b d true) (e50 J m oG [c])) (cond (e==240) ((idxS a (wrap .i64 (b+1))).bind fun t=>cond (t<144) (jj J 0 16 0 (oH a b d true) (e50 J m oG [c])) (cond (e==244) ((idxS a (wrap .i64 (b+1))).bind fun u=>jj J 0 16 0 (oH a b d (decide (143<u))) (e50 J m oG [c])) (jj J 0 16 0 (oH a b d false) (e50 J m oG [c])))) (cond (e==244) ((idxS a (wrap .i64 (b+1))).bind fun v=>jj J 0 16 0 (oH a b d (decide (143<v))) (e50 J m oG [c])) (jj J 0 16 0 (oH a b d false) (e50 J m oG [c]))))) (cond (e==240) ((idxS a (wrap .i64 (b+1))).bind fun w=>cond (w<144) (jj J 0 16 0 (oH a b d true) (e50 J m oG [c])) (cond (e==244) ((idxS a (wrap .i64 (b+1))).bind fun x=>jj J 0 16 0 (oH a b d (decide (143<x))) (e50 J m oG [c])) (jj J 0 16 0 (oH a b d false) (e50 J m oG [c])))) (cond (e==244) ((idxS a (wrap .i64 (b+1))).bind fun y=>jj J 0 16 0 (oH a b d (decide (143<y))) (e50 J m oG [c])) (jj J 0 16 0 (oH a b d false) (e50 J m oG [c])))))) (cond (e==237) ((idxS a (wrap .i64 (b+1))).bind fun h=>cond (159<h) (jj J 0 16 0 (oH a b d true) (e50 J m oG [c])) (cond (e==240) ((idxS a (wrap .i64 (b+1))).bind fun i=>cond (i<144) (jj J 0 16 0 (oH a b d true) (e50 J m oG [c])) (cond (e==244) ((idxS a (wrap .i64 (b+1))).bind fun j=>jj J 0 16 0 (oH a b d (decide (143<j))) (e50 J m oG [c])) (jj J 0 16 0 (oH a b d false) (e50 J m oG [c])))) (cond (e==244) ((idxS a (wrap .i64 (b+1))).bind fun k=>jj J 0 16 0 (oH a b d (decide (143<k))) (e50 J m oG [c])) (jj J 0 16 0 (oH a b d false) (e50 J m oG [c]))))) (cond (e==240) ((idxS a (wrap .i64 (b+1))).bind fun l=>cond (l<144) (jj J 0 16 0 (oH a b d true) (e50 J m oG [c])) (cond (e==244) ((idxS a (wrap .i64 (b+1))).bind fun n=>jj J 0 16 0 (oH a b d (decide (143<n))) (e50 J m oG [c])) (jj J 0 16 0 (oH a b d false) (e50 J m oG [c])))) (cond (e==244) ((idxS a (wrap .i64 (b+1))).bind fun o=>jj J 0 16 0 (oH a b d (decide (143<o))) (e50 J m oG [c])) (jj J 0 16 0 (oH a b d false) (e50 J m oG [c]))))))) (by simp only[aM,JU m c f p];rfl)
theorem JV m b a(h:Zd m b a) c d e f:e50 jn m ako [b] (akp c d e f)=uq m a c d e f:=
 tq (g:=fun J=>cond f (jj J 0 13 0 (Zc c d e 3) (e50 J m TW [b])) (some false)) (by simp only[aM,p9 m b a h];rfl)
theorem JW m b a(h:Zd m b a) d e c f:e50 jn m aey [b] (akq d e c f)=uw m a d e c f:=
 tq (g:=fun J=>cond f (jj J 0 13 0 (Zc d e c 2) (e50 J m TW [b])) (cond (240<=c) (jj J 0 12 0 (akp d e c (decide (c<=244))) (e50 J m ako [b])) (jj J 0 12 0 (akp d e c false) (e50 J m ako [b])))) (by simp only[aM,p9 m b a h,JV m b a h];rfl)
theorem JX m b a(h:Zd m b a) d e c f:e50 jn m aex [b] (akr d e c f)=uy m a d e c f:=
 tq (g:=fun J=>cond f (jj J 0 13 0 (Zc d e c 1) (e50 J m TW [b])) (cond (224<=c) (jj J 0 10 0 (akq d e c (decide (c<=239))) (e50 J m aey [b])) (jj J 0 10 0 (akq d e c false) (e50 J m aey [b])))) (by simp only[aM,p9 m b a h,JW m b a h];rfl)
theorem tO m:∀a b c,l50 jn m [1,0,1,0] [] a (aez b c)=jw m a b c
 |0,_,_=>rfl
 |a+1,b,c=>
  tl (g:=fun J=>bif c<(b.size:Int)then(idxS b c).bind fun d=>cond (d<128) (jj J 0 13 0 (Zc b c d 0) (e50 J m TW [a])) (cond (194<=d) (jj J 0 8 0 (akr b c d (decide (d<=223))) (e50 J m aex [a])) (jj J 0 8 0 (akr b c d false) (e50 J m aex [a])))else some true) (by simp only[aM,p9 m a (jw m a) (tO m a),JX m a (jw m a) (tO m a)];rfl)
theorem Rt m a:e50 jn m [] [] ⟨[.dat 9 (.str a)],[],0⟩=qO (m+1) a:=
 tq (g:=fun J=>jj J 1 2 (succ m) (aez a 0) (l50 J m [1,0,1,0] [] (succ m))) (by simp only[aM,tO m];rfl)
def aeA:List Nat:=[1,1,0,1,0]
def aut:List Nat:=[1,1,0,1,0,0,1]
def aks:List Nat:=aut++[0,0,1]
def e69(J:Q1)(m:Nat):=evAt Tryz.prog env (ct m) J (m+1) 77 28 Tryz.f77 d32
def l69(J:Q1)(m:Nat):=loopAt Tryz.prog env (ct m) J (m+1) 77 28 Tryz.f77 d32
def aeB(a:ByteArray)(b:Int):St:=⟨tsOf [(0,.dat 9 (.str a)),(3,.dat 3 (.int b))],[],0⟩
def akt(a:ByteArray)(b:Int)(c:Bool):St:=⟨tsOf [(0,.dat 9 (.str a)),(3,.dat 3 (.int b)),(27,.dat 4 (.bool c))],[],0⟩
def aku(a:ByteArray)(b:Bool):St:=⟨tsOf [(0,.dat 9 (.str a)),(11,.dat 4 (.bool b))],[],0⟩
abbrev auu(m d:Nat)(a:Q11):Prop:=∀b c,l69 jn m aeA [] d (aeB b c)=a b c
theorem JY m b a(f:auu m b a) c d e:e69 jn m aks [b] (akt c d e)=jy m a c d e:=
 tq (g:=fun J=>cond e (some false) (jj J 1 4 b (aeB c (wrap .i64 (d+1))) (l69 J m aeA [] b))) (by simp only[aM,f];rfl)
theorem zX m:∀a b c,l69 jn m aeA [] a (aeB b c)=jA m a b c
 |0,_,_=>rfl
 |a+1,b,c=>
  tl (g:=fun J=>bif c<(b.size:Int)then(idxS b c).bind fun d=>cond (d<32) (jj J 0 7 0 (akt b c true) (e69 J m aks [a])) ((idxS b c).bind fun e=>jj J 0 7 0 (akt b c (decide (126<e))) (e69 J m aks [a]))else some true) (by simp only[aM,JY m a (jA m a) (zX m a)];rfl)
theorem JZ m a b:e69 jn m [1,0,1] [] (aku a b)=jB m a b:=
 tq (g:=fun J=>cond b (some false) (jj J 1 4 (succ m) (aeB a 0) (l69 J m aeA [] (succ m)))) (by simp only[aM,zX m];rfl)
theorem Ru m a:e69 jn m [] [] ⟨[.dat 9 (.str a)],[],0⟩=nD (m+1) a:=
 tq (g:=fun J=>cond ((a.size:Int)<1) (jj J 0 2 0 (aku a true) (e69 J m [1,0,1] [])) (jj J 0 2 0 (aku a (decide (128<(a.size:Int)))) (e69 J m [1,0,1] []))) (by simp only[aM,JZ m];rfl)
def auv:List Nat:=[1,1,1,1,1,1]
def Bt:List Nat:=[1,1,1,1,0,1]
def auw:List Nat:=auv++[0,1]
def akv:List Nat:=auw++[0]
def e35(J:Q1)(m:Nat):=evAt Tryz.prog env (ct m) J (m+1) 34 138 Tryz.f34 d32
def l35(J:Q1)(m:Nat):=loopAt Tryz.prog env (ct m) J (m+1) 34 138 Tryz.f34 d32
def abX(a:Bool)(b:Int)(c:Dt):St:=⟨tsOf [(1,.dat 4 (.bool a)),(2,.ptr 0 [] 0),(7,.dat 3 (.int b))],[.box 26 (.dat 26 c)],0⟩
def Bu(a b:Bool)(c:Dt):St:=⟨tsOf [(1,.dat 4 (.bool a)),(2,.ptr 0 [] 0),(79,.dat 4 (.bool b))],[.box 26 (.dat 26 c)],0⟩
def aeC(a b c:Bool)(d:Dt):St:=⟨tsOf [(1,.dat 4 (.bool a)),(2,.ptr 0 [] 0),(5,.dat 4 (.bool b)),(6,.dat 4 (.bool c))],[.box 26 (.dat 26 d)],0⟩
def aeD(a b:Bool)(c:Dt):St:=⟨tsOf [(1,.dat 4 (.bool a)),(2,.ptr 0 [] 0),(5,.dat 4 (.bool b))],[.box 26 (.dat 26 c)],0⟩
def TY(a b:Bool)(c:Dt):St:=⟨tsOf [(1,.dat 4 (.bool a)),(2,.ptr 0 [] 0),(27,.dat 4 (.bool b))],[.box 26 (.dat 26 c)],0⟩
theorem wN m:∀b c d a,l35 jn m akv [] b (abX c d a)=nM m (bC m) (dz m) b c d a
 |0,_,_,_=>rfl
 |b+1,c,d,a=>
  tl (g:=fun J=>bif d<((L a 3).length:Int)then(idx (L a 3) d).bind fun e=>(bC m e c).bind fun f=>cond (!f) (some false) (jj J 1 19 b (abX c (wrap .i64 (d+1)) a) (l35 J m akv [] b))else(dz m a c).bind fun h=>some h) (by simp only[aM,(wN m b)];rfl)
theorem Fq m b c a:e35 jn m Bt [] (Bu b c a)=dG m (bC m) (dz m) b c a:=
 tq (g:=fun J=>cond c (some false) (cond (I a 0==9) (cond (I a 1==0) (some true) (some (I a 1==1))) (cond (I a 0==10) (some (decide (0<=I a 1))) (cond (I a 0==4) (cond (((S a 2).size:Int)<=4096) ((qO m (S a 2)).bind fun d=>some d) (some false)) (cond (I a 0==7) (some (decide (((S a 2).size:Int)<=4096))) (cond (I a 0==8) (some (((S a 2).size:Int)==12)) (jj J 1 19 (succ m) (abX b 0 a) (l35 J m akv [] (succ m))))))))) (by simp only[aM,wN m];rfl)
theorem Fu m b d c a:e35 jn m [1,1,1,1] [] (aeC b d c a)=iW m (bC m) (dz m) b d c a:=
 tq (g:=fun J=>cond (!d) (cond (!(S a 2).toList==[]) (jj J 0 6 0 (Bu b true a) (e35 J m Bt [])) (cond (!c) (cond (I a 1 !=0) (jj J 0 6 0 (Bu b true a) (e35 J m Bt [])) (cond (I a 0<1) (jj J 0 6 0 (Bu b true a) (e35 J m Bt [])) (jj J 0 6 0 (Bu b (decide (11<I a 0)) a) (e35 J m Bt [])))) (cond (I a 0<1) (jj J 0 6 0 (Bu b true a) (e35 J m Bt [])) (jj J 0 6 0 (Bu b (decide (11<I a 0)) a) (e35 J m Bt []))))) (cond (!c) (cond (I a 1 !=0) (jj J 0 6 0 (Bu b true a) (e35 J m Bt [])) (cond (I a 0<1) (jj J 0 6 0 (Bu b true a) (e35 J m Bt [])) (jj J 0 6 0 (Bu b (decide (11<I a 0)) a) (e35 J m Bt [])))) (cond (I a 0<1) (jj J 0 6 0 (Bu b true a) (e35 J m Bt [])) (jj J 0 6 0 (Bu b (decide (11<I a 0)) a) (e35 J m Bt []))))) (by simp only[aM,Fq m];rfl)
theorem Fv m b c a:e35 jn m [1,1,1] [] (aeD b c a)=iX m (bC m) (dz m) b c a:=
 tq (g:=fun J=>cond (I a 0==3) (jj J 0 5 0 (aeC b c true a) (e35 J m [1,1,1,1] [])) (cond (I a 0==9) (jj J 0 5 0 (aeC b c true a) (e35 J m [1,1,1,1] [])) (jj J 0 5 0 (aeC b c (I a 0==10) a) (e35 J m [1,1,1,1] [])))) (by simp only[aM,Fu m];rfl)
theorem Fw m b c a:e35 jn m [1,0,1] [] (TY b c a)=iY m (bC m) (dz m) b c a:=
 tq (g:=fun J=>cond c (some false) (cond (I a 0==4) (jj J 0 4 0 (aeD b true a) (e35 J m [1,1,1] [])) (cond (I a 0==7) (jj J 0 4 0 (aeD b true a) (e35 J m [1,1,1] [])) (jj J 0 4 0 (aeD b (I a 0==8) a) (e35 J m [1,1,1] []))))) (by simp only[aM,Fv m];rfl)
theorem L9 m a b:e35 jn m [] [] ⟨[.dat 26 a,.dat 4 (.bool b)],[],0⟩=bC (m+1) a b:=
 tq (g:=fun J=>cond (I a 0 !=6) (cond (0<((L a 3).length:Int)) (jj J 0 2 0 (TY b true a) (e35 J m [1,0,1] [])) (cond (I a 0 !=5) (jj J 0 2 0 (TY b (decide (0<((L a 4).length:Int))) a) (e35 J m [1,0,1] [])) (jj J 0 2 0 (TY b false a) (e35 J m [1,0,1] [])))) (cond (I a 0 !=5) (jj J 0 2 0 (TY b (decide (0<((L a 4).length:Int))) a) (e35 J m [1,0,1] [])) (jj J 0 2 0 (TY b false a) (e35 J m [1,0,1] [])))) (by simp only[aM,Fw m];rfl)
def apP:List Nat:=[1,0,1,0,0,1]
def auy:List Nat:=apP++[0,0,1,1]
def auz:List Nat:=auy++[1]
def Lv:List Nat:=apP++[0,0,1,0,1]
def akw:List Nat:=auz++[0]
def e51(J:Q1)(m:Nat):=evAt Tryz.prog env (ct m) J (m+1) 53 58 Tryz.f53 d32
def l51(J:Q1)(m:Nat):=loopAt Tryz.prog env (ct m) J (m+1) 53 58 Tryz.f53 d32
def akx(a:Bool)(b c:Int)(d e:Dt):St:=⟨tsOf [(1,.dat 4 (.bool a)),(2,.ptr 0 [] 0),(5,.dat 3 (.int b)),(6,.ptr 1 [] 0),(7,.dat 3 (.int c))],[.box 26 (.dat 26 d),.box 44 (.dat 44 e)],0⟩
def aeE(a:Bool)(b:Int)(c:Dt):St:=⟨tsOf [(1,.dat 4 (.bool a)),(2,.ptr 0 [] 0),(5,.dat 3 (.int b))],[.box 26 (.dat 26 c)],0⟩
def Lx(a:Bool)(b:Int)(c:Bool)(d e:Dt):St:=⟨tsOf [(1,.dat 4 (.bool a)),(2,.ptr 0 [] 0),(5,.dat 3 (.int b)),(6,.ptr 1 [] 0),(43,.dat 4 (.bool c))],[.box 26 (.dat 26 d),.box 44 (.dat 44 e)],0⟩
abbrev apQ(m e:Nat)(a:Q18):Prop:=∀b c d,l51 jn m [1,0,1,0] [] e (aeE b c d)=a b c d
theorem wO m b a(j:apQ m b a):∀c h d e f i,l51 jn m akw [b] c (akx h d e f i)=kr m (bC m) a c h d e f i
 |0,_,_,_,_,_=>rfl
 |c+1,h,d,e,f,i=>
  tl (g:=fun J=>cond (e<d) ((idx (L f 4) e).bind fun k=>cond ((S k 0).toList==(S i 0).toList) (some false) (jj J 1 8 c (akx h d (wrap .i64 (e+1)) f i) (l51 J m akw [b] c))) (jj J 1 2 b (aeE h (wrap .i64 (d+1)) f) (l51 J m [1,0,1,0] [] b))) (by simp only[aM,(wO m b a j c),j];rfl)
theorem Fx m b a(i:apQ m b a) c d e f h:e51 jn m Lv [b] (Lx c d e f h)=dN m (bC m) a c d e f h:=
 tq (g:=fun J=>cond e (some false) (jj J 1 8 (succ m) (akx c d 0 f h) (l51 J m akw [b] (succ m)))) (by simp only[aM,wO m b a i];rfl)
theorem wP m:∀c a d e,l51 jn m [1,0,1,0] [] c (aeE a d e)=dB m (bC m) c a d e
 |0,_,_,_=>rfl
 |c+1,a,d,e=>
  tl (g:=fun J=>bif d<((L e 4).length:Int)then(idx (L e 4) d).bind fun b=>cond a ((ig m (S b 0)).bind fun f=>cond (!f) (jj J 0 6 0 (Lx a d true e b) (e51 J m Lv [c])) (bif !a then(nD m (S b 0)).bind fun h=>cond (!h) (jj J 0 6 0 (Lx a d true e b) (e51 J m Lv [c])) ((bC m (fld b 1) a).bind fun i=>jj J 0 6 0 (Lx a d (!i) e b) (e51 J m Lv [c]))else(bC m (fld b 1) a).bind fun j=>jj J 0 6 0 (Lx a d (!j) e b) (e51 J m Lv [c]))) (bif !a then(nD m (S b 0)).bind fun k=>cond (!k) (jj J 0 6 0 (Lx a d true e b) (e51 J m Lv [c])) ((bC m (fld b 1) a).bind fun l=>jj J 0 6 0 (Lx a d (!l) e b) (e51 J m Lv [c]))else(bC m (fld b 1) a).bind fun n=>jj J 0 6 0 (Lx a d (!n) e b) (e51 J m Lv [c]))else some true) (by simp only[aM,Fx m c (dB m (bC m) c) (wP m c)];rfl)
theorem Ma m a b:e51 jn m [] [] ⟨[.dat 26 a,.dat 4 (.bool b)],[],0⟩=dz (m+1) a b:=
 tq (g:=fun J=>jj J 1 2 (succ m) (aeE b 0 a) (l51 J m [1,0,1,0] [] (succ m))) (by simp only[aM,wP m];rfl)
def e14(J:Q1)(m:Nat):=evAt Tryz.prog env (ct m) J (m+1) 15 15 Tryz.f15 d32
theorem Ox m a:e14 jn m [] [] ⟨[.dat 26 a],[],0⟩=iO (m+1) a:=
 tq (g:=fun J=>(mW m a).bind fun b=>cond (b<=16) ((mX m a).bind fun c=>cond (c<=1024) ((bC m a true).bind fun d=>some d) (some false)) (some false)) (by rfl)
def auA:List Nat:=[1,1,1,1,1,1]
def Ua:List Nat:=[1,1,1,1,0,1]
def aky:List Nat:=[1,1,1,1,1,0,1]
def eX:List Nat:=auA++[0,1]
def e46(J:Q2)(m:Nat):=evAt Tryz.prog env (ct m) J (m+1) 48 164 Tryz.f48 d13
def eY(a:Bool):St:=⟨tsOf [(163,.dat 4 (.bool a))],[],0⟩
def aeF(a:Bool)(b:Dt):St:=⟨tsOf [(1,.ptr 0 [] 0),(3,.dat 4 (.bool a))],[.box 29 (.dat 29 b)],0⟩
def akz(a b:Bool)(c:Dt):St:=⟨tsOf [(1,.ptr 0 [] 0),(3,.dat 4 (.bool a)),(112,.dat 4 (.bool b))],[.box 29 (.dat 29 c)],0⟩
def Ub(a b:Bool)(c:Dt):St:=⟨tsOf [(1,.ptr 0 [] 0),(3,.dat 4 (.bool a)),(103,.dat 4 (.bool b))],[.box 29 (.dat 29 c)],0⟩
def LA(a:Bool)(b:Dt):St:=⟨tsOf [(1,.ptr 0 [] 0),(72,.dat 4 (.bool a))],[.box 29 (.dat 29 b)],0⟩
def EN(a:Bool)(b:Dt):St:=⟨tsOf [(1,.ptr 0 [] 0),(46,.dat 4 (.bool a))],[.box 29 (.dat 29 b)],0⟩
theorem J2 m a:e46 jn m eX [] (eY a)=aZ m a:=
 tq (g:=fun J=>cond a (some 4) (some 0)) (by rfl)
theorem J3 m b c a:e46 jn m aky [] (akz b c a)=uz m b c a:=
 tq (g:=fun J=>cond c (some 8) (cond (I a 0 !=2) (cond (I a 0 !=3) (cond (0<((L a 1).length:Int)) (jj J 0 11 0 (eY true) (e46 J m eX [])) (cond (!b) (cond (!(S a 2).toList==[]) (jj J 0 11 0 (eY true) (e46 J m eX [])) (cond (I a 0 !=34) (cond (0<((L a 3).length:Int)) (jj J 0 11 0 (eY true) (e46 J m eX [])) (cond (I a 0 !=1) ((bD m (fld a 4) aj).bind fun j=>cond (!j) (jj J 0 11 0 (eY true) (e46 J m eX [])) (jj J 0 11 0 (eY (I a 5 !=0)) (e46 J m eX []))) (jj J 0 11 0 (eY (I a 5 !=0)) (e46 J m eX [])))) (cond (I a 0 !=1) ((bD m (fld a 4) aj).bind fun k=>cond (!k) (jj J 0 11 0 (eY true) (e46 J m eX [])) (jj J 0 11 0 (eY (I a 5 !=0)) (e46 J m eX []))) (jj J 0 11 0 (eY (I a 5 !=0)) (e46 J m eX []))))) (cond (I a 0 !=34) (cond (0<((L a 3).length:Int)) (jj J 0 11 0 (eY true) (e46 J m eX [])) (cond (I a 0 !=1) ((bD m (fld a 4) aj).bind fun l=>cond (!l) (jj J 0 11 0 (eY true) (e46 J m eX [])) (jj J 0 11 0 (eY (I a 5 !=0)) (e46 J m eX []))) (jj J 0 11 0 (eY (I a 5 !=0)) (e46 J m eX [])))) (cond (I a 0 !=1) ((bD m (fld a 4) aj).bind fun n=>cond (!n) (jj J 0 11 0 (eY true) (e46 J m eX [])) (jj J 0 11 0 (eY (I a 5 !=0)) (e46 J m eX []))) (jj J 0 11 0 (eY (I a 5 !=0)) (e46 J m eX [])))))) (cond (!b) (cond (!(S a 2).toList==[]) (jj J 0 11 0 (eY true) (e46 J m eX [])) (cond (I a 0 !=34) (cond (0<((L a 3).length:Int)) (jj J 0 11 0 (eY true) (e46 J m eX [])) (cond (I a 0 !=1) ((bD m (fld a 4) aj).bind fun o=>cond (!o) (jj J 0 11 0 (eY true) (e46 J m eX [])) (jj J 0 11 0 (eY (I a 5 !=0)) (e46 J m eX []))) (jj J 0 11 0 (eY (I a 5 !=0)) (e46 J m eX [])))) (cond (I a 0 !=1) ((bD m (fld a 4) aj).bind fun p=>cond (!p) (jj J 0 11 0 (eY true) (e46 J m eX [])) (jj J 0 11 0 (eY (I a 5 !=0)) (e46 J m eX []))) (jj J 0 11 0 (eY (I a 5 !=0)) (e46 J m eX []))))) (cond (I a 0 !=34) (cond (0<((L a 3).length:Int)) (jj J 0 11 0 (eY true) (e46 J m eX [])) (cond (I a 0 !=1) ((bD m (fld a 4) aj).bind fun q=>cond (!q) (jj J 0 11 0 (eY true) (e46 J m eX [])) (jj J 0 11 0 (eY (I a 5 !=0)) (e46 J m eX []))) (jj J 0 11 0 (eY (I a 5 !=0)) (e46 J m eX [])))) (cond (I a 0 !=1) ((bD m (fld a 4) aj).bind fun d=>cond (!d) (jj J 0 11 0 (eY true) (e46 J m eX [])) (jj J 0 11 0 (eY (I a 5 !=0)) (e46 J m eX []))) (jj J 0 11 0 (eY (I a 5 !=0)) (e46 J m eX [])))))) (cond (!b) (cond (!(S a 2).toList==[]) (jj J 0 11 0 (eY true) (e46 J m eX [])) (cond (I a 0 !=34) (cond (0<((L a 3).length:Int)) (jj J 0 11 0 (eY true) (e46 J m eX [])) (cond (I a 0 !=1) ((bD m (fld a 4) aj).bind fun e=>cond (!e) (jj J 0 11 0 (eY true) (e46 J m eX [])) (jj J 0 11 0 (eY (I a 5 !=0)) (e46 J m eX []))) (jj J 0 11 0 (eY (I a 5 !=0)) (e46 J m eX [])))) (cond (I a 0 !=1) ((bD m (fld a 4) aj).bind fun f=>cond (!f) (jj J 0 11 0 (eY true) (e46 J m eX [])) (jj J 0 11 0 (eY (I a 5 !=0)) (e46 J m eX []))) (jj J 0 11 0 (eY (I a 5 !=0)) (e46 J m eX []))))) (cond (I a 0 !=34) (cond (0<((L a 3).length:Int)) (jj J 0 11 0 (eY true) (e46 J m eX [])) (cond (I a 0 !=1) ((bD m (fld a 4) aj).bind fun h=>cond (!h) (jj J 0 11 0 (eY true) (e46 J m eX [])) (jj J 0 11 0 (eY (I a 5 !=0)) (e46 J m eX []))) (jj J 0 11 0 (eY (I a 5 !=0)) (e46 J m eX [])))) (cond (I a 0 !=1) ((bD m (fld a 4) aj).bind fun i=>cond (!i) (jj J 0 11 0 (eY true) (e46 J m eX [])) (jj J 0 11 0 (eY (I a 5 !=0)) (e46 J m eX []))) (jj J 0 11 0 (eY (I a 5 !=0)) (e46 J m eX []))))))) (by simp only[aM,J2 m];rfl)
theorem J4 m b c a:e46 jn m Ua [] (Ub b c a)=lF m b c a:=
 tq (g:=fun J=>cond c (some 9) (cond (I a 0==1) ((iO m (fld a 4)).bind fun d=>jj J 0 9 0 (akz b (!d) a) (e46 J m aky [])) (jj J 0 9 0 (akz b false a) (e46 J m aky [])))) (by simp only[aM,J3 m];rfl)
theorem J5 m b a:e46 jn m [1,1,1,1] [] (aeF b a)=oo m b a:=
 tq (g:=fun J=>cond b ((ig m (S a 2)).bind fun e=>cond (!e) (jj J 0 7 0 (Ub b true a) (e46 J m Ua [])) (cond (I a 0==34) ((mV m (L a 3)).bind fun c=>jj J 0 7 0 (Ub b (!c) a) (e46 J m Ua [])) (jj J 0 7 0 (Ub b false a) (e46 J m Ua [])))) (cond (I a 0==34) ((mV m (L a 3)).bind fun d=>jj J 0 7 0 (Ub b (!d) a) (e46 J m Ua [])) (jj J 0 7 0 (Ub b false a) (e46 J m Ua [])))) (by simp only[aM,J4 m];rfl)
theorem J6 m b a:e46 jn m [1,1,0,1] [] (LA b a)=iI m b a:=
 tq (g:=fun J=>cond b (some 10) (cond (I a 0==3) (jj J 0 6 0 (aeF true a) (e46 J m [1,1,1,1] [])) (cond (I a 0==32) (jj J 0 6 0 (aeF true a) (e46 J m [1,1,1,1] [])) (jj J 0 6 0 (aeF (I a 0==33) a) (e46 J m [1,1,1,1] []))))) (by simp only[aM,J5 m];rfl)
theorem J7 m b a:e46 jn m [1,0,1] [] (EN b a)=fF m b a:=
 tq (g:=fun J=>cond b (some 11) (cond (I a 0==2) ((fZ m (L a 1)).bind fun e=>cond (!e) (jj J 0 4 0 (LA true a) (e46 J m [1,1,0,1] [])) (cond (I a 0==3) (bif 0<((L a 1).length:Int)then(fZ m (L a 1)).bind fun c=>jj J 0 4 0 (LA (!c) a) (e46 J m [1,1,0,1] [])else jj J 0 4 0 (LA false a) (e46 J m [1,1,0,1] [])) (jj J 0 4 0 (LA false a) (e46 J m [1,1,0,1] [])))) (cond (I a 0==3) (bif 0<((L a 1).length:Int)then(fZ m (L a 1)).bind fun d=>jj J 0 4 0 (LA (!d) a) (e46 J m [1,1,0,1] [])else jj J 0 4 0 (LA false a) (e46 J m [1,1,0,1] [])) (jj J 0 4 0 (LA false a) (e46 J m [1,1,0,1] []))))) (by simp only[aM,J6 m];rfl)
theorem Rv m a:e46 jn m [] [] ⟨[.dat 29 a],[],0⟩=qP (m+1) a:=
 tq (g:=fun J=>cond (I a 0<1) (jj J 0 2 0 (EN true a) (e46 J m [1,0,1] [])) (cond (37<I a 0) (jj J 0 2 0 (EN true a) (e46 J m [1,0,1] [])) ((oP m (I a 0)).bind fun b=>cond (0<=b) ((oP m (I a 0)).bind fun c=>cond (((L a 6).length:Int) !=c) (jj J 0 2 0 (EN true a) (e46 J m [1,0,1] [])) (cond (I a 0==34) (bif ((L a 6).length:Int) !=((L a 3).length:Int)then jj J 0 2 0 (EN true a) (e46 J m [1,0,1] [])else jj J 0 2 0 (EN (((L a 6).length:Int)==0) a) (e46 J m [1,0,1] [])) (jj J 0 2 0 (EN false a) (e46 J m [1,0,1] [])))) (cond (I a 0==34) (bif ((L a 6).length:Int) !=((L a 3).length:Int)then jj J 0 2 0 (EN true a) (e46 J m [1,0,1] [])else jj J 0 2 0 (EN (((L a 6).length:Int)==0) a) (e46 J m [1,0,1] [])) (jj J 0 2 0 (EN false a) (e46 J m [1,0,1] [])))))) (by simp only[aM,J7 m];rfl)
def akA:List Nat:=[1,1,1,0,1,0]
def e30(J:Q30)(m:Nat):=evAt Tryz.prog env (ct m) J (m+1) 28 51 Tryz.f28 d30
def l30(J:Q30)(m:Nat):=loopAt Tryz.prog env (ct m) J (m+1) 28 51 Tryz.f28 d30
def akB(a b c:Int)(d:Dt):St:=⟨tsOf [(1,.dat 3 (.int a)),(2,.dat 3 (.int b)),(3,.ptr 0 [] 0),(9,.dat 3 (.int c))],[.box 29 (.dat 29 d)],0⟩
def akC(a b:Int)(c:Bool)(d:Dt):St:=⟨tsOf [(1,.dat 3 (.int a)),(2,.dat 3 (.int b)),(3,.ptr 0 [] 0),(17,.dat 4 (.bool c))],[.box 29 (.dat 29 d)],0⟩
theorem yB m:∀a d e b c,l30 jn m akA [] a (akB d e b c)=mD m (fE m) a d e b c
 |0,_,_,_,_=>rfl
 |a+1,d,e,b,c=>
  tl (g:=fun J=>bif b<((L c 6).length:Int)then(idx (L c 6) b).bind fun h=>(fE m h (wrap .i64 (d+1)) (wrap .i64 (e+1))).bind fun f=>cond (f.2 !=0) (some (f.1,f.2)) (jj J 1 7 a (akB f.1 e (wrap .i64 (b+1)) c) (l30 J m akA [] a))else some (d,0)) (by simp only[aM,(yB m a)];rfl)
theorem Hg m a c d b:e30 jn m [1,0,1] [] (akC a c d b)=rU m (fE m) a c d b:=
 tq (g:=fun J=>cond d (some (a,2)) ((qP m b).bind fun e=>cond (e !=0) (some (a,e)) (jj J 1 7 (succ m) (akB a c 0 b) (l30 J m akA [] (succ m))))) (by simp only[aM,yB m];rfl)
theorem Oy m c a b:e30 jn m [] [] ⟨[.dat 29 c,.dat 3 (.int a),.dat 3 (.int b)],[],0⟩=fE (m+1) c a b:=
 tq (g:=fun J=>cond (16<b) (jj J 0 2 0 (akC a b true c) (e30 J m [1,0,1] [])) (jj J 0 2 0 (akC a b (decide (256<a)) c) (e30 J m [1,0,1] []))) (by simp only[aM,Hg m];rfl)
def e9(J:Q2)(m:Nat):=evAt Tryz.prog env (ct m) J (m+1) 11 11 Tryz.f11 d13
theorem Oz m a:e9 jn m [] [] ⟨[.dat 29 a],[],0⟩=gU (m+1) a:=
 tq (g:=fun J=>(fE m a 1 1).bind fun b=>some b.2) (by rfl)
end Go.Proofs.YtjibjkdalajaiaaGreatDoor
noncomputable section
namespace Go.Proofs.YtjibjkdalajaiaaGreatDoor
open Nat (succ)
open IntKind (wrap)
open Go.Am Dt
set_option maxRecDepth 100000
def anS:List Nat:=[1,1,0,1,0]
def akD:List Nat:=[1,1,1,0,1,0]
def akE:List Nat:=[1,1,0,1,0,0,1,1]
def auB:List Nat:=akE++[1]
def anT:List Nat:=akD++[0,1,1]
def auC:List Nat:=anT++[1]
def arE:List Nat:=akE++[0,0,1,1]
def rJ:List Nat:=arE++[1]
def abY:List Nat:=akE++[0,0,1,0,1]
def arF:List Nat:=anT++[0,0,1,1]
def e1(J:Q1)(m:Nat):=evAt Tryz.prog env (ct m) J (m+1) 4 135 Tryz.f4 d32
def l1(J:Q1)(m:Nat):=loopAt Tryz.prog env (ct m) J (m+1) 4 135 Tryz.f4 d32
def Ze(a b:List Dt)(c d:Int)(e:Dt):St:=⟨tsOf [(1,.dat 23 (.lst a)),(2,.ptr 0 [] 0),(24,.dat 33 (.lst b)),(25,.dat 3 (.int c)),(26,.dat 3 (.int d))],[.box 35 (.dat 35 e)],0⟩
def rM(a b:List Dt)(c d:Int)(e:Bool)(f:Dt):St:=⟨tsOf [(1,.dat 23 (.lst a)),(2,.ptr 0 [] 0),(24,.dat 33 (.lst b)),(25,.dat 3 (.int c)),(26,.dat 3 (.int d)),(113,.dat 4 (.bool e))],[.box 35 (.dat 35 f)],0⟩
def auD(a b:List Dt)(c d:Int)(e f:Dt):St:=⟨tsOf [(1,.dat 23 (.lst a)),(2,.ptr 0 [] 0),(6,.ptr 1 [] 0),(24,.dat 33 (.lst b)),(25,.dat 3 (.int c)),(26,.dat 3 (.int d))],[.box 35 (.dat 35 e),.box 32 (.dat 32 f)],0⟩
def abZ(a b:List Dt)(c d:Int)(e:Bool)(f g:Dt):St:=⟨tsOf [(1,.dat 23 (.lst a)),(2,.ptr 0 [] 0),(6,.ptr 1 [] 0),(24,.dat 33 (.lst b)),(25,.dat 3 (.int c)),(26,.dat 3 (.int d)),(62,.dat 4 (.bool e))],[.box 35 (.dat 35 f),.box 32 (.dat 32 g)],0⟩
def LB(a:List Dt)(b c:Int):St:=⟨tsOf [(1,.dat 23 (.lst a)),(116,.dat 3 (.int b)),(117,.dat 3 (.int c))],[],0⟩
def akF(a:List Dt)(b c:Int)(d:Bool):St:=⟨tsOf [(1,.dat 23 (.lst a)),(116,.dat 3 (.int b)),(117,.dat 3 (.int c)),(133,.dat 4 (.bool d))],[],0⟩
def apR:St:=⟨tsOf [],[],0⟩
def auE(a:List Dt):St:=⟨tsOf [(1,.dat 23 (.lst a))],[],0⟩
def auF(a:List Dt)(b:Dt):St:=⟨tsOf [(1,.dat 23 (.lst a)),(2,.ptr 0 [] 0)],[.box 35 (.dat 35 b)],0⟩
def anU(a:List Dt)(b:Bool)(c:Dt):St:=⟨tsOf [(1,.dat 23 (.lst a)),(2,.ptr 0 [] 0),(22,.dat 4 (.bool b))],[.box 35 (.dat 35 c)],0⟩
abbrev akG(m g:Nat)(a:Q38):Prop:=∀b c d e f,l1 jn m anS [] g (Ze b c d e f)=a b c d e f
theorem J8 m b a(i:akG m b a) c d e f h:e1 jn m auB [b] (Ze c d e f h)=EH m a c d e f h:=
 tq (g:=fun J=>jj J 1 4 b (Ze c d e (wrap .i64 (f+1)) h) (l1 J m anS [] b)) (by simp only[aM,i];rfl)
theorem J9 m b a(j:akG m b a) c d e f h i:e1 jn m rJ [b] (rM c d e f h i)=bG m a c d e f h i:=
 tq (g:=fun J=>cond h (some false) (jj J 0 10 0 (Ze c d e f i) (e1 J m auB [b]))) (by simp only[aM,J8 m b a j];rfl)
theorem Ka m b i(j:akG m b i) c d e f h a:e1 jn m arE [b] (auD c d e f h a)=EI m i c d e f h a:=
 tq (g:=fun J=>cond (I a 1 !=2) ((gU m (fld a 2)).bind fun k=>cond (k !=0) (jj J 0 9 0 (rM c d e f true h) (e1 J m rJ [b])) (cond (I a 1==10) (cond (I a 4<1) (jj J 0 9 0 (rM c d e f true h) (e1 J m rJ [b])) (cond (64<I a 4) (jj J 0 9 0 (rM c d e f true h) (e1 J m rJ [b])) (cond (I a 1 !=10) (cond (I a 4 !=0) (jj J 0 9 0 (rM c d e f true h) (e1 J m rJ [b])) (cond (0<((L a 3).length:Int)) (jj J 0 9 0 (rM c d e f true h) (e1 J m rJ [b])) (cond (I a 1==2) (jj J 0 9 0 (rM c d e f (I (fld a 2) 0 !=0) h) (e1 J m rJ [b])) (jj J 0 9 0 (rM c d e f false h) (e1 J m rJ [b]))))) (cond (I a 1==2) (jj J 0 9 0 (rM c d e f (I (fld a 2) 0 !=0) h) (e1 J m rJ [b])) (jj J 0 9 0 (rM c d e f false h) (e1 J m rJ [b])))))) (cond (I a 1 !=10) (cond (I a 4 !=0) (jj J 0 9 0 (rM c d e f true h) (e1 J m rJ [b])) (cond (0<((L a 3).length:Int)) (jj J 0 9 0 (rM c d e f true h) (e1 J m rJ [b])) (cond (I a 1==2) (jj J 0 9 0 (rM c d e f (I (fld a 2) 0 !=0) h) (e1 J m rJ [b])) (jj J 0 9 0 (rM c d e f false h) (e1 J m rJ [b]))))) (cond (I a 1==2) (jj J 0 9 0 (rM c d e f (I (fld a 2) 0 !=0) h) (e1 J m rJ [b])) (jj J 0 9 0 (rM c d e f false h) (e1 J m rJ [b])))))) (cond (I a 1==10) (cond (I a 4<1) (jj J 0 9 0 (rM c d e f true h) (e1 J m rJ [b])) (cond (64<I a 4) (jj J 0 9 0 (rM c d e f true h) (e1 J m rJ [b])) (cond (I a 1 !=10) (cond (I a 4 !=0) (jj J 0 9 0 (rM c d e f true h) (e1 J m rJ [b])) (cond (0<((L a 3).length:Int)) (jj J 0 9 0 (rM c d e f true h) (e1 J m rJ [b])) (cond (I a 1==2) (jj J 0 9 0 (rM c d e f (I (fld a 2) 0 !=0) h) (e1 J m rJ [b])) (jj J 0 9 0 (rM c d e f false h) (e1 J m rJ [b]))))) (cond (I a 1==2) (jj J 0 9 0 (rM c d e f (I (fld a 2) 0 !=0) h) (e1 J m rJ [b])) (jj J 0 9 0 (rM c d e f false h) (e1 J m rJ [b])))))) (cond (I a 1 !=10) (cond (I a 4 !=0) (jj J 0 9 0 (rM c d e f true h) (e1 J m rJ [b])) (cond (0<((L a 3).length:Int)) (jj J 0 9 0 (rM c d e f true h) (e1 J m rJ [b])) (cond (I a 1==2) (jj J 0 9 0 (rM c d e f (I (fld a 2) 0 !=0) h) (e1 J m rJ [b])) (jj J 0 9 0 (rM c d e f false h) (e1 J m rJ [b]))))) (cond (I a 1==2) (jj J 0 9 0 (rM c d e f (I (fld a 2) 0 !=0) h) (e1 J m rJ [b])) (jj J 0 9 0 (rM c d e f false h) (e1 J m rJ [b])))))) (by simp only[aM,J9 m b i j];rfl)
theorem Kc m b a(k:akG m b a) c d e f h i j:e1 jn m abY [b] (abZ c d e f h i j)=lG m a c d e f h i j:=
 tq (g:=fun J=>cond h (some false) (jj J 0 8 0 (auD c d e f i j) (e1 J m arE [b]))) (by simp only[aM,Ka m b a k];rfl)
theorem Ke m c a(k:akG m c a) f d h b e:e1 jn m akE [c] (Ze f d h b e)=EJ m a f d h b e:=
 tq (g:=fun J=>(idx d b).bind fun j=>bif (S j 0).toList==[]then jj J 0 7 0 (abZ f d h b true e j) (e1 J m abY [c])else bif (S j 0).toList==[95,105,100]then jj J 0 7 0 (abZ f d h b true e j) (e1 J m abY [c])else(cutL (L e 1) 0 b).bind fun l=>(i10 m l j).bind fun i=>cond i.1 (jj J 0 7 0 (abZ f d h b true e i.2) (e1 J m abY [c])) (cond (I i.2 1<1) (jj J 0 7 0 (abZ f d h b true e i.2) (e1 J m abY [c])) (cond (10<I i.2 1) (jj J 0 7 0 (abZ f d h b true e i.2) (e1 J m abY [c])) ((uR m (L i.2 3)).bind fun n=>jj J 0 7 0 (abZ f d h b (n !=0) e i.2) (e1 J m abY [c]))))) (by simp only[aM,Kc m c a k];rfl)
abbrev akH(m b:Nat)(a:Q15):Prop:=∀c d e,l1 jn m akD [] b (LB c d e)=a c d e
theorem Hl m b a(c:akH m b a) d e f:e1 jn m auC [b] (LB d e f)=rV m a d e f:=
 tq (g:=fun J=>jj J 1 12 b (LB d e (wrap .i64 (f+1))) (l1 J m akD [] b)) (by simp only[aM,c];rfl)
theorem Ho m b a(c:akH m b a) d e f h:e1 jn m arF [b] (akF d e f h)=wG m a d e f h:=
 tq (g:=fun J=>cond h (some false) (jj J 0 16 0 (LB d e f) (e1 J m auC [b]))) (by simp only[aM,Hl m b a c];rfl)
theorem Hq m b a(f:akH m b a) c e d:e1 jn m anT [b] (LB c e d)=wH m a c e d:=
 tq (g:=fun J=>(idx c d).bind fun h=>cond (I h 0 !=5) (jj J 0 15 0 (akF c e d true) (e1 J m arF [b])) ((idx c d).bind fun i=>(iO m i).bind fun j=>jj J 0 15 0 (akF c e d (!j)) (e1 J m arF [b]))) (by simp only[aM,Ho m b a f];rfl)
theorem Hr m:e1 jn m [1,1,1,1] [] apR=CO m:=
 tq (g:=fun J=>some true) (by rfl)
theorem yC m:∀a d b c,l1 jn m akD [] a (LB d b c)=mE m a d b c
 |0,_,_,_=>rfl
 |a+1,d,b,c=>
  tl (g:=fun J=>cond (c<b) (jj J 0 13 0 (LB d b c) (e1 J m anT [a])) (jj J 0 17 0 apR (e1 J m [1,1,1,1] []))) (by simp only[aM,Hq m a (mE m a) (yC m a),Hr m];rfl)
theorem Kg m a:e1 jn m [1,1,1] [] (auE a)=qx m a:=
 tq (g:=fun J=>jj J 1 12 (succ m) (LB a (a.length:Int) 0) (l1 J m akD [] (succ m))) (by simp only[aM,yC m];rfl)
theorem zY m:∀a b e c d f,l1 jn m anS [] a (Ze b e c d f)=uD m a b e c d f
 |0,_,_,_,_,_=>rfl
 |a+1,b,e,c,d,f=>
  tl (g:=fun J=>cond (d<c) (jj J 0 5 0 (Ze b e c d f) (e1 J m akE [a])) (jj J 0 11 0 (auE b) (e1 J m [1,1,1] []))) (by simp only[aM,Ke m a (uD m a) (zY m a),Kg m];rfl)
theorem Kh m b a:e1 jn m [1,1] [] (auF b a)=uE m b a:=
 tq (g:=fun J=>jj J 1 4 (succ m) (Ze b (L a 1) ((L a 1).length:Int) 0 a) (l1 J m anS [] (succ m))) (by simp only[aM,zY m];rfl)
theorem Ki m a b c:e1 jn m [1,0,1] [] (anU a b c)=qy m a b c:=
 tq (g:=fun J=>cond b (some false) (jj J 0 3 0 (auF a c) (e1 J m [1,1] []))) (by simp only[aM,Kh m];rfl)
theorem Rw m a b:e1 jn m [] [] ⟨[.dat 35 a,.dat 23 (.lst b)],[],0⟩=tJ (m+1) a b:=
 tq (g:=fun J=>cond (8<((L a 1).length:Int)) (jj J 0 2 0 (anU b true a) (e1 J m [1,0,1] [])) (bif 30<(b.length:Int)then jj J 0 2 0 (anU b true a) (e1 J m [1,0,1] [])else(gU m (fld a 0)).bind fun c=>jj J 0 2 0 (anU b (c !=0) a) (e1 J m [1,0,1] []))) (by simp only[aM,Ki m];rfl)
def e72(J:Q1)(m:Nat):=evAt Tryz.prog env (ct m) J (m+1) 134 28 Tryz.f134 d32
theorem OA m a:e72 jn m [] [] ⟨[.dat 26 a],[],0⟩=oU (m+1) a:=
 tq (g:=fun J=>cond (I a 0==0) (cond (I a 1==0) (bif (S a 2).toList==[]then cond (((L a 3).length:Int)==0) (some (((L a 4).length:Int)==0)) (some false)else some false) (some false)) (some false)) (by rfl)
def aeG:List Nat:=[1,0,1,0,1]
def EO:List Nat:=[1,0,1,0,1,1,1]
def aeH:List Nat:=EO++[1,1]
def aeI:List Nat:=aeH++[1,1]
def LC:List Nat:=aeI++[1,1]
def e74(J:Q2)(m:Nat):=evAt Tryz.prog env (ct m) J (m+1) 130 35 Tryz.f130 d28
def LD(a:Int)(b:Bool):St:=⟨tsOf [(3,.dat 3 (.int a)),(23,.dat 4 (.bool b))],[],0⟩
def akI(a:Int)(b:Bool):St:=⟨tsOf [(3,.dat 3 (.int a)),(20,.dat 4 (.bool b))],[],0⟩
def akJ(a:Int)(b:Bool):St:=⟨tsOf [(3,.dat 3 (.int a)),(17,.dat 4 (.bool b))],[],0⟩
def Ht(a:Int)(b:Bool):St:=⟨tsOf [(3,.dat 3 (.int a)),(8,.dat 4 (.bool b))],[],0⟩
def aeJ(a:Int)(b:Bool):St:=⟨tsOf [(3,.dat 3 (.int a)),(4,.dat 4 (.bool b))],[],0⟩
theorem Kj m a b:e74 jn m LC [] (LD a b)=jC m a b:=
 tq (g:=fun J=>cond b (some 5) (cond (a==35) (some 6) (cond (a==34) (some 7) (some 2)))) (by rfl)
theorem Kk m a b:e74 jn m aeI [] (akI a b)=ze m a b:=
 tq (g:=fun J=>cond b (some 4) (cond (a==4) (jj J 0 28 0 (LD a (a==4)) (e74 J m LC [])) (cond (a==6) (jj J 0 28 0 (LD a (a==6)) (e74 J m LC [])) (cond (a==16) (jj J 0 28 0 (LD a (a==16)) (e74 J m LC [])) (cond (a==17) (jj J 0 28 0 (LD a (a==17)) (e74 J m LC [])) (cond (a==21) (jj J 0 28 0 (LD a (a==21)) (e74 J m LC [])) (cond (a==29) (jj J 0 28 0 (LD a (a==29)) (e74 J m LC [])) (jj J 0 28 0 (LD a (a==37)) (e74 J m LC []))))))))) (by simp only[aM,Kj m];rfl)
theorem Kl m a b:e74 jn m aeH [] (akJ a b)=zf m a b:=
 tq (g:=fun J=>cond b (some 3) (cond (a==19) (jj J 0 20 0 (akI a (a==19)) (e74 J m aeI [])) (jj J 0 20 0 (akI a (a==25)) (e74 J m aeI [])))) (by simp only[aM,Kk m];rfl)
theorem Km m a b:e74 jn m EO [] (Ht a b)=iJ m a b:=
 tq (g:=fun J=>cond b (some 1) (cond (a==32) (jj J 0 17 0 (akJ a (a==32)) (e74 J m aeH [])) (jj J 0 17 0 (akJ a (a==33)) (e74 J m aeH [])))) (by simp only[aM,Kl m];rfl)
theorem Kn m a b:e74 jn m aeG [] (aeJ a b)=uF m a b:=
 tq (g:=fun J=>cond b (some 0) (cond (a==18) (jj J 0 14 0 (Ht a (a==18)) (e74 J m EO [])) (cond (a==22) (jj J 0 14 0 (Ht a (a==22)) (e74 J m EO [])) (cond (a==23) (jj J 0 14 0 (Ht a (a==23)) (e74 J m EO [])) (cond (a==24) (jj J 0 14 0 (Ht a (a==24)) (e74 J m EO [])) (cond (a==26) (jj J 0 14 0 (Ht a (a==26)) (e74 J m EO [])) (cond (a==30) (jj J 0 14 0 (Ht a (a==30)) (e74 J m EO [])) (cond (a==31) (jj J 0 14 0 (Ht a (a==31)) (e74 J m EO [])) (jj J 0 14 0 (Ht a (a==36)) (e74 J m EO [])))))))))) (by simp only[aM,Km m];rfl)
theorem Rx m a:e74 jn m [] [] ⟨[.dat 3 (.int a)],[],0⟩=oV (m+1) a:=
 tq (g:=fun J=>cond (a==1) (jj J 0 5 0 (aeJ a (a==1)) (e74 J m aeG [])) (cond (a==2) (jj J 0 5 0 (aeJ a (a==2)) (e74 J m aeG [])) (jj J 0 5 0 (aeJ a (a==3)) (e74 J m aeG [])))) (by simp only[aM,Kn m];rfl)
def akK:List Nat:=[1,0,1,0,1,1,1,1,1]
def e75(J:Q1)(m:Nat):=evAt Tryz.prog env (ct m) J (m+1) 129 27 Tryz.f129 d32
def akL(a b:Int)(c:Bool):St:=⟨tsOf [(1,.dat 3 (.int a)),(5,.dat 3 (.int b)),(14,.dat 4 (.bool c))],[],0⟩
theorem Fy m a b c:e75 jn m akK [] (akL a b c)=uZ m a b c:=
 tq (g:=fun J=>cond c (some (a==2)) (cond (b==4) (some (a==3)) (cond (b==7) (some (decide (1<=a))) (some true)))) (by rfl)
theorem Mc m a b:e75 jn m [] [] ⟨[.dat 3 (.int a),.dat 3 (.int b)],[],0⟩=pW (m+1) a b:=
 tq (g:=fun J=>cond (a==0) (some (b==0)) (cond (a==1) (some (b==1)) (cond (a==2) (jj J 0 8 0 (akL b a (a==2)) (e75 J m akK [])) (jj J 0 8 0 (akL b a (a==3)) (e75 J m akK []))))) (by simp only[aM,Fy m];rfl)
def auG:List Nat:=[1,1,0,1,0,1,0,1]
def akM:List Nat:=auG++[0]
def auH:List Nat:=[1,1,0,1,0,1,1,1,0,1,0,1]
def Zf:List Nat:=auH++[0]
def auI:List Nat:=Zf++[0,1,1]
def akN:List Nat:=auI++[1]
def e76(J:Q0)(m:Nat):=evAt Tryz.prog env (ct m) J (m+1) 109 63 Tryz.f109 d25
def l76(J:Q0)(m:Nat):=loopAt Tryz.prog env (ct m) J (m+1) 109 63 Tryz.f109 d25
def akO(a b:List Dt)(c d:Int)(e:Dt):St:=⟨tsOf [(1,.dat 22 (.lst a)),(4,.ptr 0 [] 0),(20,.dat 24 (.lst b)),(21,.dat 3 (.int c)),(22,.dat 3 (.int d))],[.box 26 (.dat 26 e)],0⟩
def OB(a b:List Dt)(c d:Int)(e:Dt)(f g:Int)(h:ByteArray)(i j:List Dt):St:=⟨tsOf [(1,.dat 22 (.lst a)),(4,.ptr 0 [] 0),(7,.ptr 1 [] 0),(42,.dat 23 (.lst b)),(43,.dat 3 (.int c)),(44,.dat 3 (.int d))],[.box 26 (.dat 26 e),.box 26 (.agg 26 [.dat 3 (.int f),.dat 3 (.int g),.dat 9 (.str h),.row 2,.row 3]),.row 23 i,.row 24 j],0⟩
theorem wQ m:∀b a d e c f,l76 jn m akM [] b (akO a d e c f)=nN m (bU m) b a d e c f
 |0,_,_,_,_,_=>rfl
 |b+1,a,d,e,c,f=>
  tl (g:=fun J=>cond (c<e) ((idx d c).bind fun h=>(idx a 0).bind fun i=>cond ((S h 0).toList==(toStr i).toList) ((cutL a 1 (a.length:Int)).bind fun j=>(bU m (fld h 1) j).bind fun k=>some k) (jj J 1 6 b (akO a d e (wrap .i64 (c+1)) f) (l76 J m akM [] b))) (some aj)) (by simp only[aM,(wQ m b)];rfl)
abbrev auJ(m l:Nat)(a:Q63):Prop:=∀b c d e f g h i j k,l76 jn m Zf [] l (OB b c d e f g h i j k)=a b c d e f g h i j k
theorem Fz m b a(o:auJ m b a) c d e f h i j k l n:e76 jn m akN [b] (OB c d e f h i j k l n)=iZ m (bU m) a c d e f h i j k l n:=
 tq (g:=fun J=>jj J 1 14 b (OB c d e (wrap .i64 (f+1)) h i j k l n) (l76 J m Zf [] b)) (by simp only[aM,o];rfl)
theorem wR m:∀a c d e b l f h i j k,l76 jn m Zf [] a (OB c d e b l f h i j k)=jc m (bU m) a c d e b l f h i j k
 |0,_,_,_,_,_,_,_,_,_,_=>rfl
 |a+1,c,d,e,b,l,f,h,i,j,k=>
  tl (g:=fun J=>cond (b<e) ((idx d b).bind fun o=>(bU m o c).bind fun n=>cond (I n 0 !=0) ((app j [n]).bind fun p=>jj J 0 19 0 (OB c d e b l f h i p k) (e76 J m akN [a])) (jj J 0 19 0 (OB c d e b l f h i j k) (e76 J m akN [a]))) (some (agg [int f,int h,str i,lst j,lst k]))) (by simp only[aM,Fz m a (jc m (bU m) a) (wR m a)];rfl)
theorem Md m a b:e76 jn m [] [] ⟨[.dat 26 a,.dat 22 (.lst b)],[],0⟩=bU (m+1) a b:=
 tq (g:=fun J=>cond ((b.length:Int)==0) (some a) (cond (I a 0==5) (jj J 1 6 (succ m) (akO b (L a 4) ((L a 4).length:Int) 0 aj) (l76 J m akM [] (succ m))) (cond (I a 0==6) (jj J 1 14 (succ m) (OB b (L a 3) ((L a 3).length:Int) 0 aj 6 0 (ByteArray.mk (List.toArray [])) [] []) (l76 J m Zf [] (succ m))) (some aj)))) (by simp only[aM,wQ m,wR m];rfl)
def e83(J:Q0)(m:Nat):=evAt Tryz.prog env (ct m) J (m+1) 116 5 Tryz.f116 d25
theorem vg m a:e83 jn m [] [] ⟨[.dat 3 (.int a)],[],0⟩=bM (m+1) a:=
 tq (g:=fun J=>some (agg [int 3,int a,str (ByteArray.mk (List.toArray [])),lst [],lst []])) (by rfl)
def e90(J:Q0)(m:Nat):=evAt Tryz.prog env (ct m) J (m+1) 89 8 Tryz.f89 d25
theorem Ry m a:e90 jn m [] [] ⟨[.dat 26 a],[],0⟩=nE (m+1) a:=
 tq (g:=fun J=>cond (I a 0==0) ((bZ m).bind fun b=>some b) (some a)) (by rfl)
def e91(J:Q1)(m:Nat):=evAt Tryz.prog env (ct m) J (m+1) 90 27 Tryz.f90 d32
theorem Rz m a:e91 jn m [] [] ⟨[.dat 26 a],[],0⟩=fQ (m+1) a:=
 tq (g:=fun J=>cond (2<I a 0) (cond (I a 0==9) (cond (!I a 1==0) (some true) (some (I a 0==1))) (cond (I a 0==3) (cond (!I a 1==0) (some true) (some (I a 0==1))) (some true))) (some (I a 0==1))) (by rfl)
def e94(J:Q0)(m:Nat):=evAt Tryz.prog env (ct m) J (m+1) 93 6 Tryz.f93 d25
theorem Ko m a:e94 jn m [] [] ⟨[.dat 4 (.bool a)],[],0⟩=bO (m+1) a:=
 tq (g:=fun J=>cond a (some M6) (some M5)) (by rfl)
def e93(J:Q0)(m:Nat):=evAt Tryz.prog env (ct m) J (m+1) 92 26 Tryz.f92 d25
def l93(J:Q0)(m:Nat):=loopAt Tryz.prog env (ct m) J (m+1) 92 26 Tryz.f92 d25
def akP(a:Int)(b:List Dt)(c:Int)(d:Dt):St:=⟨tsOf [(0,.dat 3 (.int a)),(1,.dat 23 (.lst b)),(4,.ptr 0 [] 0),(5,.dat 3 (.int c))],[.box 26 (.dat 26 d)],0⟩
theorem yD m:∀b a c d e,l93 jn m [1,0,1,0] [] b (akP a c d e)=oW m b a c d e
 |0,_,_,_,_=>rfl
 |b+1,a,c,d,e=>
  tl (g:=fun J=>bif d<(c.length:Int)then(idx c d).bind fun f=>(fQ m f).bind fun h=>cond (h==(a==17)) ((bO m (a==17)).bind fun i=>some i) (jj J 1 2 b (akP a c (wrap .i64 (d+1)) e) (l93 J m [1,0,1,0] [] b))else(bO m (a==16)).bind fun j=>some j) (by simp only[aM,(yD m b)];rfl)
theorem OC m a b:e93 jn m [] [] ⟨[.dat 3 (.int a),.dat 23 (.lst b)],[],0⟩=mY (m+1) a b:=
 tq (g:=fun J=>jj J 1 2 (succ m) (akP a b 0 aj) (l93 J m [1,0,1,0] [] (succ m))) (by simp only[aM,yD m];rfl)
def e96(J:Q0)(m:Nat):=evAt Tryz.prog env (ct m) J (m+1) 95 5 Tryz.f95 d25
theorem Wd m a:e96 jn m [] [] ⟨[.dat 3 (.int a)],[],0⟩=dP (m+1) a:=
 tq (g:=fun J=>some (agg [int 3,int a,str (ByteArray.mk (List.toArray [])),lst [],lst []])) (by rfl)
def aeK:List Nat:=[1,1,0,1,0]
def apS:List Nat:=[1,1,0,1,0,0,1]
def Zg:List Nat:=apS++[0,0,1,1]
def akQ:List Nat:=Zg++[1]
def aeL:List Nat:=apS++[0,0,1,0,1]
def aeM:List Nat:=Zg++[0,1]
def e97(J:Q86)(m:Nat):=evAt Tryz.prog env (ct m) J (m+1) 97 46 Tryz.f97 d97
def l97(J:Q86)(m:Nat):=loopAt Tryz.prog env (ct m) J (m+1) 97 46 Tryz.f97 d97
def aeN(a:ByteArray)(b:Bool)(c:ByteArray)(d:Int):St:=⟨tsOf [(0,.dat 9 (.str a)),(1,.dat 4 (.bool b)),(5,.dat 9 (.str c)),(6,.dat 3 (.int d))],[],0⟩
def Uc(a:ByteArray)(b:Bool)(c:ByteArray)(d e:Int):St:=⟨tsOf [(0,.dat 9 (.str a)),(1,.dat 4 (.bool b)),(5,.dat 9 (.str c)),(6,.dat 3 (.int d)),(7,.dat 5 (.int e))],[],0⟩
def aeO(a:ByteArray)(b:Bool)(c:ByteArray)(d e:Int)(f:Bool):St:=⟨tsOf [(0,.dat 9 (.str a)),(1,.dat 4 (.bool b)),(5,.dat 9 (.str c)),(6,.dat 3 (.int d)),(7,.dat 5 (.int e)),(37,.dat 4 (.bool f))],[],0⟩
def aeP(a:ByteArray)(b:Bool)(c:ByteArray)(d e:Int)(f:Bool):St:=⟨tsOf [(0,.dat 9 (.str a)),(1,.dat 4 (.bool b)),(5,.dat 9 (.str c)),(6,.dat 3 (.int d)),(7,.dat 5 (.int e)),(25,.dat 4 (.bool f))],[],0⟩
abbrev aeQ(m f:Nat)(a:Q34):Prop:=∀b c d e,l97 jn m aeK [] f (aeN b c d e)=a b c d e
theorem Ej m b a(i:aeQ m b a) e f c h d:e97 jn m akQ [b] (Uc e f c h d)=mF m a e f c h d:=
 tq (g:=fun J=>cond (Nat.ble (c.size+(strOfNums [d]).size) 1152921504606846976) (jj J 1 3 b (aeN e f (c++strOfNums [d]) (wrap .i64 (h+1))) (l97 J m aeK [] b)) none) (by simp only[aM,i];rfl)
theorem El m b a(j:aeQ m b a) c d e f h i:e97 jn m aeM [b] (aeO c d e f h i)=gq m a c d e f h i:=
 tq (g:=fun J=>cond i (jj J 0 10 0 (Uc c d e f (wrap IntKind.u8 (h+32))) (e97 J m akQ [b])) (jj J 0 10 0 (Uc c d e f h) (e97 J m akQ [b]))) (by simp only[aM,Ej m b a j];rfl)
theorem Em m c a(i:aeQ m c a) e d f h b:e97 jn m Zg [c] (Uc e d f h b)=iq m a e d f h b:=
 tq (g:=fun J=>cond (!d) (cond (65<=b) (jj J 0 9 0 (aeO e d f h b (decide (b<=90))) (e97 J m aeM [c])) (jj J 0 9 0 (aeO e d f h b false) (e97 J m aeM [c]))) (jj J 0 9 0 (aeO e d f h b false) (e97 J m aeM [c]))) (by simp only[aM,El m c a i];rfl)
theorem En m b a(j:aeQ m b a) c d e f h i:e97 jn m aeL [b] (aeP c d e f h i)=gu m a c d e f h i:=
 tq (g:=fun J=>cond i (jj J 0 8 0 (Uc c d e f (wrap IntKind.u8 (h-32))) (e97 J m Zg [b])) (jj J 0 8 0 (Uc c d e f h) (e97 J m Zg [b]))) (by simp only[aM,Em m b a j];rfl)
theorem vG m:∀a b d e c,l97 jn m aeK [] a (aeN b d e c)=jH m a b d e c
 |0,_,_,_,_=>rfl
 |a+1,b,d,e,c=>
  tl (g:=fun J=>bif c<(b.size:Int)then(idxS b c).bind fun f=>cond d (cond (97<=f) (jj J 0 7 0 (aeP b d e c f (decide (f<=122))) (e97 J m aeL [a])) (jj J 0 7 0 (aeP b d e c f false) (e97 J m aeL [a]))) (jj J 0 7 0 (aeP b d e c f false) (e97 J m aeL [a]))else some e) (by simp only[aM,En m a (jH m a) (vG m a)];rfl)
theorem Kq m a b:e97 jn m [] [] ⟨[.dat 9 (.str a),.dat 4 (.bool b)],[],0⟩=gF (m+1) a b:=
 tq (g:=fun J=>jj J 1 3 (succ m) (aeN a b (ByteArray.mk (List.toArray [])) 0) (l97 J m aeK [] (succ m))) (by simp only[aM,vG m];rfl)
def e98(J:Q0)(m:Nat):=evAt Tryz.prog env (ct m) J (m+1) 96 5 Tryz.f96 d25
theorem RB m a:e98 jn m [] [] ⟨[.dat 9 (.str a)],[],0⟩=jR (m+1) a:=
 tq (g:=fun J=>some (agg [int 4,int 0,str a,lst [],lst []])) (by rfl)
def akR:List Nat:=[1,1,1,1,1,1]
def e99(J:Q0)(m:Nat):=evAt Tryz.prog env (ct m) J (m+1) 98 65 Tryz.f98 d25
def akS(a b:Int)(c d:Dt):St:=⟨tsOf [(3,.ptr 0 [] 0),(6,.ptr 1 [] 0),(7,.dat 3 (.int a)),(8,.dat 3 (.int b))],[.box 26 (.dat 26 c),.box 26 (.dat 26 d)],0⟩
def akT(a:Int)(b c d:Dt):St:=⟨tsOf [(3,.ptr 0 [] 0),(5,.ptr 1 [] 0),(6,.ptr 2 [] 0),(7,.dat 3 (.int a))],[.box 26 (.dat 26 b),.box 26 (.dat 26 c),.box 26 (.dat 26 d)],0⟩
def Ud(a:Bool)(b c d e:Dt):St:=⟨tsOf [(3,.ptr 0 [] 0),(4,.ptr 1 [] 0),(5,.ptr 2 [] 0),(6,.ptr 3 [] 0),(31,.dat 4 (.bool a))],[.box 26 (.dat 26 b),.box 26 (.dat 26 c),.box 26 (.dat 26 d),.box 26 (.dat 26 e)],0⟩
theorem Hu m a b c d:e99 jn m akR [] (akS a b c d)=oZ m a b c d:=
 tq (g:=fun J=>(cutS (S c 2) a (wrap .i64 (a+b))).bind fun e=>(jR m e).bind fun f=>some f) (by rfl)
theorem Hw m a b c d:e99 jn m [1,1,1,1] [] (akT a b c d)=o7 m a b c d:=
 tq (g:=fun J=>cond (wrap .i64 (((S b 2).size:Int)-a)<I c 1) (jj J 0 9 0 (akS a (wrap .i64 (((S b 2).size:Int)-a)) b d) (e99 J m akR [])) (jj J 0 9 0 (akS a (I c 1) b d) (e99 J m akR []))) (by simp only[aM,Hu m];rfl)
theorem Hy m e a b c d:e99 jn m [1,0,1] [] (Ud e a b c d)=jS m e a b c d:=
 tq (g:=fun J=>cond e ((bZ m).bind fun f=>some f) (cond (((S a 2).size:Int)<I b 1) (jj J 0 6 0 (akT ((S a 2).size:Int) a c d) (e99 J m [1,1,1,1] [])) (jj J 0 6 0 (akT (I b 1) a c d) (e99 J m [1,1,1,1] [])))) (by simp only[aM,Hw m];rfl)
theorem OD m c a b:e99 jn m [] [] ⟨[.dat 26 c,.dat 26 a,.dat 26 b],[],0⟩=mZ (m+1) c a b:=
 tq (g:=fun J=>cond (I c 0 !=4) (jj J 0 2 0 (Ud true c a b aj) (e99 J m [1,0,1] [])) (cond (I a 0 !=3) (jj J 0 2 0 (Ud true c a b aj) (e99 J m [1,0,1] [])) (cond (I b 0 !=3) (jj J 0 2 0 (Ud true c a b aj) (e99 J m [1,0,1] [])) (cond (I a 1<0) (jj J 0 2 0 (Ud true c a b aj) (e99 J m [1,0,1] [])) (jj J 0 2 0 (Ud (decide (I b 1<0)) c a b aj) (e99 J m [1,0,1] [])))))) (by simp only[aM,Hy m];rfl)
def arG:List Nat:=[1,1,1,1,1,0,1]
def OE:List Nat:=arG++[0]
def arH:List Nat:=OE++[0,1]
def ab0:List Nat:=arH++[1]
def e100(J:Q0)(m:Nat):=evAt Tryz.prog env (ct m) J (m+1) 99 61 Tryz.f99 d25
def anV(J:Q0)(m:Nat):=loopAt Tryz.prog env (ct m) J (m+1) 99 61 Tryz.f99 d25
def FB(a b c:Int)(d e:Dt)(f g:Int)(h:ByteArray)(i j:List Dt):St:=⟨tsOf [(0,.dat 3 (.int a)),(3,.ptr 0 [] 0),(4,.ptr 1 [] 0),(5,.ptr 2 [] 0),(6,.dat 3 (.int b)),(7,.dat 3 (.int c))],[.box 26 (.dat 26 d),.box 26 (.dat 26 e),.box 26 (.agg 26 [.dat 3 (.int f),.dat 3 (.int g),.dat 9 (.str h),.row 3,.row 4]),.row 23 i,.row 24 j],0⟩
abbrev arI(m l:Nat)(a:Q65):Prop:=∀b c d e f g h i j k,anV jn m OE [] l (FB b c d e f g h i j k)=a b c d e f g h i j k
theorem Kr m b a(o:arI m b a) c d e f h i j k l n:e100 jn m ab0 [b] (FB c d e f h i j k l n)=uG m a c d e f h i j k l n:=
 tq (g:=fun J=>jj J 1 8 b (FB c d (wrap .i64 (e+1)) f h i j k l n) (anV J m OE [] b)) (by simp only[aM,o];rfl)
theorem zZ m:∀c d e b a k f h i l j,anV jn m OE [] c (FB d e b a k f h i l j)=lH m c d e b a k f h i l j
 |0,_,_,_,_,_,_,_,_,_,_=>rfl
 |c+1,d,e,b,a,k,f,h,i,l,j=>
  tl (g:=fun J=>bif b<((L a 3).length:Int)then(idx (L a 3) (wrap .i64 (wrap .i64 (((L a 3).length:Int)-1)-b))).bind fun o=>(app l [o]).bind fun n=>(idx (L a 3) b).bind fun p=>cond (I p 0==3) ((idx (L a 3) b).bind fun q=>jj J 0 9 0 (FB d (wrap .i64 (e+I q 1)) b a k f h i n j) (e100 J m ab0 [c])) (jj J 0 9 0 (FB d e b a k f h i n j) (e100 J m ab0 [c]))else cond (d==31) ((dP m e).bind fun r=>some r) (some (agg [int f,int h,str i,lst l,lst j]))) (by simp only[aM,Kr m c (lH m c) (zZ m c)];rfl)
theorem RF m b a:e100 jn m [] [] ⟨[.dat 3 (.int b),.dat 26 a],[],0⟩=lI (m+1) b a:=
 tq (g:=fun J=>cond (I a 0 !=6) ((bZ m).bind fun c=>some c) (cond (b==26) ((dP m ((L a 3).length:Int)).bind fun d=>some d) (jj J 1 8 (succ m) (FB b 0 0 a aj 6 0 (ByteArray.mk (List.toArray [])) [] []) (anV J m OE [] (succ m))))) (by simp only[aM,zZ m];rfl)
def ab1:List Nat:=[1,1,1,1,0,1]
def RG(J:Q0)(m:Nat):=evAt Tryz.prog env (ct m) J (m+1) 100 39 Tryz.f100 d25
def ab2(a:Int)(b c:Dt):St:=⟨tsOf [(2,.ptr 0 [] 0),(4,.ptr 1 [] 0),(5,.dat 3 (.int a))],[.box 26 (.dat 26 b),.box 26 (.dat 26 c)],0⟩
def ab3(a:Int)(b:Bool)(c d:Dt):St:=⟨tsOf [(2,.ptr 0 [] 0),(4,.ptr 1 [] 0),(5,.dat 3 (.int a)),(32,.dat 4 (.bool b))],[.box 26 (.dat 26 c),.box 26 (.dat 26 d)],0⟩
def ab4(a:Bool)(b c d:Dt):St:=⟨tsOf [(2,.ptr 0 [] 0),(3,.ptr 1 [] 0),(4,.ptr 2 [] 0),(13,.dat 4 (.bool a))],[.box 26 (.dat 26 b),.box 26 (.dat 26 c),.box 26 (.dat 26 d)],0⟩
theorem Eo m a b c d:RG jn m ab1 [] (ab3 a b c d)=pX m a b c d:=
 tq (g:=fun J=>cond b (some aj) ((idx (L c 3) a).bind fun e=>some e)) (by rfl)
theorem Ep m a b c:RG jn m [1,1,1,1] [] (ab2 a b c)=mG m a b c:=
 tq (g:=fun J=>cond (a<0) (jj J 0 7 0 (ab3 a true b c) (RG J m ab1 [])) (jj J 0 7 0 (ab3 a (decide (((L b 3).length:Int)<=a)) b c) (RG J m ab1 []))) (by simp only[aM,Eo m];rfl)
theorem Er m d a b c:RG jn m [1,0,1] [] (ab4 d a b c)=pY m d a b c:=
 tq (g:=fun J=>cond d ((bZ m).bind fun e=>some e) (cond (I b 1<0) (jj J 0 6 0 (ab2 (wrap .i64 (I b 1+((L a 3).length:Int))) a c) (RG J m [1,1,1,1] [])) (jj J 0 6 0 (ab2 (I b 1) a c) (RG J m [1,1,1,1] [])))) (by simp only[aM,Ep m];rfl)
theorem Ku m a b:RG jn m [] [] ⟨[.dat 26 a,.dat 26 b],[],0⟩=jD (m+1) a b:=
 tq (g:=fun J=>cond (I a 0 !=6) (jj J 0 2 0 (ab4 true a b aj) (RG J m [1,0,1] [])) (jj J 0 2 0 (ab4 (I b 0 !=3) a b aj) (RG J m [1,0,1] []))) (by simp only[aM,Er m];rfl)
def awW(J:Q0)(m:Nat):=evAt Tryz.prog env (ct m) J (m+1) 104 44 Tryz.f104 d25
theorem Kv m a c d:awW jn m [] [] ⟨[.dat 3 (.int a),.dat 26 c,.dat 26 d],[],0⟩=dS (m+1) a c d:=
 tq (g:=fun J=>(bB m c d).bind fun b=>cond (a==10) ((bO m (b==0)).bind fun e=>some e) (cond (a==11) ((bO m (b !=0)).bind fun f=>some f) (cond (a==12) ((bO m (decide (0<b))).bind fun h=>some h) (cond (a==13) ((bO m (decide (0<=b))).bind fun i=>some i) (cond (a==14) ((bO m (decide (b<0))).bind fun j=>some j) (cond (a==15) ((bO m (decide (b<=0))).bind fun k=>some k) ((dP m b).bind fun l=>some l))))))) (by rfl)
def Wh:List Nat:=[1,1,0,1,0]
def arJ:List Nat:=[1,1,0,1,0,0,1,1]
def Wi:List Nat:=arJ++[0,0,1,1]
def e108(J:Q1)(m:Nat):=evAt Tryz.prog env (ct m) J (m+1) 151 39 Tryz.f151 d32
def anW(J:Q1)(m:Nat):=loopAt Tryz.prog env (ct m) J (m+1) 151 39 Tryz.f151 d32
def Wj(a:ByteArray)(b c:Int):St:=⟨tsOf [(0,.dat 9 (.str a)),(18,.dat 3 (.int b)),(19,.dat 3 (.int c))],[],0⟩
def Wl(a:ByteArray)(b c:Int)(d:Bool):St:=⟨tsOf [(0,.dat 9 (.str a)),(18,.dat 3 (.int b)),(19,.dat 3 (.int c)),(37,.dat 4 (.bool d))],[],0⟩
def Wm(a:ByteArray)(b:Bool):St:=⟨tsOf [(0,.dat 9 (.str a)),(16,.dat 4 (.bool b))],[],0⟩
abbrev arK(m e:Nat)(a:Q28):Prop:=∀b c d,anW jn m Wh [] e (Wj b c d)=a b c d
theorem FC m b a(h:arK m b a) c d e f:e108 jn m Wi [b] (Wl c d e f)=nO m a c d e f:=
 tq (g:=fun J=>cond f (some true) (jj J 1 4 b (Wj c d (wrap .i64 (e+1))) (anW J m Wh [] b))) (by simp only[aM,h];rfl)
theorem wS m:∀b c d a,anW jn m Wh [] b (Wj c d a)=fI m b c d a
 |0,_,_,_=>rfl
 |b+1,c,d,a=>
  tl (g:=fun J=>cond (a<d) ((idxS c a).bind fun e=>cond (e<33) (jj J 0 7 0 (Wl c d a true) (e108 J m Wi [b])) ((idxS c a).bind fun f=>cond (126<f) (jj J 0 7 0 (Wl c d a true) (e108 J m Wi [b])) ((idxS c a).bind fun h=>jj J 0 7 0 (Wl c d a (h==46)) (e108 J m Wi [b])))) (some false)) (by simp only[aM,FC m b (fI m b) (wS m b)];rfl)
theorem FD m a b:e108 jn m [1,0,1] [] (Wm a b)=nP m a b:=
 tq (g:=fun J=>cond b (some true) (jj J 1 4 (succ m) (Wj a (a.size:Int) 0) (anW J m Wh [] (succ m)))) (by simp only[aM,wS m];rfl)
theorem Me m a:e108 jn m [] [] ⟨[.dat 9 (.str a)],[],0⟩=nG (m+1) a:=
 tq (g:=fun J=>cond ((a.size:Int)<1) (jj J 0 2 0 (Wm a true) (e108 J m [1,0,1] [])) (bif 32<(a.size:Int)then jj J 0 2 0 (Wm a true) (e108 J m [1,0,1] [])else(idxS a 0).bind fun b=>jj J 0 2 0 (Wm a (b==36)) (e108 J m [1,0,1] []))) (by simp only[aM,FD m];rfl)
def awX(J:Q2)(m:Nat):=evAt Tryz.prog env (ct m) J (m+1) 160 19 Tryz.f160 d28
def arL(J:Q2)(m:Nat):=loopAt Tryz.prog env (ct m) J (m+1) 160 19 Tryz.f160 d28
def ab5(a:List Dt)(b c:Int):St:=⟨tsOf [(0,.dat 22 (.lst a)),(1,.fn 151 []),(7,.dat 3 (.int b)),(8,.dat 3 (.int c))],[],0⟩
theorem OG m:∀b c d a,arL jn m [1,0,1,0] [] b (ab5 c d a)=DR m b c d a
 |0,_,_,_=>rfl
 |b+1,c,d,a=>
  tl (g:=fun J=>cond (a<d) ((idx c a).bind fun e=>(nG m (toStr e)).bind fun f=>cond f (some a) (jj J 1 2 b (ab5 c d (wrap .i64 (a+1))) (arL J m [1,0,1,0] [] b))) (some (-1))) (by simp only[aM,(OG m b)];rfl)
theorem anX m a:awX jn m [] [] ⟨[.dat 22 (.lst a),.fn 151 []],[],0⟩=i107 (m+1) a:=
 tq (g:=fun J=>jj J 1 2 (succ m) (ab5 a (a.length:Int) 0) (arL J m [1,0,1,0] [] (succ m))) (by simp only[aM,OG m];rfl)
def awY(J:Q1)(m:Nat):=evAt Tryz.prog env (ct m) J (m+1) 150 9 Tryz.f150 d32
theorem anY m a:awY jn m [] [] ⟨[.dat 22 (.lst a),.fn 151 []],[],0⟩=agH (m+1) a:=
 tq (g:=fun J=>(i107 m a).bind fun b=>some (decide (0<=b))) (by rfl)
def e70(J:Q1)(m:Nat):=evAt Tryz.prog env (ct m) J (m+1) 131 16 Tryz.f131 d32
theorem RH m a:e70 jn m [] [] ⟨[.dat 22 (.lst a)],[],0⟩=nH (m+1) a:=
 tq (g:=fun J=>cond (1<=(a.length:Int)) (bif (a.length:Int)<=16 then(agH m a).bind fun b=>some (!b)else some false) (some false)) (by rfl)
def e71(J:Q1)(m:Nat):=evAt Tryz.prog env (ct m) J (m+1) 132 6 Tryz.f132 d32
theorem OH m a:e71 jn m [] [] ⟨[.dat 9 (.str a)],[],0⟩=kK (m+1) a:=
 tq (g:=fun J=>(nH m [str a]).bind fun b=>some b) (by rfl)
def aeR:List Nat:=[1,1,0,1,0]
def auK:List Nat:=[1,1,0,1,0,0,1,1]
def akU:List Nat:=auK++[0,0,1,0,1]
def e73(J:Q1)(m:Nat):=evAt Tryz.prog env (ct m) J (m+1) 133 24 Tryz.f133 d32
def l73(J:Q1)(m:Nat):=loopAt Tryz.prog env (ct m) J (m+1) 133 24 Tryz.f133 d32
def aeS(a:List Dt)(b c:Int)(d:List Dt):St:=⟨tsOf [(3,.row 0),(7,.dat 22 (.lst a)),(8,.dat 3 (.int b)),(9,.dat 3 (.int c))],[(.map 165 d)],0⟩
def akV(a:ByteArray)(b:List Dt)(c d:Int)(e:Bool)(f:List Dt):St:=⟨tsOf [(3,.row 0),(5,.dat 9 (.str a)),(7,.dat 22 (.lst b)),(8,.dat 3 (.int c)),(9,.dat 3 (.int d)),(20,.dat 4 (.bool e))],[(.map 165 f)],0⟩
abbrev auL(m f:Nat)(a:Q23):Prop:=∀b c d e,l73 jn m aeR [] f (aeS b c d e)=a b c d e
theorem zl m b a(j:auL m b a) c d e f h i:e73 jn m akU [b] (akV c d e f h i)=j5 m a c d e f h i:=
 tq (g:=fun J=>cond h (some false) (jj J 1 3 b (aeS d e (wrap .i64 (f+1)) (mput i c (bool true))) (l73 J m aeR [] b))) (by simp only[aM,j];rfl)
theorem qF m:∀a c d b e,l73 jn m aeR [] a (aeS c d b e)=eB m a c d b e
 |0,_,_,_,_=>rfl
 |a+1,c,d,b,e=>
  tl (g:=fun J=>cond (b<d) ((idx c b).bind fun f=>(kK m (toStr f)).bind fun h=>cond (!h) (jj J 0 6 0 (akV (toStr f) c d b true e) (e73 J m akU [a])) (jj J 0 6 0 (akV (toStr f) c d b (Dt.toBool (mgetD e (toStr f) (bool false))) e) (e73 J m akU [a]))) (some true)) (by simp only[aM,zl m a (eB m a) (qF m a)];rfl)
theorem BJ m a:e73 jn m [] [] ⟨[.dat 22 (.lst a)],[],0⟩=eH (m+1) a:=
 tq (g:=fun J=>jj J 1 3 (succ m) (aeS a (a.length:Int) 0 []) (l73 J m aeR [] (succ m))) (by simp only[aM,qF m];rfl)
def e109(J:Q0)(m:Nat):=evAt Tryz.prog env (ct m) J (m+1) 135 8 Tryz.f135 d25
theorem OJ m a:e109 jn m [] [] ⟨[.dat 26 a],[],0⟩=gV (m+1) a:=
 tq (g:=fun J=>cond (I a 0==0) ((cB m).bind fun b=>some b) (some a)) (by rfl)
def Zh:List Nat:=[1,1,1,0,1,0]
def auM:List Nat:=[1,0,1,0,1,0,1]
def akW:List Nat:=auM++[0]
def auN:List Nat:=Zh++[0,1,1]
def akX:List Nat:=auN++[1]
def e85(J:Q0)(m:Nat):=evAt Tryz.prog env (ct m) J (m+1) 118 55 Tryz.f118 d25
def l85(J:Q0)(m:Nat):=loopAt Tryz.prog env (ct m) J (m+1) 118 55 Tryz.f118 d25
def akY(a:List Dt)(b c:Int)(d:Dt)(e f:Int)(g:ByteArray)(h i:List Dt):St:=⟨tsOf [(4,.ptr 0 [] 0),(5,.ptr 1 [] 0),(15,.dat 23 (.lst a)),(16,.dat 3 (.int b)),(17,.dat 3 (.int c))],[.box 26 (.dat 26 d),.box 26 (.agg 26 [.dat 3 (.int e),.dat 3 (.int f),.dat 9 (.str g),.row 2,.row 3]),.row 23 h,.row 24 i],0⟩
def OL(a:List Dt)(b c:Int)(d e:Dt)(f g:Int)(h:ByteArray)(i j:List Dt):St:=⟨tsOf [(2,.ptr 0 [] 0),(4,.ptr 1 [] 0),(8,.ptr 2 [] 0),(31,.dat 23 (.lst a)),(32,.dat 3 (.int b)),(33,.dat 3 (.int c))],[.box 29 (.dat 29 d),.box 26 (.dat 26 e),.box 26 (.agg 26 [.dat 3 (.int f),.dat 3 (.int g),.dat 9 (.str h),.row 3,.row 4]),.row 23 i,.row 24 j],0⟩
theorem sS m:∀a c d b k e f h i j,l85 jn m akW [] a (akY c d b k e f h i j)=jU m a c d b k e f h i j
 |0,_,_,_,_,_,_,_,_,_=>rfl
 |a+1,c,d,b,k,e,f,h,i,j=>
  tl (g:=fun J=>cond (b<d) ((idx c b).bind fun l=>(gV m l).bind fun n=>(app i [n]).bind fun o=>jj J 1 4 a (akY c d (wrap .i64 (b+1)) k e f h o j) (l85 J m akW [] a)) (some (agg [int e,int f,str h,lst i,lst j]))) (by simp only[aM,(sS m a)];rfl)
abbrev auO(m l:Nat)(a:Q35):Prop:=∀b c d e f g h i j k,l85 jn m Zh [] l (OL b c d e f g h i j k)=a b c d e f g h i j k
theorem BK m b a(o:auO m b a) c d e f h i j k l n:e85 jn m akX [b] (OL c d e f h i j k l n)=nI m a c d e f h i j k l n:=
 tq (g:=fun J=>jj J 1 11 b (OL c d (wrap .i64 (e+1)) f h i j k l n) (l85 J m Zh [] b)) (by simp only[aM,o];rfl)
theorem sU m:∀a c d b e l f h i j k,l85 jn m Zh [] a (OL c d b e l f h i j k)=fT m a c d b e l f h i j k
 |0,_,_,_,_,_,_,_,_,_,_=>rfl
 |a+1,c,d,b,e,l,f,h,i,j,k=>
  tl (g:=fun J=>cond (b<d) ((idx c b).bind fun n=>cond (I n 0 !=0) ((idx (L e 3) b).bind fun o=>(app k [agg [str (toStr o),n]]).bind fun p=>jj J 0 15 0 (OL c d b e l f h i j p) (e85 J m akX [a])) (jj J 0 15 0 (OL c d b e l f h i j k) (e85 J m akX [a]))) (some (agg [int f,int h,str i,lst j,lst k]))) (by simp only[aM,BK m a (fT m a) (sU m a)];rfl)
theorem FH m b a:e85 jn m [] [] ⟨[.dat 29 b,.dat 23 (.lst a)],[],0⟩=dY (m+1) b a:=
 tq (g:=fun J=>cond (I b 0==35) (jj J 1 4 (succ m) (akY a (a.length:Int) 0 aj 6 0 (ByteArray.mk (List.toArray [])) [] []) (l85 J m akW [] (succ m))) (jj J 1 11 (succ m) (OL a (a.length:Int) 0 b aj 5 0 (ByteArray.mk (List.toArray [])) [] []) (l85 J m Zh [] (succ m)))) (by simp only[aM,sS m,sU m];rfl)
def ab6:List Nat:=[1,0,1,0,1]
def ab7:List Nat:=[1,0,1,0,1,1,1]
def ab8(J:Q1)(m:Nat):=evAt Tryz.prog env (ct m) J (m+1) 136 14 Tryz.f136 d32
def ab9(a:Bool)(b:Dt):St:=⟨tsOf [(1,.ptr 0 [] 0),(8,.dat 4 (.bool a))],[.box 26 (.dat 26 b)],0⟩
def acd(a:Int)(b:Bool)(c:Dt):St:=⟨tsOf [(1,.ptr 0 [] 0),(4,.dat 3 (.int a)),(5,.dat 4 (.bool b))],[.box 26 (.dat 26 c)],0⟩
theorem Hz m a b:ab8 jn m ab7 [] (ab9 a b)=rW m a b:=
 tq (g:=fun J=>cond a (some (I b 1 !=0)) (some true)) (by rfl)
theorem HV m a c b:ab8 jn m ab6 [] (acd a c b)=rX m a c b:=
 tq (g:=fun J=>cond c (some false) (cond (a==9) (jj J 0 7 0 (ab9 (a==9) b) (ab8 J m ab7 [])) (jj J 0 7 0 (ab9 (a==3) b) (ab8 J m ab7 [])))) (by simp only[aM,Hz m];rfl)
theorem OM m a:ab8 jn m [] [] ⟨[.dat 26 a],[],0⟩=dV (m+1) a:=
 tq (g:=fun J=>cond (I a 0==0) (jj J 0 4 0 (acd (I a 0) (I a 0==0) a) (ab8 J m ab6 [])) (jj J 0 4 0 (acd (I a 0) (I a 0==2) a) (ab8 J m ab6 []))) (by simp only[aM,HV m];rfl)
def anZ(J:Q2)(m:Nat):=evAt Tryz.prog env (ct m) J (m+1) 137 23 Tryz.f137 d28
def ace(a:Int)(b:Bool):St:=⟨tsOf [(5,.dat 3 (.int a)),(19,.dat 4 (.bool b))],[],0⟩
theorem Es m a b:anZ jn m [1,1,0,1] [] (ace a b)=mH m a b:=
 tq (g:=fun J=>cond b (some (wrap .i64 (a-1))) (some a)) (by rfl)
theorem Kw m b a:anZ jn m [] [] ⟨[.dat 3 (.int b),.dat 3 (.int a)],[],0⟩=iK (m+1) b a:=
 tq (g:=fun J=>cond (a=0) none (cond (a=0) none (cond (Int.tmod b a !=0) (jj J 0 3 0 (ace (wrap .i64 (Int.tdiv b a)) (!decide (b<0)==decide (a<0))) (anZ J m [1,1,0,1] [])) (jj J 0 3 0 (ace (wrap .i64 (Int.tdiv b a)) false) (anZ J m [1,1,0,1] []))))) (by simp only[aM,Es m];rfl)
def akZ:List Nat:=[1,1,0,1,0]
def arM:List Nat:=[1,1,1,1,0,1,0,0,0,1]
def auP:List Nat:=[1,1,1,1,0,1,0,0,0,0,0,1]
def arN:List Nat:=arM++[0,1,1]
def auQ:List Nat:=auP++[0,1]
def acf:List Nat:=arN++[0]
def aeT:List Nat:=auQ++[0]
def e78(J:Q0)(m:Nat):=evAt Tryz.prog env (ct m) J (m+1) 111 91 Tryz.f111 d25
def l78(J:Q0)(m:Nat):=loopAt Tryz.prog env (ct m) J (m+1) 111 91 Tryz.f111 d25
def ak0(a:Int)(b:List Dt)(c d:Int)(e:Dt)(f:List Dt):St:=⟨tsOf [(0,.dat 3 (.int a)),(4,.ptr 0 [] 0),(5,.row 1),(16,.dat 23 (.lst b)),(17,.dat 3 (.int c)),(18,.dat 3 (.int d))],[.box 26 (.dat 26 e),.row 74 f],0⟩
def Wn(a:Int)(b:List Dt)(c d:Int)(e:Dt):St:=⟨tsOf [(4,.ptr 0 [] 0),(8,.dat 3 (.int a)),(46,.dat 74 (.lst b)),(47,.dat 3 (.int c)),(48,.dat 3 (.int d))],[.box 26 (.dat 26 e)],0⟩
def acg(a:Int)(b:List Dt)(c d:Int)(e:Dt):St:=⟨tsOf [(4,.ptr 0 [] 0),(8,.dat 3 (.int a)),(56,.dat 74 (.lst b)),(57,.dat 3 (.int c)),(58,.dat 3 (.int d))],[.box 26 (.dat 26 e)],0⟩
theorem sV m:∀a c d e b f,l78 jn m aeT [] a (Wn c d e b f)=iw m a c d e b f
 |0,_,_,_,_,_=>rfl
 |a+1,c,d,e,b,f=>
  tl (g:=fun J=>bif b<e then(idx d b).bind fun i=>jj J 1 16 a (Wn (wrap .i64 (c+toInt i)) d e (wrap .i64 (b+1)) f) (l78 J m aeT [] a)else(bM m c).bind fun h=>some h) (by simp only[aM,(sV m a)];rfl)
theorem sH m:∀a c d e b f,l78 jn m acf [] a (acg c d e b f)=jo m a c d e b f
 |0,_,_,_,_,_=>rfl
 |a+1,c,d,e,b,f=>
  tl (g:=fun J=>bif b<e then(idx d b).bind fun h=>jj J 1 22 a (acg (wrap .i64 (c*toInt h)) d e (wrap .i64 (b+1)) f) (l78 J m acf [] a)else(bM m c).bind fun i=>some i) (by simp only[aM,(sH m a)];rfl)
theorem sW m:∀f c h i b d a,l78 jn m akZ [] f (ak0 c h i b d a)=jV m f c h i b d a
 |0,_,_,_,_,_,_=>rfl
 |f+1,c,h,i,b,d,a=>
  tl (g:=fun J=>cond (b<i) ((idx h b).bind fun r=>cond (I r 0 !=3) ((cB m).bind fun t=>some t) ((inL a b).bind fun z=>(a[b.toNat]?).bind fun A=>jj J 1 3 f (ak0 c h i (wrap .i64 (b+1)) d (List.set a b.toNat (int (I r 1)))) (l78 J m akZ [] f))) (cond (c==5) ((inL a 1).bind fun C=>(a[1]?).bind fun s=>(inL a 1).bind fun D=>(a[1]?).bind fun E=>jj J 1 16 (succ m) (Wn 0 (List.set a 1 (int (wrap .i64 (0-toInt s)))) ((List.set a 1 (int (wrap .i64 (0-toInt s)))).length:Int) 0 d) (l78 J m aeT [] (succ m))) (cond (c==4) (jj J 1 16 (succ m) (Wn 0 a (a.length:Int) 0 d) (l78 J m aeT [] (succ m))) (cond (c==6) (jj J 1 22 (succ m) (acg 1 a (a.length:Int) 0 d) (l78 J m acf [] (succ m))) ((inL a 1).bind fun u=>(a[1]?).bind fun k=>cond (toInt k==0) ((cB m).bind fun l=>some l) ((inL a 0).bind fun v=>(a[0]?).bind fun n=>(inL a 1).bind fun w=>(a[1]?).bind fun o=>(iK m (toInt n) (toInt o)).bind fun j=>cond (c==8) ((inL a 0).bind fun x=>(a[0]?).bind fun p=>(inL a 1).bind fun y=>(a[1]?).bind fun q=>(bM m (wrap .i64 (toInt p-wrap .i64 (toInt q*j)))).bind fun e=>some e) ((bM m j).bind fun e=>some e))))))) (by simp only[aM,(sW m f),sV m,sH m];rfl)
theorem FI m b a:e78 jn m [] [] ⟨[.dat 3 (.int b),.dat 23 (.lst a)],[],0⟩=dO (m+1) b a:=
 tq (g:=fun J=>(mkL (a.length:Int) (a.length:Int) (int 0)).bind fun c=>jj J 1 3 (succ m) (ak0 b a (a.length:Int) 0 aj c) (l78 J m akZ [] (succ m))) (by simp only[aM,sW m];rfl)
def awZ(J:Q0)(m:Nat):=evAt Tryz.prog env (ct m) J (m+1) 138 6 Tryz.f138 d25
theorem Mf m a:awZ jn m [] [] ⟨[.dat 4 (.bool a)],[],0⟩=bP (m+1) a:=
 tq (g:=fun J=>cond a (some M6) (some M5)) (by rfl)
def e79(J:Q0)(m:Nat):=evAt Tryz.prog env (ct m) J (m+1) 112 38 Tryz.f112 d25
theorem FJ m b a:e79 jn m [] [] ⟨[.dat 3 (.int b),.dat 3 (.int a)],[],0⟩=jd (m+1) b a:=
 tq (g:=fun J=>cond (b==10) ((bP m (a==0)).bind fun c=>some c) (cond (b==11) ((bP m (a !=0)).bind fun d=>some d) (cond (b==12) ((bP m (decide (0<a))).bind fun e=>some e) (cond (b==13) ((bP m (decide (0<=a))).bind fun f=>some f) (cond (b==14) ((bP m (decide (a<0))).bind fun h=>some h) (cond (b==15) ((bP m (decide (a<=0))).bind fun i=>some i) ((bM m a).bind fun j=>some j))))))) (by rfl)
def Ue:List Nat:=[1,1,1,0,1,0]
def auR:List Nat:=Ue++[0,1,1]
def ak1:List Nat:=auR++[0,0,1,1]
def e80(J:Q0)(m:Nat):=evAt Tryz.prog env (ct m) J (m+1) 113 67 Tryz.f113 d25
def l80(J:Q0)(m:Nat):=loopAt Tryz.prog env (ct m) J (m+1) 113 67 Tryz.f113 d25
def Zi(a:Int)(b c:Bool)(d:List Dt)(e f:Int)(g:Dt):St:=⟨tsOf [(0,.dat 3 (.int a)),(4,.ptr 0 [] 0),(5,.dat 4 (.bool b)),(6,.dat 4 (.bool c)),(44,.dat 23 (.lst d)),(45,.dat 3 (.int e)),(46,.dat 3 (.int f))],[.box 26 (.dat 26 g)],0⟩
def ak2(a:Int)(b c:Bool)(d:List Dt)(e f:Int)(g h:Dt):St:=⟨tsOf [(0,.dat 3 (.int a)),(4,.ptr 0 [] 0),(5,.dat 4 (.bool b)),(6,.dat 4 (.bool c)),(8,.ptr 1 [] 0),(44,.dat 23 (.lst d)),(45,.dat 3 (.int e)),(46,.dat 3 (.int f))],[.box 26 (.dat 26 g),.box 26 (.dat 26 h)],0⟩
abbrev auS(m i:Nat)(a:Q47):Prop:=∀b c d e f g h,l80 jn m Ue [] i (Zi b c d e f g h)=a b c d e f g h
theorem Ky m b a(n:auS m b a) c d j e f h i k:e80 jn m ak1 [b] (ak2 c d j e f h i k)=uI m a c d j e f h i k:=
 tq (g:=fun J=>cond j (jj J 1 14 b (Zi c d true e f (wrap .i64 (h+1)) i) (l80 J m Ue [] b)) ((dV m k).bind fun l=>jj J 1 14 b (Zi c d l e f (wrap .i64 (h+1)) i) (l80 J m Ue [] b))) (by simp only[aM,n];rfl)
theorem z8 m:∀a d i e f h b j,l80 jn m Ue [] a (Zi d i e f h b j)=lJ m a d i e f h b j
 |0,_,_,_,_,_,_,_=>rfl
 |a+1,d,i,e,f,h,b,j=>
  tl (g:=fun J=>cond (b<h) ((idx f b).bind fun c=>cond i ((dV m c).bind fun k=>jj J 0 17 0 (ak2 d k e f h b j c) (e80 J m ak1 [a])) (jj J 0 17 0 (ak2 d false e f h b j c) (e80 J m ak1 [a]))) (cond (d==16) ((bP m i).bind fun l=>some l) ((bP m e).bind fun n=>some n))) (by simp only[aM,Ky m a (lJ m a) (z8 m a)];rfl)
theorem RI m b a:e80 jn m [] [] ⟨[.dat 3 (.int b),.dat 23 (.lst a)],[],0⟩=gI (m+1) b a:=
 tq (g:=fun J=>cond (b==18) ((idx a 0).bind fun d=>(dV m d).bind fun e=>(bP m (!e)).bind fun f=>some f) (cond (b==19) ((idx a 0).bind fun h=>(dV m h).bind fun i=>cond i ((idx a 1).bind fun j=>some j) ((idx a 2).bind fun k=>some k)) (cond (b==20) ((idx a 0).bind fun l=>(gV m l).bind fun n=>cond (I n 0==2) ((idx a 1).bind fun o=>some o) ((idx a 0).bind fun c=>some c)) (jj J 1 14 (succ m) (Zi b true false a (a.length:Int) 0 aj) (l80 J m Ue [] (succ m)))))) (by simp only[aM,z8 m];rfl)
def aw0(J:Q1)(m:Nat):=evAt Tryz.prog env (ct m) J (m+1) 143 9 Tryz.f143 d32
theorem OO m a b:aw0 jn m [] [] ⟨[.dat 26 a,.dat 26 b],[],0⟩=jE (m+1) a b:=
 tq (g:=fun J=>(bg m a b).bind fun c=>some (c==0)) (by rfl)
def ach:List Nat:=[1,1,1,1,0,1]
def aci(J:Q0)(m:Nat):=evAt Tryz.prog env (ct m) J (m+1) 144 31 Tryz.f144 d25
def acj(a:List Dt)(b:Int)(c:Dt):St:=⟨tsOf [(0,.dat 23 (.lst a)),(4,.ptr 0 [] 0),(5,.dat 3 (.int b))],[.box 26 (.dat 26 c)],0⟩
def aco(a:List Dt)(b:Int)(c:Bool)(d:Dt):St:=⟨tsOf [(0,.dat 23 (.lst a)),(4,.ptr 0 [] 0),(5,.dat 3 (.int b)),(25,.dat 4 (.bool c))],[.box 26 (.dat 26 d)],0⟩
theorem FK m a b c d:aci jn m ach [] (aco a b c d)=qJ m a b c d:=
 tq (g:=fun J=>cond c (some aj) ((idx a b).bind fun e=>some e)) (by rfl)
theorem FL m b a c:aci jn m [1,1,1,1] [] (acj b a c)=nQ m b a c:=
 tq (g:=fun J=>cond (a<0) (jj J 0 7 0 (aco b a true c) (aci J m ach [])) (jj J 0 7 0 (aco b a (decide ((b.length:Int)<=a)) c) (aci J m ach []))) (by simp only[aM,FK m];rfl)
theorem Mg m b a:aci jn m [] [] ⟨[.dat 23 (.lst b),.dat 26 a],[],0⟩=kL (m+1) b a:=
 tq (g:=fun J=>cond (I a 0 !=3) ((cB m).bind fun c=>some c) (cond (I a 1<0) (jj J 0 6 0 (acj b (wrap .i64 (I a 1+(b.length:Int))) aj) (aci J m [1,1,1,1] [])) (jj J 0 6 0 (acj b (I a 1) aj) (aci J m [1,1,1,1] [])))) (by simp only[aM,FL m];rfl)
def ak3:List Nat:=[1,1,1,1,1,1]
def arO:List Nat:=[1,1,1,1,0,1]
def Zj:List Nat:=arO++[0]
def auT:List Nat:=[1,1,1,1,1,0,1,0,1,1,1,0,1]
def ak4:List Nat:=auT++[0]
def arP:List Nat:=[1,1,1,1,1,0,1,0,1,1,1,1,1,0,1,0,1]
def aeU:List Nat:=arP++[0]
def arQ:List Nat:=[1,1,1,1,1,0,1,0,1,1,1,1,1,1,1,0,0,1]
def acp:List Nat:=arQ++[0]
def e82(J:Q0)(m:Nat):=evAt Tryz.prog env (ct m) J (m+1) 115 116 Tryz.f115 d25
def l82(J:Q0)(m:Nat):=loopAt Tryz.prog env (ct m) J (m+1) 115 116 Tryz.f115 d25
def Zk(a:Int)(b c:List Dt)(d e:Int)(f:Dt)(g:List Dt):St:=⟨tsOf [(0,.dat 3 (.int a)),(1,.dat 23 (.lst b)),(4,.ptr 0 [] 0),(6,.row 1),(26,.dat 23 (.lst c)),(27,.dat 3 (.int d)),(28,.dat 3 (.int e))],[.box 26 (.dat 26 f),.row 23 g],0⟩
def acr(a b:Int)(c:Dt)(d:List Dt):St:=⟨tsOf [(4,.ptr 0 [] 0),(6,.row 1),(9,.dat 3 (.int a)),(10,.dat 3 (.int b))],[.box 26 (.dat 26 c),.row 23 d],0⟩
def acs(a:Dt)(b:List Dt):St:=⟨tsOf [(4,.ptr 0 [] 0),(6,.row 1)],[.box 26 (.dat 26 a),.row 23 b],0⟩
def Wo(a:Int)(b:List Dt)(c d:Int)(e:Dt):St:=⟨tsOf [(4,.ptr 0 [] 0),(11,.dat 3 (.int a)),(75,.dat 23 (.lst b)),(76,.dat 3 (.int c)),(77,.dat 3 (.int d))],[.box 26 (.dat 26 e)],0⟩
def acu(a b:List Dt)(c d:Int)(e:Dt):St:=⟨tsOf [(1,.dat 23 (.lst a)),(4,.ptr 0 [] 0),(93,.dat 23 (.lst b)),(94,.dat 3 (.int c)),(95,.dat 3 (.int d))],[.box 26 (.dat 26 e)],0⟩
theorem vH m b a:e82 jn m ak3 [] (acs b a)=p8 m b a:=
 tq (g:=fun J=>some (agg [int 6,int 0,str (ByteArray.mk (List.toArray [])),lst a,lst []])) (by rfl)
theorem wT m:∀d b c e a,l82 jn m ak4 [] d (acr b c e a)=kC m d b c e a
 |0,_,_,_,_=>rfl
 |d+1,b,c,e,a=>
  tl (g:=fun J=>cond (b<c) ((inL a c).bind fun l=>(a[c.toNat]?).bind fun f=>(inL a b).bind fun n=>(a[b.toNat]?).bind fun h=>(inL a b).bind fun o=>(a[b.toNat]?).bind fun i=>(inL (List.set a b.toNat f) c).bind fun j=>((List.set a b.toNat f)[c.toNat]?).bind fun k=>jj J 1 20 d (acr (wrap .i64 (b+1)) (wrap .i64 (c-1)) e (List.set (List.set a b.toNat f) c.toNat h)) (l82 J m ak4 [] d)) (jj J 0 42 0 (acs e a) (e82 J m ak3 []))) (by simp only[aM,(wT m d),vH m];rfl)
theorem vI m:∀a c d e b f,l82 jn m aeU [] a (Wo c d e b f)=jI m a c d e b f
 |0,_,_,_,_,_=>rfl
 |a+1,c,d,e,b,f=>
  tl (g:=fun J=>bif b<e then(idx d b).bind fun h=>cond (I h 0==3) (jj J 1 26 a (Wo (wrap .i64 (c+I h 1)) d e (wrap .i64 (b+1)) f) (l82 J m aeU [] a)) (jj J 1 26 a (Wo c d e (wrap .i64 (b+1)) f) (l82 J m aeU [] a))else(bM m c).bind fun i=>some i) (by simp only[aM,(vI m a)];rfl)
theorem vJ m:∀a c d e b f,l82 jn m acp [] a (acu c d e b f)=mI m a c d e b f
 |0,_,_,_,_,_=>rfl
 |a+1,c,d,e,b,f=>
  tl (g:=fun J=>bif b<e then(idx d b).bind fun h=>(idx c 0).bind fun i=>(jE m h i).bind fun j=>cond j ((bP m true).bind fun k=>some k) (jj J 1 34 a (acu c d e (wrap .i64 (b+1)) f) (l82 J m acp [] a))else(bP m false).bind fun l=>some l) (by simp only[aM,(vJ m a)];rfl)
theorem wU m:∀d b e h i f c a,l82 jn m Zj [] d (Zk b e h i f c a)=nR m d b e h i f c a
 |0,_,_,_,_,_,_,_=>rfl
 |d+1,b,e,h,i,f,c,a=>
  tl (g:=fun J=>cond (f<i) ((idx h f).bind fun l=>cond (I l 0 !=6) ((cB m).bind fun n=>some n) ((app a (L l 3)).bind fun o=>jj J 1 9 d (Zk b e h i (wrap .i64 (f+1)) c o) (l82 J m Zj [] d))) (cond (b==26) ((bM m (a.length:Int)).bind fun p=>some p) (cond (b==30) (jj J 1 20 (succ m) (acr 0 (wrap .i64 ((a.length:Int)-1)) c a) (l82 J m ak4 [] (succ m))) (cond (b==31) (jj J 1 26 (succ m) (Wo 0 a (a.length:Int) 0 c) (l82 J m aeU [] (succ m))) (cond (b==28) (jj J 1 34 (succ m) (acu e a (a.length:Int) 0 c) (l82 J m acp [] (succ m))) (cond (b==27) ((idx e 1).bind fun j=>(kL m a j).bind fun k=>some k) (jj J 0 42 0 (acs c a) (e82 J m ak3 [])))))))) (by simp only[aM,(wU m d),wT m,vI m,vJ m,vH m];rfl)
theorem Mh m b a:e82 jn m [] [] ⟨[.dat 3 (.int b),.dat 23 (.lst a)],[],0⟩=dI (m+1) b a:=
 tq (g:=fun J=>cond (b==27) ((cutL a 0 1).bind fun d=>jj J 1 9 (succ m) (Zk b a d (d.length:Int) 0 aj []) (l82 J m Zj [] (succ m))) (cond (b==28) ((cutL a 1 (a.length:Int)).bind fun c=>jj J 1 9 (succ m) (Zk b a c (c.length:Int) 0 aj []) (l82 J m Zj [] (succ m))) (jj J 1 9 (succ m) (Zk b a a (a.length:Int) 0 aj []) (l82 J m Zj [] (succ m))))) (by simp only[aM,wU m];rfl)
def e116(J:Q2)(m:Nat):=evAt Tryz.prog env (ct m) J (m+1) 146 14 Tryz.f146 d28
theorem OP m b a:e116 jn m [] [] ⟨[.dat 26 b,.dat 3 (.int a)],[],0⟩=kM (m+1) b a:=
 tq (g:=fun J=>cond (1==a) (some 1) ((i127 m b 1 a).bind fun c=>some c.1)) (by rfl)
def arR:List Nat:=[1,1,0,1,0,1]
def acv:List Nat:=arR++[0]
def arS:List Nat:=[1,1,0,1,1,1,0,1]
def acw:List Nat:=arS++[0]
def e127(J:Q30)(m:Nat):=evAt Tryz.prog env (ct m) J (m+1) 155 39 Tryz.f155 agM
def ag0(J:Q30)(m:Nat):=loopAt Tryz.prog env (ct m) J (m+1) 155 39 Tryz.f155 agM
def acy(a:List Dt)(b c d e:Int):St:=⟨tsOf [(1,(.fn 156 [.ptr 0 [] 0,.ptr 1 [] 0])),(13,.dat 23 (.lst a)),(14,.dat 3 (.int b)),(15,.dat 3 (.int c))],[.box 3 (.dat 3 (.int d)),.box 3 (.dat 3 (.int e))],2⟩
def acz(a:List Dt)(b c d e:Int):St:=⟨tsOf [(1,(.fn 156 [.ptr 0 [] 0,.ptr 1 [] 0])),(27,.dat 24 (.lst a)),(28,.dat 3 (.int b)),(29,.dat 3 (.int c))],[.box 3 (.dat 3 (.int d)),.box 3 (.dat 3 (.int e))],2⟩
theorem OQ m:∀a c d b e f,ag0 jn m acv [] a (acy c d b e f)=DT m (Fe m) a c d b e f
 |0,_,_,_,_,_=>rfl
 |a+1,c,d,b,e,f=>
  tl (g:=fun J=>cond (b<d) ((idx c b).bind fun i=>(Fe m i e f).bind fun h=>cond (!h.1) (some (h.2.1,h.2.2)) (jj J 1 4 a (acy c d (wrap .i64 (b+1)) h.2.1 h.2.2) (ag0 J m acv [] a))) (some (e,f))) (by simp only[aM,(OQ m a)];rfl)
theorem OT m:∀a c d b e f,ag0 jn m acw [] a (acz c d b e f)=DU m (Fe m) a c d b e f
 |0,_,_,_,_,_=>rfl
 |a+1,c,d,b,e,f=>
  tl (g:=fun J=>cond (b<d) ((idx c b).bind fun i=>(Fe m (fld i 1) e f).bind fun h=>cond (!h.1) (some (h.2.1,h.2.2)) (jj J 1 10 a (acz c d (wrap .i64 (b+1)) h.2.1 h.2.2) (ag0 J m acw [] a))) (some (e,f))) (by simp only[aM,(OT m a)];rfl)
theorem an0 m a b c:e127 jn m [] [] ⟨[.dat 26 a,(.fn 156 [.ptr 0 [] 0,.ptr 1 [] 0])],[.box 3 (.dat 3 (.int b)),.box 3 (.dat 3 (.int c))],2⟩=i127 (m+1) a b c:=
 tq (g:=fun J=>cond (I a 0==6) (jj J 1 4 (succ m) (acy (L a 3) ((L a 3).length:Int) 0 b c) (ag0 J m acv [] (succ m))) (cond (I a 0==5) (jj J 1 10 (succ m) (acz (L a 4) ((L a 4).length:Int) 0 b c) (ag0 J m acw [] (succ m))) (some (b,c)))) (by simp only[aM,OQ m,OT m];rfl)
def e128(J:Q52)(m:Nat):=evAt Tryz.prog env (ct m) J (m+1) 156 15 Tryz.f156 agN
theorem an1 m c a b:e128 jn m [] [] ⟨[.dat 26 c,.ptr 0 [] 0,.ptr 1 [] 0],[.box 3 (.dat 3 (.int a)),.box 3 (.dat 3 (.int b))],2⟩=Fe (m+1) c a b:=
 tq (g:=fun J=>(kM m c (wrap .i64 (b-a))).bind fun d=>some (decide (wrap .i64 (a+d)<b),wrap .i64 (a+d),b)) (by rfl)
def e86(J:Q2)(m:Nat):=evAt Tryz.prog env (ct m) J (m+1) 119 5 Tryz.f119 d28
theorem OU m a:e86 jn m [] [] ⟨[.dat 26 a],[],0⟩=ng (m+1) a:=
 tq (g:=fun J=>(kM m a 1025).bind fun b=>some b) (by rfl)
def e117(J:Q2)(m:Nat):=evAt Tryz.prog env (ct m) J (m+1) 147 13 Tryz.f147 d28
theorem OV m b a:e117 jn m [] [] ⟨[.dat 26 b,.dat 3 (.int a)],[],0⟩=kN (m+1) b a:=
 tq (g:=fun J=>cond (a==1) (some 1) ((agI m b 0 a).bind fun c=>some (wrap .i64 (1+c.1)))) (by rfl)
def arT:List Nat:=[1,1,0,1,0,1]
def acA:List Nat:=arT++[0]
def arU:List Nat:=[1,1,0,1,1,1,0,1]
def acB:List Nat:=arU++[0]
def e129(J:Q30)(m:Nat):=evAt Tryz.prog env (ct m) J (m+1) 155 39 Tryz.f155 agM
def ag1(J:Q30)(m:Nat):=loopAt Tryz.prog env (ct m) J (m+1) 155 39 Tryz.f155 agM
def acC(a:List Dt)(b c d e:Int):St:=⟨tsOf [(1,(.fn 157 [.ptr 0 [] 0,.ptr 1 [] 0])),(13,.dat 23 (.lst a)),(14,.dat 3 (.int b)),(15,.dat 3 (.int c))],[.box 3 (.dat 3 (.int d)),.box 3 (.dat 3 (.int e))],2⟩
def acD(a:List Dt)(b c d e:Int):St:=⟨tsOf [(1,(.fn 157 [.ptr 0 [] 0,.ptr 1 [] 0])),(27,.dat 24 (.lst a)),(28,.dat 3 (.int b)),(29,.dat 3 (.int c))],[.box 3 (.dat 3 (.int d)),.box 3 (.dat 3 (.int e))],2⟩
theorem OW m:∀a c d b e f,ag1 jn m acA [] a (acC c d b e f)=DV m (i130 m) a c d b e f
 |0,_,_,_,_,_=>rfl
 |a+1,c,d,b,e,f=>
  tl (g:=fun J=>cond (b<d) ((idx c b).bind fun i=>(i130 m i e f).bind fun h=>cond (!h.1) (some (h.2.1,h.2.2)) (jj J 1 4 a (acC c d (wrap .i64 (b+1)) h.2.1 h.2.2) (ag1 J m acA [] a))) (some (e,f))) (by simp only[aM,(OW m a)];rfl)
theorem OX m:∀a c d b e f,ag1 jn m acB [] a (acD c d b e f)=DW m (i130 m) a c d b e f
 |0,_,_,_,_,_=>rfl
 |a+1,c,d,b,e,f=>
  tl (g:=fun J=>cond (b<d) ((idx c b).bind fun i=>(i130 m (fld i 1) e f).bind fun h=>cond (!h.1) (some (h.2.1,h.2.2)) (jj J 1 10 a (acD c d (wrap .i64 (b+1)) h.2.1 h.2.2) (ag1 J m acB [] a))) (some (e,f))) (by simp only[aM,(OX m a)];rfl)
theorem an2 m a b c:e129 jn m [] [] ⟨[.dat 26 a,(.fn 157 [.ptr 0 [] 0,.ptr 1 [] 0])],[.box 3 (.dat 3 (.int b)),.box 3 (.dat 3 (.int c))],2⟩=agI (m+1) a b c:=
 tq (g:=fun J=>cond (I a 0==6) (jj J 1 4 (succ m) (acC (L a 3) ((L a 3).length:Int) 0 b c) (ag1 J m acA [] (succ m))) (cond (I a 0==5) (jj J 1 10 (succ m) (acD (L a 4) ((L a 4).length:Int) 0 b c) (ag1 J m acB [] (succ m))) (some (b,c)))) (by simp only[aM,OW m,OX m];rfl)
def aw1(J:Q52)(m:Nat):=evAt Tryz.prog env (ct m) J (m+1) 157 15 Tryz.f157 agN
theorem an3 m d a b:aw1 jn m [] [] ⟨[.dat 26 d,.ptr 0 [] 0,.ptr 1 [] 0],[.box 3 (.dat 3 (.int a)),.box 3 (.dat 3 (.int b))],2⟩=i130 (m+1) d a b:=
 tq (g:=fun J=>(kN m d (wrap .i64 (b-1))).bind fun c=>some (decide (cond (a<c) c a<wrap .i64 (b-1)),cond (a<c) c a,b)) (by rfl)
def e87(J:Q2)(m:Nat):=evAt Tryz.prog env (ct m) J (m+1) 120 5 Tryz.f120 d28
theorem OY m a:e87 jn m [] [] ⟨[.dat 26 a],[],0⟩=ni (m+1) a:=
 tq (g:=fun J=>(kN m a 17).bind fun b=>some b) (by rfl)
def acE:List Nat:=[1,1,0,1,0]
def e120(J:Q2)(m:Nat):=evAt Tryz.prog env (ct m) J (m+1) 122 25 Tryz.f122 d28
def arV(J:Q2)(m:Nat):=loopAt Tryz.prog env (ct m) J (m+1) 122 25 Tryz.f122 d28
def acF(a:ByteArray)(b:Int)(c:Dt):St:=⟨tsOf [(1,.dat 9 (.str a)),(2,.ptr 0 [] 0),(5,.dat 3 (.int b))],[.box 26 (.dat 26 c)],0⟩
theorem CZ m:∀b d a c,arV jn m acE [] b (acF d a c)=nk m b d a c
 |0,_,_,_=>rfl
 |b+1,d,a,c=>
  tl (g:=fun J=>bif a<((L c 4).length:Int)then(idx (L c 4) a).bind fun e=>cond ((S e 0).toList==d.toList) (some a) (jj J 1 4 b (acF d (wrap .i64 (a+1)) c) (arV J m acE [] b))else some (-1)) (by simp only[aM,(CZ m b)];rfl)
theorem Zl m a b:e120 jn m [] [] ⟨[.dat 26 a,.dat 9 (.str b)],[],0⟩=mJ (m+1) a b:=
 tq (g:=fun J=>cond (I a 0 !=5) (some (-1)) (jj J 1 4 (succ m) (acF b 0 a) (arV J m acE [] (succ m)))) (by simp only[aM,CZ m];rfl)
def e89(J:Q87)(m:Nat):=evAt Tryz.prog env (ct m) J (m+1) 88 19 Tryz.f88 d89
theorem Wp m a b:e89 jn m [] [] ⟨[.dat 26 a,.dat 9 (.str b)],[],0⟩=qZ (m+1) a b:=
 tq (g:=fun J=>(mJ m a b).bind fun c=>cond (c<0) (some (aj,false)) ((idx (L a 4) c).bind fun d=>some (fld d 1,true))) (by rfl)
def auU:List Nat:=[1,1,0,1,0,1,1,1,0,1,0,1]
def aeV:List Nat:=auU++[0]
def e61(J:Q0)(m:Nat):=evAt Tryz.prog env (ct m) J (m+1) 68 59 Tryz.f68 d25
def l61(J:Q0)(m:Nat):=loopAt Tryz.prog env (ct m) J (m+1) 68 59 Tryz.f68 d25
def aeW(a:List Dt)(b:Int)(c d:Dt)(e f:Int)(g:ByteArray)(h i:List Dt):St:=⟨tsOf [(1,.dat 22 (.lst a)),(2,.ptr 0 [] 0),(4,.ptr 1 [] 0),(7,.ptr 2 [] 0),(8,.dat 3 (.int b))],[.box 26 (.dat 26 c),.box 26 (.dat 26 d),.box 26 (.agg 26 [.dat 3 (.int e),.dat 3 (.int f),.dat 9 (.str g),.row 3,.row 4]),.row 23 h,.row 24 i],0⟩
theorem C8 m:∀a d b c k e f h i j,l61 jn m aeV [] a (aeW d b c k e f h i j)=ru m (gW m) a d b c k e f h i j
 |0,_,_,_,_,_,_,_,_,_=>rfl
 |a+1,d,b,c,k,e,f,h,i,j=>
  tl (g:=fun J=>bif b<((L c 3).length:Int)then(idx (L c 3) b).bind fun n=>(gW m n d).bind fun l=>cond (I l 0 !=0) ((app i [l]).bind fun o=>jj J 1 11 a (aeW d (wrap .i64 (b+1)) c k e f h o j) (l61 J m aeV [] a)) (jj J 1 11 a (aeW d (wrap .i64 (b+1)) c k e f h i j) (l61 J m aeV [] a))else some (agg [int e,int f,str h,lst i,lst j])) (by simp only[aM,(C8 m a)];rfl)
theorem Zm m a b:e61 jn m [] [] ⟨[.dat 26 a,.dat 22 (.lst b)],[],0⟩=gW (m+1) a b:=
 tq (g:=fun J=>cond ((b.length:Int)==0) (some a) (cond (I a 0==5) ((idx b 0).bind fun d=>(qZ m a (toStr d)).bind fun c=>cond c.2 ((cutL b 1 (b.length:Int)).bind fun e=>(gW m c.1 e).bind fun f=>some f) (some aj)) (cond (I a 0==6) (jj J 1 11 (succ m) (aeW b 0 a aj 6 0 (ByteArray.mk (List.toArray [])) [] []) (l61 J m aeV [] (succ m))) (some aj)))) (by simp only[aM,C8 m];rfl)
def aw2(J:Q1)(m:Nat):=evAt Tryz.prog env (ct m) J (m+1) 123 19 Tryz.f123 d32
def arW(J:Q1)(m:Nat):=loopAt Tryz.prog env (ct m) J (m+1) 123 19 Tryz.f123 d32
def acG(a:List Dt)(b c:Int):St:=⟨tsOf [(0,.dat 23 (.lst a)),(1,.dat 3 (.int b)),(5,.dat 3 (.int c))],[],0⟩
theorem yE m:∀a b d c,arW jn m [1,0,1,0] [] a (acG b d c)=o8 m a b d c
 |0,_,_,_=>rfl
 |a+1,b,d,c=>
  tl (g:=fun J=>bif c<(b.length:Int)then(idx b c).bind fun e=>cond (I e 0 !=d) (some false) (jj J 1 2 a (acG b d (wrap .i64 (c+1))) (arW J m [1,0,1,0] [] a))else some true) (by simp only[aM,(yE m a)];rfl)
theorem OZ m a b:aw2 jn m [] [] ⟨[.dat 23 (.lst a),.dat 3 (.int b)],[],0⟩=iP (m+1) a b:=
 tq (g:=fun J=>jj J 1 2 (succ m) (acG a b 0) (arW J m [1,0,1,0] [] (succ m))) (by simp only[aM,yE m];rfl)
def ak5:List Nat:=[1,1,1,0,1,0]
def e95(J:Q0)(m:Nat):=evAt Tryz.prog env (ct m) J (m+1) 94 29 Tryz.f94 d25
def l95(J:Q0)(m:Nat):=loopAt Tryz.prog env (ct m) J (m+1) 94 29 Tryz.f94 d25
def ak6(a:List Dt)(b:ByteArray)(c:Int)(d:Dt):St:=⟨tsOf [(0,.dat 23 (.lst a)),(2,.ptr 0 [] 0),(3,.dat 9 (.str b)),(4,.dat 3 (.int c))],[.box 26 (.dat 26 d)],0⟩
theorem wV m:∀b c a d e,l95 jn m ak5 [] b (ak6 c a d e)=nS m b c a d e
 |0,_,_,_,_=>rfl
 |b+1,c,a,d,e=>
  tl (g:=fun J=>cond (d<(c.length:Int)) (bif (a.size:Int)<=4096 then(idx c d).bind fun h=>cond (Nat.ble (a.size+(S h 2).size) 1152921504606846976) (jj J 1 5 b (ak6 c (a++S h 2) (wrap .i64 (d+1)) e) (l95 J m ak5 [] b)) none else(jR m a).bind fun f=>some f) ((jR m a).bind fun f=>some f)) (by simp only[aM,(wV m b)];rfl)
theorem Mi m a:e95 jn m [] [] ⟨[.dat 23 (.lst a)],[],0⟩=kP (m+1) a:=
 tq (g:=fun J=>(iP m a 4).bind fun b=>cond (!b) ((bZ m).bind fun c=>some c) (jj J 1 5 (succ m) (ak6 a (ByteArray.mk (List.toArray [])) 0 aj) (l95 J m ak5 [] (succ m)))) (by simp only[aM,wV m];rfl)
def acH:List Nat:=[1,1,1,0,1,0]
def aw3(J:Q0)(m:Nat):=evAt Tryz.prog env (ct m) J (m+1) 102 26 Tryz.f102 d25
def arX(J:Q0)(m:Nat):=loopAt Tryz.prog env (ct m) J (m+1) 102 26 Tryz.f102 d25
def acI(a:List Dt)(b:Int)(c:Dt)(d e:Int)(f:ByteArray)(g h:List Dt):St:=⟨tsOf [(0,.dat 23 (.lst a)),(2,.ptr 0 [] 0),(3,.ptr 1 [] 0),(4,.dat 3 (.int b))],[.box 26 (.dat 26 c),.box 26 (.agg 26 [.dat 3 (.int d),.dat 3 (.int e),.dat 9 (.str f),.row 2,.row 3]),.row 23 g,.row 24 h],0⟩
theorem Aa m:∀a b c j d e f h i,arX jn m acH [] a (acI b c j d e f h i)=qz m a b c j d e f h i
 |0,_,_,_,_,_,_,_,_=>rfl
 |a+1,b,c,j,d,e,f,h,i=>
  tl (g:=fun J=>bif c<(b.length:Int)then(idx b c).bind fun k=>(app h (L k 3)).bind fun l=>jj J 1 5 a (acI b (wrap .i64 (c+1)) j d e f l i) (arX J m acH [] a)else some (agg [int d,int e,str f,lst h,lst i])) (by simp only[aM,(Aa m a)];rfl)
theorem RJ m a:aw3 jn m [] [] ⟨[.dat 23 (.lst a)],[],0⟩=o9 (m+1) a:=
 tq (g:=fun J=>(iP m a 6).bind fun b=>cond (!b) ((bZ m).bind fun c=>some c) (jj J 1 5 (succ m) (acI a 0 aj 6 0 (ByteArray.mk (List.toArray [])) [] []) (arX J m acH [] (succ m)))) (by simp only[aM,Aa m];rfl)
def acJ:List Nat:=[1,1,1,0,1]
def an4(J:Q2)(m:Nat):=evAt Tryz.prog env (ct m) J (m+1) 124 29 Tryz.f124 d28
def acK(a:Int)(b:Bool):St:=⟨tsOf [(5,.dat 3 (.int a)),(25,.dat 4 (.bool b))],[],0⟩
theorem C9 m a b:an4 jn m acJ [] (acK a b)=kQ m a b:=
 tq (g:=fun J=>cond b (some (wrap .i64 (a-1))) (some a)) (by rfl)
theorem HY m b a:an4 jn m [] [] ⟨[.dat 3 (.int b),.dat 3 (.int a)],[],0⟩=eO (m+1) b a:=
 tq (g:=fun J=>cond (a==(-1)) (some (wrap .i64 (0-b))) (cond (a=0) none (cond (a=0) none (cond (Int.tmod b a !=0) (cond (a=0) none (jj J 0 5 0 (acK (wrap .i64 (Int.tdiv b a)) (!decide (Int.tmod b a<0)==decide (a<0))) (an4 J m acJ []))) (jj J 0 5 0 (acK (wrap .i64 (Int.tdiv b a)) false) (an4 J m acJ [])))))) (by simp only[aM,C9 m];rfl)
def auV:List Nat:=[1,1,1,1,0,1]
def Zn:List Nat:=auV++[0]
def e92(J:Q0)(m:Nat):=evAt Tryz.prog env (ct m) J (m+1) 91 96 Tryz.f91 d25
def l92(J:Q0)(m:Nat):=loopAt Tryz.prog env (ct m) J (m+1) 91 96 Tryz.f91 d25
def Zo(a:Int)(b:List Dt)(c d:Int)(e:Dt):St:=⟨tsOf [(0,.dat 3 (.int a)),(1,.dat 23 (.lst b)),(4,.ptr 0 [] 0),(5,.dat 3 (.int c)),(6,.dat 3 (.int d))],[.box 26 (.dat 26 e)],0⟩
def Zp(a:Int)(b:List Dt)(c:Bool)(d:Dt):St:=⟨tsOf [(0,.dat 3 (.int a)),(1,.dat 23 (.lst b)),(4,.ptr 0 [] 0),(24,.dat 4 (.bool c))],[.box 26 (.dat 26 d)],0⟩
theorem wW m:∀c b a f d h,l92 jn m Zn [] c (Zo b a f d h)=je m c b a f d h
 |0,_,_,_,_,_=>rfl
 |c+1,b,a,f,d,h=>
  tl (g:=fun J=>cond (d<(a.length:Int)) (bif b==6 then(idx a d).bind fun o=>jj J 1 7 c (Zo b a (wrap .i64 (f*I o 1)) (wrap .i64 (d+1)) h) (l92 J m Zn [] c)else(idx a d).bind fun p=>jj J 1 7 c (Zo b a (wrap .i64 (f+I p 1)) (wrap .i64 (d+1)) h) (l92 J m Zn [] c)) (cond (b==5) ((idx a 0).bind fun q=>(idx a 1).bind fun r=>(dP m (wrap .i64 (I q 1-I r 1))).bind fun e=>some e) (cond (b==7) ((idx a 0).bind fun s=>(idx a 1).bind fun t=>(eO m (I s 1) (I t 1)).bind fun u=>(dP m u).bind fun e=>some e) (cond (b==8) ((idx a 0).bind fun i=>(idx a 1).bind fun j=>(idx a 0).bind fun k=>(idx a 1).bind fun l=>(eO m (I k 1) (I l 1)).bind fun n=>(dP m (wrap .i64 (I i 1-wrap .i64 (I j 1*n)))).bind fun e=>some e) ((dP m f).bind fun e=>some e))))) (by simp only[aM,(wW m c)];rfl)
theorem FM m a b d c:e92 jn m [1,0,1] [] (Zp a b d c)=jf m a b d c:=
 tq (g:=fun J=>cond d ((bZ m).bind fun e=>some e) (cond (a==6) (jj J 1 7 (succ m) (Zo a b 1 0 c) (l92 J m Zn [] (succ m))) (jj J 1 7 (succ m) (Zo a b 0 0 c) (l92 J m Zn [] (succ m))))) (by simp only[aM,wW m];rfl)
theorem Mj m b a:e92 jn m [] [] ⟨[.dat 3 (.int b),.dat 23 (.lst a)],[],0⟩=fJ (m+1) b a:=
 tq (g:=fun J=>(iP m a 3).bind fun e=>cond (!e) (jj J 0 2 0 (Zp b a true aj) (e92 J m [1,0,1] [])) (cond (b==7) ((idx a 1).bind fun c=>jj J 0 2 0 (Zp b a (I c 1==0) aj) (e92 J m [1,0,1] [])) (cond (b==8) ((idx a 1).bind fun d=>jj J 0 2 0 (Zp b a (I d 1==0) aj) (e92 J m [1,0,1] [])) (jj J 0 2 0 (Zp b a false aj) (e92 J m [1,0,1] []))))) (by simp only[aM,FM m];rfl)
def aw4(J:Q1)(m:Nat):=evAt Tryz.prog env (ct m) J (m+1) 125 9 Tryz.f125 d32
theorem O0 m a b:aw4 jn m [] [] ⟨[.dat 26 a,.dat 26 b],[],0⟩=jF (m+1) a b:=
 tq (g:=fun J=>(bB m a b).bind fun c=>some (c==0)) (by rfl)
def aw5(J:Q1)(m:Nat):=evAt Tryz.prog env (ct m) J (m+1) 101 18 Tryz.f101 d32
def arY(J:Q1)(m:Nat):=loopAt Tryz.prog env (ct m) J (m+1) 101 18 Tryz.f101 d32
def acL(a:List Dt)(b:Int)(c:Dt):St:=⟨tsOf [(0,.dat 23 (.lst a)),(3,.ptr 0 [] 0),(5,.dat 3 (.int b))],[.box 26 (.dat 26 c)],0⟩
theorem uV m:∀a b c d,arY jn m [1,0,1,0] [] a (acL b c d)=kR m a b c d
 |0,_,_,_=>rfl
 |a+1,b,c,d=>
  tl (g:=fun J=>bif c<(b.length:Int)then(idx b c).bind fun e=>(jF m e d).bind fun f=>cond f (some true) (jj J 1 2 a (acL b (wrap .i64 (c+1)) d) (arY J m [1,0,1,0] [] a))else some false) (by simp only[aM,(uV m a)];rfl)
theorem HZ m a b:aw5 jn m [] [] ⟨[.dat 23 (.lst a),.dat 26 b],[],0⟩=jW (m+1) a b:=
 tq (g:=fun J=>jj J 1 2 (succ m) (acL a 0 b) (arY J m [1,0,1,0] [] (succ m))) (by simp only[aM,uV m];rfl)
def acM:List Nat:=[1,1,1,1,1,1]
def arZ:List Nat:=[1,1,1,1,0,1]
def Wq:List Nat:=arZ++[0]
def an5(J:Q0)(m:Nat):=evAt Tryz.prog env (ct m) J (m+1) 126 50 Tryz.f126 d25
def an6(J:Q0)(m:Nat):=loopAt Tryz.prog env (ct m) J (m+1) 126 50 Tryz.f126 d25
def Ws(a:ByteArray)(b c:Int)(d e f:Dt)(g:List Dt):St:=⟨tsOf [(1,.dat 9 (.str a)),(3,.ptr 0 [] 0),(5,.ptr 1 [] 0),(6,.ptr 2 [] 0),(7,.dat 3 (.int b)),(8,.row 3),(9,.dat 3 (.int c))],[.box 26 (.dat 26 d),.box 26 (.dat 26 e),.box 26 (.dat 26 f),.row 24 g],0⟩
def acO(a b:Dt)(c:List Dt):St:=⟨tsOf [(3,.ptr 0 [] 0),(6,.ptr 1 [] 0),(8,.row 2)],[.box 26 (.dat 26 a),.box 26 (.dat 26 b),.row 24 c],0⟩
theorem Mk m a c b:an5 jn m acM [] (acO a c b)=rY m a c b:=
 tq (g:=fun J=>some (agg [int (I a 0),int (I a 1),str (S a 2),lst (L a 3),lst b])) (by rfl)
theorem Bv m:∀b i d c a e f h,an6 jn m Wq [] b (Ws i d c a e f h)=kS m b i d c a e f h
 |0,_,_,_,_,_,_,_=>rfl
 |b+1,i,d,c,a,e,f,h=>
  tl (g:=fun J=>bif c<((L a 4).length:Int)then(idx (L a 4) c).bind fun k=>bif c==d then(app h [agg [str (S k 0),e]]).bind fun j=>jj J 1 6 b (Ws i d (wrap .i64 (c+1)) a e f j) (an6 J m Wq [] b)else(app h [k]).bind fun j=>jj J 1 6 b (Ws i d (wrap .i64 (c+1)) a e f j) (an6 J m Wq [] b)else cond (d<0) ((app h [agg [str i,e]]).bind fun l=>jj J 0 14 0 (acO a f l) (an5 J m acM [])) (jj J 0 14 0 (acO a f h) (an5 J m acM []))) (by simp only[aM,(Bv m b),Mk m];rfl)
theorem Wt m a b c:an5 jn m [] [] ⟨[.dat 26 a,.dat 9 (.str b),.dat 26 c],[],0⟩=oq (m+1) a b c:=
 tq (g:=fun J=>cond (I a 0 !=5) (some a) ((mJ m a b).bind fun d=>jj J 1 6 (succ m) (Ws b d 0 a c aj []) (an6 J m Wq [] (succ m)))) (by simp only[aM,Bv m];rfl)
def Kz:List Nat:=[1,1,0,1,0]
def ar0:List Nat:=[1,1,0,1,0,0,1]
def ar1:List Nat:=ar0++[0,0,1]
def ar3:List Nat:=ar1++[1]
def ar4:List Nat:=ar3++[1]
def acP:List Nat:=ar4++[0]
def aw6(J:Q0)(m:Nat):=evAt Tryz.prog env (ct m) J (m+1) 103 65 Tryz.f103 d25
def Wu(J:Q0)(m:Nat):=loopAt Tryz.prog env (ct m) J (m+1) 103 65 Tryz.f103 d25
def KA(a:List Dt)(b:Int)(c d:Dt):St:=⟨tsOf [(0,.dat 23 (.lst a)),(2,.ptr 0 [] 0),(3,.ptr 1 [] 0),(4,.dat 3 (.int b))],[.box 26 (.dat 26 c),.box 26 (.dat 26 d)],0⟩
def acQ(a:List Dt)(b c:Int)(d e:Dt):St:=⟨tsOf [(0,.dat 23 (.lst a)),(2,.ptr 0 [] 0),(3,.ptr 1 [] 0),(4,.dat 3 (.int b)),(5,.dat 3 (.int c))],[.box 26 (.dat 26 d),.box 26 (.dat 26 e)],0⟩
abbrev ar5(m f:Nat)(a:Q25):Prop:=∀b c d e,Wu jn m Kz [] f (KA b c d e)=a b c d e
theorem yF m e a(j:ar5 m e a):∀f b c d h i,Wu jn m acP [e] f (acQ b c d h i)=pq m a f b c d h i
 |0,_,_,_,_,_=>rfl
 |f+1,b,c,d,h,i=>
  tl (g:=fun J=>(idx b c).bind fun k=>bif d<((L k 4).length:Int)then(idx b c).bind fun l=>(idx (L l 4) d).bind fun n=>(idx b c).bind fun o=>(idx (L o 4) d).bind fun p=>(oq m i (S n 0) (fld p 1)).bind fun q=>jj J 1 9 f (acQ b c (wrap .i64 (d+1)) h q) (Wu J m acP [e] f)else jj J 1 3 e (KA b (wrap .i64 (c+1)) h i) (Wu J m Kz [] e)) (by simp only[aM,(yF m e a j f),j];rfl)
theorem sI m:∀a b c e d,Wu jn m Kz [] a (KA b c e d)=eP m a b c e d
 |0,_,_,_,_=>rfl
 |a+1,b,c,e,d=>
  tl (g:=fun J=>bif c<(b.length:Int)then(idx b c).bind fun f=>cond (I f 0==0) (jj J 1 3 a (KA b (wrap .i64 (c+1)) e d) (Wu J m Kz [] a)) ((idx b c).bind fun h=>cond (I h 0==2) (jj J 1 3 a (KA b (wrap .i64 (c+1)) e d) (Wu J m Kz [] a)) ((idx b c).bind fun i=>cond (I i 0 !=5) ((bZ m).bind fun j=>some j) (jj J 1 9 (succ m) (acQ b c 0 e d) (Wu J m acP [a] (succ m)))))else some d) (by simp only[aM,(sI m a),yF m a (eP m a) (sI m a)];rfl)
theorem O1 m a:aw6 jn m [] [] ⟨[.dat 23 (.lst a)],[],0⟩=nu (m+1) a:=
 tq (g:=fun J=>jj J 1 3 (succ m) (KA a 0 aj M8) (Wu J m Kz [] (succ m))) (by simp only[aM,sI m];rfl)
end Go.Proofs.YtjibjkdalajaiaaGreatDoor
noncomputable section
namespace Go.Proofs.YtjibjkdalajaiaaGreatDoor
open Nat (succ)
open IntKind (wrap)
open Go.Am Dt
set_option maxRecDepth 100000
def KC:List Nat:=[1,0,1,0,1]
def O3:List Nat:=[1,0,1,0,1,1,1]
def ak7:List Nat:=O3++[1,1,1,1,1,1,0,0,1]
def O4:List Nat:=O3++[1,1,1,1,1,1,1,1,1,1]
def KD:List Nat:=O4++[1,1,1,1]
def ar6:List Nat:=KD++[1,1,1,1,1,1,1,1,0,1,0,1]
def Zq:List Nat:=ar6++[0]
def ar7:List Nat:=KD++[1,1,1,1,1,1,1,1,1,1,0,1,0,1]
def auW:List Nat:=Zq++[0,1]
def acR:List Nat:=ar7++[0]
def ak8:List Nat:=auW++[1]
def e63(J:Q0)(m:Nat):=evAt Tryz.prog env (ct m) J (m+1) 70 223 Tryz.f70 d25
def l63(J:Q0)(m:Nat):=loopAt Tryz.prog env (ct m) J (m+1) 70 223 Tryz.f70 d25
def ak9(a:List Dt)(b:Bool)(c:Dt):St:=⟨tsOf [(1,.dat 23 (.lst a)),(4,.ptr 0 [] 0),(61,.dat 4 (.bool b))],[.box 26 (.dat 26 c)],0⟩
def FN(a:List Dt)(b:Int)(c d:Dt)(e f:Int)(g:ByteArray)(h i:List Dt):St:=⟨tsOf [(1,.dat 23 (.lst a)),(2,.ptr 0 [] 0),(4,.ptr 1 [] 0),(5,.ptr 2 [] 0),(6,.dat 3 (.int b))],[.box 29 (.dat 29 c),.box 26 (.dat 26 d),.box 26 (.agg 26 [.dat 3 (.int e),.dat 3 (.int f),.dat 9 (.str g),.row 3,.row 4]),.row 23 h,.row 24 i],0⟩
def acS(a:List Dt)(b:Int)(c:Dt)(d e:Int)(f:ByteArray)(g h:List Dt):St:=⟨tsOf [(1,.dat 23 (.lst a)),(4,.ptr 0 [] 0),(7,.ptr 1 [] 0),(8,.dat 3 (.int b))],[.box 26 (.dat 26 c),.box 26 (.agg 26 [.dat 3 (.int d),.dat 3 (.int e),.dat 9 (.str f),.row 2,.row 3]),.row 23 g,.row 24 h],0⟩
def aeX(a:List Dt)(b:Int)(c:Bool)(d e:Dt):St:=⟨tsOf [(1,.dat 23 (.lst a)),(2,.ptr 0 [] 0),(4,.ptr 1 [] 0),(10,.dat 3 (.int b)),(112,.dat 4 (.bool c))],[.box 29 (.dat 29 d),.box 26 (.dat 26 e)],0⟩
def aeY(a:List Dt)(b:Int)(c:Bool)(d e:Dt):St:=⟨tsOf [(1,.dat 23 (.lst a)),(2,.ptr 0 [] 0),(4,.ptr 1 [] 0),(10,.dat 3 (.int b)),(72,.dat 4 (.bool c))],[.box 29 (.dat 29 d),.box 26 (.dat 26 e)],0⟩
def ala(a:List Dt)(b:Int)(c:Bool)(d e:Dt):St:=⟨tsOf [(1,.dat 23 (.lst a)),(2,.ptr 0 [] 0),(4,.ptr 1 [] 0),(10,.dat 3 (.int b)),(21,.dat 4 (.bool c))],[.box 29 (.dat 29 d),.box 26 (.dat 26 e)],0⟩
def Uf(a:List Dt)(b:Int)(c:Bool)(d e:Dt):St:=⟨tsOf [(1,.dat 23 (.lst a)),(2,.ptr 0 [] 0),(4,.ptr 1 [] 0),(10,.dat 3 (.int b)),(11,.dat 4 (.bool c))],[.box 29 (.dat 29 d),.box 26 (.dat 26 e)],0⟩
theorem H6 m a b e:e63 jn m ak7 [] (ak9 a b e)=rZ m a b e:=
 tq (g:=fun J=>cond b ((idx a 1).bind fun c=>some c) ((idx a 0).bind fun d=>some d)) (by rfl)
abbrev ar8(m b:Nat)(a:Q40):Prop:=∀c d e f g h i j k,l63 jn m Zq [] b (FN c d e f g h i j k)=a c d e f g h i j k
theorem FP m b a(c:ar8 m b a) d e f h i j k l n:e63 jn m ak8 [b] (FN d e f h i j k l n)=qK m a d e f h i j k l n:=
 tq (g:=fun J=>jj J 1 48 b (FN d (wrap .i64 (e+1)) f h i j k l n) (l63 J m Zq [] b)) (by simp only[aM,c];rfl)
theorem wX m:∀a c b d k e f h i j,l63 jn m Zq [] a (FN c b d k e f h i j)=jg m a c b d k e f h i j
 |0,_,_,_,_,_,_,_,_,_=>rfl
 |a+1,c,b,d,k,e,f,h,i,j=>
  tl (g:=fun J=>bif b<(c.length:Int)then(idx c b).bind fun l=>cond (I l 0 !=0) ((idx (L d 3) b).bind fun n=>(idx c b).bind fun o=>(app j [agg [str (toStr n),o]]).bind fun p=>jj J 0 49 0 (FN c b d k e f h i p) (e63 J m ak8 [a])) (jj J 0 49 0 (FN c b d k e f h i j) (e63 J m ak8 [a]))else some (agg [int e,int f,str h,lst i,lst j])) (by simp only[aM,FP m a (jg m a) (wX m a)];rfl)
theorem wY m:∀a b c j d e f h i,l63 jn m acR [] a (acS b c j d e f h i)=nT m a b c j d e f h i
 |0,_,_,_,_,_,_,_,_=>rfl
 |a+1,b,c,j,d,e,f,h,i=>
  tl (g:=fun J=>bif c<(b.length:Int)then(idx b c).bind fun k=>(nE m k).bind fun l=>(app h [l]).bind fun n=>jj J 1 56 a (acS b (wrap .i64 (c+1)) j d e f n i) (l63 J m acR [] a)else some (agg [int d,int e,str f,lst h,lst i])) (by simp only[aM,(wY m a)];rfl)
theorem H7 m a b e c d:e63 jn m KD [] (aeX a b e c d)=r9 m a b e c d:=
 tq (g:=fun J=>cond e ((idx a 0).bind fun f=>(lI m (I c 0) f).bind fun h=>some h) (cond (b==27) ((idx a 0).bind fun i=>(idx a 1).bind fun j=>(jD m i j).bind fun k=>some k) (cond (b==28) ((idx a 1).bind fun l=>cond (I l 0 !=6) ((bZ m).bind fun n=>some n) ((idx a 1).bind fun o=>(idx a 0).bind fun p=>(jW m (L o 3) p).bind fun q=>(bO m q).bind fun r=>some r)) (cond (b==29) ((o9 m a).bind fun s=>some s) (cond (b==34) (jj J 1 48 (succ m) (FN a 0 c d 5 0 (ByteArray.mk (List.toArray [])) [] []) (l63 J m Zq [] (succ m))) (cond (b==35) (jj J 1 56 (succ m) (acS a 0 d 6 0 (ByteArray.mk (List.toArray [])) [] []) (l63 J m acR [] (succ m))) (cond (b==36) ((idx a 0).bind fun t=>(dP m (I t 0)).bind fun u=>some u) (cond (b==37) ((nu m a).bind fun v=>some v) ((idx a 0).bind fun w=>(idx a 1).bind fun x=>(dS m (I c 0) w x).bind fun y=>some y))))))))) (by simp only[aM,wX m,wY m];rfl)
theorem H8 m a b e c d:e63 jn m O4 [] (aeY a b e c d)=sj m a b e c d:=
 tq (g:=fun J=>cond e ((idx a 0).bind fun f=>cond (I f 0 !=4) ((bZ m).bind fun h=>some h) (cond (I c 0==24) ((idx a 0).bind fun i=>(dP m ((S i 2).size:Int)).bind fun j=>some j) ((idx a 0).bind fun k=>(gF m (S k 2) (I c 0==23)).bind fun l=>(jR m l).bind fun n=>some n))) (cond (b==25) ((idx a 0).bind fun o=>(idx a 1).bind fun p=>(idx a 2).bind fun q=>(mZ m o p q).bind fun r=>some r) (cond (b==26) (jj J 0 36 0 (aeX a b (b==26) c d) (e63 J m KD [])) (cond (b==30) (jj J 0 36 0 (aeX a b (b==30) c d) (e63 J m KD [])) (jj J 0 36 0 (aeX a b (b==31) c d) (e63 J m KD [])))))) (by simp only[aM,H7 m];rfl)
theorem H9 m a b e d c:e63 jn m O3 [] (ala a b e d c)=wJ m a b e d c:=
 tq (g:=fun J=>cond e ((mY m (I d 0) a).bind fun i=>some i) (cond (b==18) ((idx a 0).bind fun j=>(fQ m j).bind fun k=>(bO m (!k)).bind fun l=>some l) (cond (b==19) ((idx a 0).bind fun n=>(fQ m n).bind fun o=>cond o ((idx a 1).bind fun p=>some p) ((idx a 2).bind fun q=>some q)) (cond (b==20) ((idx a 0).bind fun r=>cond (I r 0==0) (jj J 0 19 0 (ak9 a true c) (e63 J m ak7 [])) ((idx a 0).bind fun f=>jj J 0 19 0 (ak9 a (I f 0==2) c) (e63 J m ak7 []))) (cond (b==21) ((kP m a).bind fun h=>some h) (cond (b==22) (jj J 0 26 0 (aeY a b (b==22) d c) (e63 J m O4 [])) (cond (b==23) (jj J 0 26 0 (aeY a b (b==23) d c) (e63 J m O4 [])) (jj J 0 26 0 (aeY a b (b==24) d c) (e63 J m O4 []))))))))) (by simp only[aM,H6 m,H8 m];rfl)
theorem Ia m b a e c d:e63 jn m KC [] (Uf b a e c d)=mM m b a e c d:=
 tq (g:=fun J=>cond e ((fJ m (I c 0) b).bind fun f=>some f) (cond (a==16) (jj J 0 10 0 (ala b a (a==16) c d) (e63 J m O3 [])) (jj J 0 10 0 (ala b a (a==17) c d) (e63 J m O3 [])))) (by simp only[aM,H9 m];rfl)
theorem O5 m a b:e63 jn m [] [] ⟨[.dat 29 a,.dat 23 (.lst b)],[],0⟩=aV (m+1) a b:=
 tq (g:=fun J=>cond (I a 0==4) (jj J 0 7 0 (Uf b (I a 0) (I a 0==4) a aj) (e63 J m KC [])) (cond (I a 0==5) (jj J 0 7 0 (Uf b (I a 0) (I a 0==5) a aj) (e63 J m KC [])) (cond (I a 0==6) (jj J 0 7 0 (Uf b (I a 0) (I a 0==6) a aj) (e63 J m KC [])) (cond (I a 0==7) (jj J 0 7 0 (Uf b (I a 0) (I a 0==7) a aj) (e63 J m KC [])) (jj J 0 7 0 (Uf b (I a 0) (I a 0==8) a aj) (e63 J m KC [])))))) (by simp only[aM,Ia m];rfl)
def alb:List Nat:=[1,1,1,0,1]
def auX:List Nat:=[1,1,0,1,0,1,1,1,1,1,0,1]
def Wv:List Nat:=[1,1,0,1,0,1,1,1,1,1,1,1]
def aeZ:List Nat:=auX++[0]
def auY:List Nat:=Wv++[1,1,0,1]
def alc:List Nat:=auY++[0]
def e45(J:Q0)(m:Nat):=evAt Tryz.prog env (ct m) J (m+1) 47 86 Tryz.f47 d25
def l45(J:Q0)(m:Nat):=loopAt Tryz.prog env (ct m) J (m+1) 47 86 Tryz.f47 d25
def Ug(a b:Dt):St:=⟨tsOf [(6,.ptr 0 [] 0),(7,.ptr 1 [] 0)],[.box 26 (.dat 26 a),.box 26 (.dat 26 b)],0⟩
def ald(a:Bool)(b c:Dt):St:=⟨tsOf [(6,.ptr 0 [] 0),(7,.ptr 1 [] 0),(83,.dat 4 (.bool a))],[.box 26 (.dat 26 b),.box 26 (.dat 26 c)],0⟩
def ae0(a:List Dt)(b:Int)(c d e:Dt):St:=⟨tsOf [(2,.dat 117 (.lst a)),(3,.ptr 0 [] 0),(6,.ptr 1 [] 0),(7,.ptr 2 [] 0),(8,.dat 3 (.int b))],[.box 29 (.dat 29 c),.box 26 (.dat 26 d),.box 26 (.dat 26 e)],0⟩
def acT(a:List Dt)(b:Int)(c d e f:Dt)(g:List Dt):St:=⟨tsOf [(2,.dat 117 (.lst a)),(3,.ptr 0 [] 0),(4,.ptr 1 [] 0),(6,.ptr 2 [] 0),(7,.ptr 3 [] 0),(9,.row 4),(10,.dat 3 (.int b))],[.box 29 (.dat 29 c),.box 26 (.dat 26 d),.box 26 (.dat 26 e),.box 26 (.dat 26 f),.row 23 g],0⟩
def ale(a:List Dt)(b:Bool)(c d e f:Dt):St:=⟨tsOf [(2,.dat 117 (.lst a)),(3,.ptr 0 [] 0),(4,.ptr 1 [] 0),(6,.ptr 2 [] 0),(7,.ptr 3 [] 0),(69,.dat 4 (.bool b))],[.box 29 (.dat 29 c),.box 26 (.dat 26 d),.box 26 (.dat 26 e),.box 26 (.dat 26 f)],0⟩
theorem KE m a c b:e45 jn m alb [] (ald a c b)=zh m (bI m) (dD m) a c b:=
 tq (g:=fun J=>cond a ((bZ m).bind fun d=>some d) (some b)) (by rfl)
theorem qb m b a:e45 jn m [1,1,1] [] (Ug b a)=fG m (bI m) (dD m) b a:=
 tq (g:=fun J=>cond (I a 0 !=0) ((iO m a).bind fun c=>jj J 0 23 0 (ald (!c) b a) (e45 J m alb [])) (jj J 0 23 0 (ald false b a) (e45 J m alb []))) (by simp only[aM,KE m];rfl)
theorem Ab m:∀a b c d e f,l45 jn m aeZ [] a (ae0 b c d e f)=ou m (bI m) (dD m) a b c d e f
 |0,_,_,_,_,_=>rfl
 |a+1,b,c,d,e,f=>
  tl (g:=fun J=>bif c<(b.length:Int)then(idx b c).bind fun h=>bif (S h 0).toList==(S d 2).toList then(idx b c).bind fun i=>(gW m (fld i 1) (L d 1)).bind fun j=>jj J 1 15 a (ae0 b (wrap .i64 (c+1)) d e j) (l45 J m aeZ [] a)else jj J 1 15 a (ae0 b (wrap .i64 (c+1)) d e f) (l45 J m aeZ [] a)else jj J 0 22 0 (Ug e f) (e45 J m [1,1,1] [])) (by simp only[aM,(Ab m a),qb m];rfl)
theorem Ac m:∀b d c a e f i h,l45 jn m alc [] b (acT d c a e f i h)=qA m (bI m) (dD m) b d c a e f i h
 |0,_,_,_,_,_,_,_=>rfl
 |b+1,d,c,a,e,f,i,h=>
  tl (g:=fun J=>bif c<((L a 6).length:Int)then(idx (L a 6) c).bind fun k=>(bI m k e d).bind fun l=>(app h [l]).bind fun n=>jj J 1 5 b (acT d (wrap .i64 (c+1)) a e f i n) (l45 J m alc [] b)else(aV m a h).bind fun j=>jj J 0 22 0 (Ug f j) (e45 J m [1,1,1] [])) (by simp only[aM,(Ac m b),qb m];rfl)
theorem KF m a e b c d f:e45 jn m Wv [] (ale a e b c d f)=zk m (bI m) (dD m) a e b c d f:=
 tq (g:=fun J=>cond e ((dD m b c a).bind fun h=>jj J 0 22 0 (Ug d h) (e45 J m [1,1,1] [])) (jj J 1 5 (succ m) (acT a 0 b c d f []) (l45 J m alc [] (succ m)))) (by simp only[aM,qb m,Ac m];rfl)
theorem RL m a b c:e45 jn m [] [] ⟨[.dat 29 a,.dat 26 b,.dat 117 (.lst c)],[],0⟩=bI (m+1) a b c:=
 tq (g:=fun J=>cond (I a 0==1) (jj J 0 22 0 (Ug aj (fld a 4)) (e45 J m [1,1,1] [])) (cond (I a 0==2) ((gW m b (L a 1)).bind fun d=>jj J 0 22 0 (Ug aj d) (e45 J m [1,1,1] [])) (cond (I a 0==3) (jj J 1 15 (succ m) (ae0 c 0 a aj aj) (l45 J m aeZ [] (succ m))) (cond (I a 0==32) (jj J 0 21 0 (ale c (I a 0==32) a b aj aj) (e45 J m Wv [])) (jj J 0 21 0 (ale c (I a 0==33) a b aj aj) (e45 J m Wv [])))))) (by simp only[aM,qb m,Ab m,KF m];rfl)
def auZ:List Nat:=[1,1,1,1,0,1]
def Zr:List Nat:=auZ++[0]
def au0:List Nat:=Zr++[0,1]
def ae1:List Nat:=au0++[1]
def e62(J:Q0)(m:Nat):=evAt Tryz.prog env (ct m) J (m+1) 69 75 Tryz.f69 d25
def l62(J:Q0)(m:Nat):=loopAt Tryz.prog env (ct m) J (m+1) 69 75 Tryz.f69 d25
def LG(b:List Dt)(c:Int)(d e f g:Dt)(h i:Int)(j:ByteArray)(k a:List Dt):St:=⟨tsOf [(2,.dat 117 (.lst b)),(3,.ptr 0 [] 0),(4,.ptr 1 [] 0),(6,.ptr 2 [] 0),(7,.ptr 3 [] 0),(8,.ptr 4 [] 0),(9,.dat 3 (.int c))],[.box 29 (.dat 29 d),.box 26 (.dat 26 e),.box 26 (.dat 26 f),.box 26 (.dat 26 g),.box 26 (.agg 26 [.dat 3 (.int h),.dat 3 (.int i),.dat 9 (.str j),.row 5,.row 6]),.row 23 k,.row 24 a],0⟩
abbrev au1(m n:Nat)(a:Q73):Prop:=∀c d e f g h i j k l b,l62 jn m Zr [] n (LG c d e f g h i j k l b)=a c d e f g h i j k l b
theorem KG m c a(p:au1 m c a) d e f h i j k l n o b:e62 jn m ae1 [c] (LG d e f h i j k l n o b)=qB m (bI m) a d e f h i j k l n o b:=
 tq (g:=fun J=>jj J 1 6 c (LG d (wrap .i64 (e+1)) f h i j k l n o b) (l62 J m Zr [] c)) (by simp only[aM,p];rfl)
theorem Ad m:∀b f c d h n e i j k l a,l62 jn m Zr [] b (LG f c d h n e i j k l a)=jG m (bI m) b f c d h n e i j k l a
 |0,_,_,_,_,_,_,_,_,_,_,_=>rfl
 |b+1,f,c,d,h,n,e,i,j,k,l,a=>
  tl (g:=fun J=>bif c<((L e 3).length:Int)then(app [] f).bind fun s=>(idx (L e 3) c).bind fun t=>(app s [agg [str (S d 2),t]]).bind fun u=>(idx (L d 6) 1).bind fun v=>(bI m v h u).bind fun r=>bif I d 0==32 then(nE m r).bind fun w=>(app l [w]).bind fun x=>jj J 0 7 0 (LG f c d h n e i j k x a) (e62 J m ae1 [b])else(fQ m r).bind fun o=>cond o ((idx (L e 3) c).bind fun p=>(app l [p]).bind fun q=>jj J 0 7 0 (LG f c d h n e i j k q a) (e62 J m ae1 [b])) (jj J 0 7 0 (LG f c d h n e i j k l a) (e62 J m ae1 [b]))else some (agg [int i,int j,str k,lst l,lst a])) (by simp only[aM,KG m b (jG m (bI m) b) (Ad m b)];rfl)
theorem RN m a b c:e62 jn m [] [] ⟨[.dat 29 a,.dat 26 b,.dat 117 (.lst c)],[],0⟩=dD (m+1) a b c:=
 tq (g:=fun J=>(idx (L a 6) 0).bind fun e=>(bI m e b c).bind fun d=>cond (I d 0 !=6) ((bZ m).bind fun f=>some f) (jj J 1 6 (succ m) (LG c 0 a b aj d 6 0 (ByteArray.mk (List.toArray [])) [] []) (l62 J m Zr [] (succ m)))) (by simp only[aM,Ad m];rfl)
def e27(J:Q0)(m:Nat):=evAt Tryz.prog env (ct m) J (m+1) 24 18 Tryz.f24 d25
theorem RO m a b:e27 jn m [] [] ⟨[.dat 29 a,.dat 26 b],[],0⟩=pz (m+1) a b:=
 tq (g:=fun J=>(gU m a).bind fun d=>cond (d !=0) (some aj) ((bI m a b []).bind fun c=>cond (I c 0==0) (some aj) (some c))) (by rfl)
def e4(J:Q0)(m:Nat):=evAt Tryz.prog env (ct m) J (m+1) 7 14 Tryz.f7 d25
theorem Ww m a b:e4 jn m [] [] ⟨[.dat 29 a,.dat 26 b],[],0⟩=vQ (m+1) a b:=
 tq (g:=fun J=>(pz m a b).bind fun c=>cond (I c 0==0) (some nC) (some c)) (by rfl)
def ar9:List Nat:=[1,1,0,1,0,1,1]
def acU:List Nat:=ar9++[0]
def asa:List Nat:=[1,1,1,0,1,0,1,1]
def acV:List Nat:=asa++[0]
def e125(J:Q88)(m:Nat):=evAt Tryz.prog env (ct m) J (m+1) 153 68 Tryz.f153 anN
def ag2(J:Q88)(m:Nat):=loopAt Tryz.prog env (ct m) J (m+1) 153 68 Tryz.f153 anN
def acW(a:List Dt)(b c:Int)(d e:Dt)(f g:Int)(h:ByteArray)(i j:List Dt):St:=⟨tsOf [(1,.ptr 0 [] 0),(2,.ptr 1 [] 0),(3,.ptr 2 [] 0),(25,.dat 23 (.lst a)),(26,.dat 3 (.int b)),(27,.dat 3 (.int c))],[.box 26 (.dat 26 d),.box 26 (.dat 26 e),.box 26 (.agg 26 [.dat 3 (.int f),.dat 3 (.int g),.dat 9 (.str h),.row 3,.row 4]),.row 23 i,.row 24 j],0⟩
def acX(a:List Dt)(b c:Int)(d:Dt)(e f:Int)(g:ByteArray)(h i:List Dt):St:=⟨tsOf [(2,.ptr 0 [] 0),(3,.ptr 1 [] 0),(49,.dat 24 (.lst a)),(50,.dat 3 (.int b)),(51,.dat 3 (.int c))],[.box 26 (.dat 26 d),.box 26 (.agg 26 [.dat 3 (.int e),.dat 3 (.int f),.dat 9 (.str g),.row 2,.row 3]),.row 23 h,.row 24 i],0⟩
def acY(a b:Dt)(c d:Int)(e:ByteArray)(f g:List Dt):St:=⟨tsOf [(1,.ptr 0 [] 0),(2,.ptr 1 [] 0),(3,.ptr 2 [] 0)],[.box 26 (.dat 26 a),.box 26 (.dat 26 b),.box 26 (.agg 26 [.dat 3 (.int c),.dat 3 (.int d),.dat 9 (.str e),.row 3,.row 4]),.row 23 f,.row 24 g],0⟩
theorem yG m:∀c d e a l f h i j b,ag2 jn m acV [] c (acX d e a l f h i j b)=pF m (dw m) c d e a l f h i j b
 |0,_,_,_,_,_,_,_,_,_=>rfl
 |c+1,d,e,a,l,f,h,i,j,b=>
  tl (g:=fun J=>cond (a<e) ((idx d a).bind fun n=>(dw m (fld n 1)).bind fun k=>(inL b a).bind fun o=>(b[a.toNat]?).bind fun p=>jj J 1 12 c (acX d e (wrap .i64 (a+1)) l f h i j (List.set b a.toNat (agg [str (S n 0),agg [int k.1,int k.2.1,str k.2.2.1,lst k.2.2.2.1,lst k.2.2.2.2]]))) (ag2 J m acV [] c)) (some (f,h,i,j,b))) (by simp only[aM,(yG m c)];rfl)
theorem yH m a f b c d e h:e125 jn m [1,1,1] [] (acY a f b c d e h)=jY m (dw m) a f b c d e h:=
 tq (g:=fun J=>bif 0<((L a 4).length:Int)then(mkL ((L a 4).length:Int) ((L a 4).length:Int) DN).bind fun i=>jj J 1 12 (succ m) (acX (L a 4) ((L a 4).length:Int) 0 f b c d e i) (ag2 J m acV [] (succ m))else some (b,c,d,e,h)) (by simp only[aM,yG m];rfl)
theorem yI m:∀c d e a f h i j k b l,ag2 jn m acU [] c (acW d e a f h i j k b l)=mO m (dw m) c d e a f h i j k b l
 |0,_,_,_,_,_,_,_,_,_,_=>rfl
 |c+1,d,e,a,f,h,i,j,k,b,l=>
  tl (g:=fun J=>cond (a<e) ((idx d a).bind fun o=>(dw m o).bind fun n=>(inL b a).bind fun p=>(b[a.toNat]?).bind fun q=>jj J 1 5 c (acW d e (wrap .i64 (a+1)) f h i j k (List.set b a.toNat (agg [int n.1,int n.2.1,str n.2.2.1,lst n.2.2.2.1,lst n.2.2.2.2])) l) (ag2 J m acU [] c)) (jj J 0 9 0 (acY f h i j k b l) (e125 J m [1,1,1] []))) (by simp only[aM,(yI m c),yH m];rfl)
theorem O6 m a:e125 jn m [] [] ⟨[.dat 26 a],[],0⟩=dw (m+1) a:=
 tq (g:=fun J=>bif 0<((L a 3).length:Int)then(mkL ((L a 3).length:Int) ((L a 3).length:Int) aj).bind fun b=>jj J 1 5 (succ m) (acW (L a 3) ((L a 3).length:Int) 0 a aj (I a 0) (I a 1) (S a 2) b []) (ag2 J m acU [] (succ m))else jj J 0 9 0 (acY a aj (I a 0) (I a 1) (S a 2) [] []) (e125 J m [1,1,1] [])) (by simp only[aM,yI m,yH m];rfl)
def acZ:List Nat:=[1,1,0,1,0]
def e126(J:Q2)(m:Nat):=evAt Tryz.prog env (ct m) J (m+1) 154 25 Tryz.f154 d28
def asb(J:Q2)(m:Nat):=loopAt Tryz.prog env (ct m) J (m+1) 154 25 Tryz.f154 d28
def ac0(a:ByteArray)(b c:Int)(d:Dt):St:=⟨tsOf [(1,.dat 9 (.str a)),(2,.ptr 0 [] 0),(11,.dat 3 (.int b)),(12,.dat 3 (.int c))],[.box 26 (.dat 26 d)],0⟩
theorem Ae m:∀b c d a e,asb jn m acZ [] b (ac0 c d a e)=qC m b c d a e
 |0,_,_,_,_=>rfl
 |b+1,c,d,a,e=>
  tl (g:=fun J=>cond (a<d) ((idx (L e 4) a).bind fun f=>cond ((S f 0).toList==c.toList) (some a) (jj J 1 4 b (ac0 c d (wrap .i64 (a+1)) e) (asb J m acZ [] b))) (some (-1))) (by simp only[aM,(Ae m b)];rfl)
theorem RP m a b:e126 jn m [] [] ⟨[.dat 26 a,.dat 9 (.str b)],[],0⟩=qQ (m+1) a b:=
 tq (g:=fun J=>cond (I a 0 !=5) (some (-1)) (jj J 1 4 (succ m) (ac0 b ((L a 4).length:Int) 0 a) (asb J m acZ [] (succ m)))) (by simp only[aM,Ae m];rfl)
def e115(J:Q0)(m:Nat):=evAt Tryz.prog env (ct m) J (m+1) 145 38 Tryz.f145 d25
theorem Wx m h d e:e115 jn m [] [] ⟨[.dat 26 h,.dat 9 (.str d),.dat 26 e],[],0⟩=tN (m+1) h d e:=
 tq (g:=fun J=>(dw m h).bind fun a=>cond (a.1 !=5) (some (agg [int a.1,int a.2.1,str a.2.2.1,lst a.2.2.2.1,lst a.2.2.2.2])) ((qQ m (agg [int a.1,int a.2.1,str a.2.2.1,lst a.2.2.2.1,lst a.2.2.2.2]) d).bind fun f=>bif 0<=f then(dw m e).bind fun b=>(inL a.2.2.2.2 f).bind fun k=>(a.2.2.2.2[f.toNat]?).bind fun i=>some (agg [int a.1,int a.2.1,str a.2.2.1,lst a.2.2.2.1,lst (List.set a.2.2.2.2 f.toNat (agg [str (S i 0),agg [int b.1,int b.2.1,str b.2.2.1,lst b.2.2.2.1,lst b.2.2.2.2]]))])else(dw m e).bind fun c=>(app a.2.2.2.2 [agg [str d,agg [int c.1,int c.2.1,str c.2.2.1,lst c.2.2.2.1,lst c.2.2.2.2]]]).bind fun j=>some (agg [int a.1,int a.2.1,str a.2.2.1,lst a.2.2.2.1,lst j]))) (by rfl)
def O7:List Nat:=[1,1,1,0,1,0]
def alf:List Nat:=O7++[0,1,1]
def au2:List Nat:=alf++[0,0,1,1]
def au3:List Nat:=au2++[1]
def au4:List Nat:=au3++[0,1]
def alg:List Nat:=alf++[0,0,1,0,1,0,1]
def alh:List Nat:=au4++[0]
def e84(J:Q0)(m:Nat):=evAt Tryz.prog env (ct m) J (m+1) 117 47 Tryz.f117 d25
def l84(J:Q0)(m:Nat):=loopAt Tryz.prog env (ct m) J (m+1) 117 47 Tryz.f117 d25
def Uh(a:Bool)(b:List Dt)(c d:Int)(e f:Dt):St:=⟨tsOf [(2,.ptr 0 [] 0),(3,.ptr 1 [] 0),(4,.dat 4 (.bool a)),(10,.dat 23 (.lst b)),(11,.dat 3 (.int c)),(12,.dat 3 (.int d))],[.box 26 (.dat 26 e),.box 26 (.dat 26 f)],0⟩
def ac1(a:Bool)(b:List Dt)(c d:Int)(e:List Dt)(f g:Int)(h i:Dt):St:=⟨tsOf [(2,.ptr 0 [] 0),(3,.ptr 1 [] 0),(4,.dat 4 (.bool a)),(10,.dat 23 (.lst b)),(11,.dat 3 (.int c)),(12,.dat 3 (.int d)),(27,.dat 24 (.lst e)),(28,.dat 3 (.int f)),(29,.dat 3 (.int g))],[.box 26 (.dat 26 h),.box 26 (.dat 26 i)],0⟩
def ali(a:Bool)(b:List Dt)(c d e:Int)(f:Bool)(g h i:Dt):St:=⟨tsOf [(2,.ptr 0 [] 0),(3,.ptr 1 [] 0),(4,.dat 4 (.bool a)),(6,.ptr 2 [] 0),(10,.dat 23 (.lst b)),(11,.dat 3 (.int c)),(12,.dat 3 (.int d)),(17,.dat 3 (.int e)),(19,.dat 4 (.bool f))],[.box 26 (.dat 26 g),.box 26 (.dat 26 h),.box 26 (.dat 26 i)],0⟩
abbrev apT(m h:Nat)(a:Q22):Prop:=∀b c d e f g,l84 jn m O7 [] h (Uh b c d e f g)=a b c d e f g
theorem Af m b a(o:apT m b a):∀c f h i j k l d n e,l84 jn m alh [b] c (ac1 f h i j k l d n e)=qE m a c f h i j k l d n e
 |0,_,_,_,_,_,_,_,_,_=>rfl
 |c+1,f,h,i,j,k,l,d,n,e=>
  tl (g:=fun J=>cond (d<l) ((idx k d).bind fun p=>(tN m e (S p 0) (fld p 1)).bind fun q=>jj J 1 14 c (ac1 f h i j k l (wrap .i64 (d+1)) n q) (l84 J m alh [b] c)) (cond (1024<((L e 4).length:Int)) ((cB m).bind fun r=>some r) (jj J 1 4 b (Uh f h i (wrap .i64 (j+1)) n e) (l84 J m O7 [] b)))) (by simp only[aM,(Af m b a o c),o];rfl)
theorem KH m b a(n:apT m b a) c d e f k l h j i:e84 jn m alg [b] (ali c d e f k l h j i)=uJ m a c d e f k l h j i:=
 tq (g:=fun J=>cond l (jj J 1 4 b (Uh c d e (wrap .i64 (f+1)) h j) (l84 J m O7 [] b)) (cond (k==5) (cond c (jj J 1 4 b (Uh false d e (wrap .i64 (f+1)) h i) (l84 J m O7 [] b)) (jj J 1 14 (succ m) (ac1 c d e f (L i 4) ((L i 4).length:Int) 0 h j) (l84 J m alh [b] (succ m)))) ((cB m).bind fun o=>some o))) (by simp only[aM,n,Af m b a n];rfl)
theorem Ag m:∀a h d e b i f,l84 jn m O7 [] a (Uh h d e b i f)=gG m a h d e b i f
 |0,_,_,_,_,_,_=>rfl
 |a+1,h,d,e,b,i,f=>
  tl (g:=fun J=>cond (b<e) ((idx d b).bind fun c=>cond (I c 0==0) (jj J 0 10 0 (ali h d e b (I c 0) (I c 0==0) i f c) (e84 J m alg [a])) (jj J 0 10 0 (ali h d e b (I c 0) (I c 0==2) i f c) (e84 J m alg [a]))) (some f)) (by simp only[aM,KH m a (gG m a) (Ag m a)];rfl)
theorem RQ m a:e84 jn m [] [] ⟨[.dat 23 (.lst a)],[],0⟩=pG (m+1) a:=
 tq (g:=fun J=>jj J 1 4 (succ m) (Uh true a (a.length:Int) 0 aj M8) (l84 J m O7 [] (succ m))) (by simp only[aM,Ag m];rfl)
def Wy:List Nat:=[1,1,0,1,0]
def ase:List Nat:=[1,1,0,1,0,0,1,1]
def Wz:List Nat:=ase++[0,0,1,1]
def WA(J:Q1)(m:Nat):=evAt Tryz.prog env (ct m) J (m+1) 159 39 Tryz.f159 d32
def an7(J:Q1)(m:Nat):=loopAt Tryz.prog env (ct m) J (m+1) 159 39 Tryz.f159 d32
def WB(a:ByteArray)(b c:Int):St:=⟨tsOf [(0,.dat 9 (.str a)),(18,.dat 3 (.int b)),(19,.dat 3 (.int c))],[],0⟩
def WC(a:ByteArray)(b c:Int)(d:Bool):St:=⟨tsOf [(0,.dat 9 (.str a)),(18,.dat 3 (.int b)),(19,.dat 3 (.int c)),(37,.dat 4 (.bool d))],[],0⟩
def WG(a:ByteArray)(b:Bool):St:=⟨tsOf [(0,.dat 9 (.str a)),(16,.dat 4 (.bool b))],[],0⟩
abbrev asf(m e:Nat)(a:Q28):Prop:=∀b c d,an7 jn m Wy [] e (WB b c d)=a b c d
theorem FR m b a(h:asf m b a) c d e f:WA jn m Wz [b] (WC c d e f)=fK m a c d e f:=
 tq (g:=fun J=>cond f (some false) (jj J 1 4 b (WB c d (wrap .i64 (e+1))) (an7 J m Wy [] b))) (by simp only[aM,h];rfl)
theorem wZ m:∀b c d a,an7 jn m Wy [] b (WB c d a)=fM m b c d a
 |0,_,_,_=>rfl
 |b+1,c,d,a=>
  tl (g:=fun J=>cond (a<d) ((idxS c a).bind fun e=>cond (e<33) (jj J 0 7 0 (WC c d a true) (WA J m Wz [b])) ((idxS c a).bind fun f=>cond (126<f) (jj J 0 7 0 (WC c d a true) (WA J m Wz [b])) ((idxS c a).bind fun h=>jj J 0 7 0 (WC c d a (h==46)) (WA J m Wz [b])))) (some true)) (by simp only[aM,FR m b (fM m b) (wZ m b)];rfl)
theorem FT m a b:WA jn m [1,0,1] [] (WG a b)=fO m a b:=
 tq (g:=fun J=>cond b (some false) (jj J 1 4 (succ m) (WB a (a.size:Int) 0) (an7 J m Wy [] (succ m)))) (by simp only[aM,wZ m];rfl)
theorem Ml m a:WA jn m [] [] ⟨[.dat 9 (.str a)],[],0⟩=nJ (m+1) a:=
 tq (g:=fun J=>cond ((a.size:Int)<1) (jj J 0 2 0 (WG a true) (WA J m [1,0,1] [])) (bif 32<(a.size:Int)then jj J 0 2 0 (WG a true) (WA J m [1,0,1] [])else(idxS a 0).bind fun b=>jj J 0 2 0 (WG a (b==36)) (WA J m [1,0,1] []))) (by simp only[aM,FT m];rfl)
def Ui:List Nat:=[1,1,1,0,1]
def Uj:List Nat:=[1,1,1,1,0,1]
def Uk:List Nat:=[1,1,1,1,1,0,1,0,1]
def au5:List Nat:=Uk++[1,1,1,1,1,1,1,1,1,1,1,1,0,0,1]
def alj:List Nat:=au5++[0]
def e88(J:Q1)(m:Nat):=evAt Tryz.prog env (ct m) J (m+1) 121 132 Tryz.f121 d32
def l88(J:Q1)(m:Nat):=loopAt Tryz.prog env (ct m) J (m+1) 121 132 Tryz.f121 d32
def ac2(a:List Dt)(b c:Int):St:=⟨tsOf [(117,.dat 23 (.lst a)),(118,.dat 3 (.int b)),(119,.dat 3 (.int c))],[],0⟩
def Zt(a:Int)(b:Bool)(c:Dt):St:=⟨tsOf [(1,.ptr 0 [] 0),(70,.dat 3 (.int a)),(71,.dat 4 (.bool b))],[.box 26 (.dat 26 c)],0⟩
def Ul(a:Bool)(b:Dt):St:=⟨tsOf [(1,.ptr 0 [] 0),(68,.dat 4 (.bool a))],[.box 26 (.dat 26 b)],0⟩
def Um(a:Bool)(b:Dt):St:=⟨tsOf [(1,.ptr 0 [] 0),(48,.dat 4 (.bool a))],[.box 26 (.dat 26 b)],0⟩
def ae2(a b:Bool)(c:Dt):St:=⟨tsOf [(1,.ptr 0 [] 0),(3,.dat 4 (.bool a)),(4,.dat 4 (.bool b))],[.box 26 (.dat 26 c)],0⟩
def ae3(a:Bool)(b:Dt):St:=⟨tsOf [(1,.ptr 0 [] 0),(3,.dat 4 (.bool a))],[.box 26 (.dat 26 b)],0⟩
theorem yJ m:∀a c d b,l88 jn m alj [] a (ac2 c d b)=mP m (bJ m) (bH m) a c d b
 |0,_,_,_=>rfl
 |a+1,c,d,b=>
  tl (g:=fun J=>cond (b<d) ((idx c b).bind fun e=>(bJ m e).bind fun f=>cond (!f) (some false) (jj J 1 25 a (ac2 c d (wrap .i64 (b+1))) (l88 J m alj [] a))) (some true)) (by simp only[aM,(yJ m a)];rfl)
theorem Ib m b c a:e88 jn m Uk [] (Zt b c a)=fH m (bJ m) (bH m) b c a:=
 tq (g:=fun J=>cond c (some true) (cond (b==9) (cond (I a 1==0) (some true) (some (I a 1==1))) (cond (b==10) (some (decide (0<=I a 1))) (cond (b==4) (cond (((S a 2).size:Int)<=4096) ((utf8_ValidString (S a 2)).bind fun d=>some d) (some false)) (cond (b==7) (some (decide (((S a 2).size:Int)<=4096))) (cond (b==8) (some (((S a 2).size:Int)==12)) (cond (b==6) (jj J 1 25 (succ m) (ac2 (L a 3) ((L a 3).length:Int) 0) (l88 J m alj [] (succ m))) (cond (b==5) ((bH m (L a 4)).bind fun e=>some e) (some false))))))))) (by simp only[aM,yJ m];rfl)
theorem Ic m b a:e88 jn m Uj [] (Ul b a)=gJ m (bJ m) (bH m) b a:=
 tq (g:=fun J=>cond b (some false) (cond (I a 0==1) (jj J 0 12 0 (Zt (I a 0) (I a 0==1) a) (e88 J m Uk [])) (cond (I a 0==2) (jj J 0 12 0 (Zt (I a 0) (I a 0==2) a) (e88 J m Uk [])) (cond (I a 0==11) (jj J 0 12 0 (Zt (I a 0) (I a 0==11) a) (e88 J m Uk [])) (jj J 0 12 0 (Zt (I a 0) (I a 0==3) a) (e88 J m Uk [])))))) (by simp only[aM,Ib m];rfl)
theorem Ie m b a:e88 jn m Ui [] (Um b a)=gK m (bJ m) (bH m) b a:=
 tq (g:=fun J=>cond b (some false) (cond (I a 0 !=6) (cond (0<((L a 3).length:Int)) (jj J 0 6 0 (Ul true a) (e88 J m Uj [])) (cond (I a 0 !=5) (jj J 0 6 0 (Ul (decide (0<((L a 4).length:Int))) a) (e88 J m Uj [])) (jj J 0 6 0 (Ul false a) (e88 J m Uj [])))) (cond (I a 0 !=5) (jj J 0 6 0 (Ul (decide (0<((L a 4).length:Int))) a) (e88 J m Uj [])) (jj J 0 6 0 (Ul false a) (e88 J m Uj []))))) (by simp only[aM,Ic m];rfl)
theorem Ig m c b a:e88 jn m [1,1,1] [] (ae2 c b a)=gL m (bJ m) (bH m) c b a:=
 tq (g:=fun J=>cond (!c) (cond (I a 1 !=0) (jj J 0 4 0 (Um true a) (e88 J m Ui [])) (cond (!b) (jj J 0 4 0 (Um (!(S a 2).toList==[]) a) (e88 J m Ui [])) (jj J 0 4 0 (Um false a) (e88 J m Ui [])))) (cond (!b) (jj J 0 4 0 (Um (!(S a 2).toList==[]) a) (e88 J m Ui [])) (jj J 0 4 0 (Um false a) (e88 J m Ui [])))) (by simp only[aM,Ie m];rfl)
theorem Ih m b a:e88 jn m [1,1] [] (ae3 b a)=gM m (bJ m) (bH m) b a:=
 tq (g:=fun J=>cond (I a 0==4) (jj J 0 3 0 (ae2 b true a) (e88 J m [1,1,1] [])) (cond (I a 0==7) (jj J 0 3 0 (ae2 b true a) (e88 J m [1,1,1] [])) (jj J 0 3 0 (ae2 b (I a 0==8) a) (e88 J m [1,1,1] [])))) (by simp only[aM,Ig m];rfl)
theorem O8 m a:e88 jn m [] [] ⟨[.dat 26 a],[],0⟩=bJ (m+1) a:=
 tq (g:=fun J=>cond (I a 0==3) (jj J 0 2 0 (ae3 true a) (e88 J m [1,1] [])) (cond (I a 0==9) (jj J 0 2 0 (ae3 true a) (e88 J m [1,1] [])) (jj J 0 2 0 (ae3 (I a 0==10) a) (e88 J m [1,1] [])))) (by simp only[aM,Ih m];rfl)
def WH:List Nat:=[1,1,0,1,0]
def asg:List Nat:=[1,1,0,1,0,0,1,1]
def WI:List Nat:=asg++[0,0,1,0,1]
def e119(J:Q1)(m:Nat):=evAt Tryz.prog env (ct m) J (m+1) 149 33 Tryz.f149 d32
def an8(J:Q1)(m:Nat):=loopAt Tryz.prog env (ct m) J (m+1) 149 33 Tryz.f149 d32
def WJ(a:List Dt)(b c:Int)(d:List Dt):St:=⟨tsOf [(3,.row 0),(7,.dat 24 (.lst a)),(8,.dat 3 (.int b)),(9,.dat 3 (.int c))],[(.map 165 d)],0⟩
def WK(a:List Dt)(b c:Int)(d:Bool)(e:List Dt)(f:Dt):St:=⟨tsOf [(3,.row 0),(5,.ptr 1 [] 0),(7,.dat 24 (.lst a)),(8,.dat 3 (.int b)),(9,.dat 3 (.int c)),(28,.dat 4 (.bool d))],[(.map 165 e),.box 44 (.dat 44 f)],0⟩
abbrev ash(m f:Nat)(a:Q23):Prop:=∀b c d e,an8 jn m WH [] f (WJ b c d e)=a b c d e
theorem Ah m b a(j:ash m b a) c d e f h i:e119 jn m WI [b] (WK c d e f h i)=eU m (bJ m) a c d e f h i:=
 tq (g:=fun J=>cond f (some false) (jj J 1 3 b (WJ c d (wrap .i64 (e+1)) (mput h (S i 0) (bool true))) (an8 J m WH [] b))) (by simp only[aM,j];rfl)
theorem rz m:∀a c d b e,an8 jn m WH [] a (WJ c d b e)=dW m (bJ m) a c d b e
 |0,_,_,_,_=>rfl
 |a+1,c,d,b,e=>
  tl (g:=fun J=>cond (b<d) ((idx c b).bind fun f=>(nJ m (S f 0)).bind fun h=>cond (!h) (jj J 0 6 0 (WK c d b true e f) (e119 J m WI [a])) (bif Dt.toBool (mgetD e (S f 0) (bool false))then jj J 0 6 0 (WK c d b true e f) (e119 J m WI [a])else(bJ m (fld f 1)).bind fun i=>jj J 0 6 0 (WK c d b (!i) e f) (e119 J m WI [a]))) (some true)) (by simp only[aM,Ah m a (dW m (bJ m) a) (rz m a)];rfl)
theorem Da m a:e119 jn m [] [] ⟨[.dat 24 (.lst a)],[],0⟩=bH (m+1) a:=
 tq (g:=fun J=>jj J 1 3 (succ m) (WJ a (a.length:Int) 0 []) (an8 J m WH [] (succ m))) (by simp only[aM,rz m];rfl)
def e55(J:Q1)(m:Nat):=evAt Tryz.prog env (ct m) J (m+1) 86 15 Tryz.f86 d32
theorem O9 m a:e55 jn m [] [] ⟨[.dat 26 a],[],0⟩=kU (m+1) a:=
 tq (g:=fun J=>(ng m a).bind fun b=>cond (b<=1024) ((ni m a).bind fun c=>cond (c<=16) ((bJ m a).bind fun d=>some d) (some false)) (some false)) (by rfl)
def e37(J:Q0)(m:Nat):=evAt Tryz.prog env (ct m) J (m+1) 67 21 Tryz.f67 d25
theorem WL m a b c:e37 jn m [] [] ⟨[.dat 29 a,.dat 26 b,.dat 132 c],[],0⟩=cK (m+1) a b c:=
 tq (g:=fun J=>(fA m a b c).bind fun d=>cond (I d 0==0) (some aj) ((kU m d).bind fun e=>cond (!e) ((cB m).bind fun f=>some f) (some d))) (by rfl)
def alk:List Nat:=[1,1,1,0,1,0]
def FU:List Nat:=[1,1,1,1,0,1,0,1]
def AY:List Nat:=FU++[1,1]
def ac3:List Nat:=[1,0,1,0,1,1,1,1,1,1,1]
def au6:List Nat:=[1,0,1,0,1,1,1,1,1,0,0,1]
def FV:List Nat:=AY++[1,1]
def alm:List Nat:=au6++[0]
def FW:List Nat:=FV++[1,1]
def Pb:List Nat:=FW++[1,1]
def e54(J:Q0)(m:Nat):=evAt Tryz.prog env (ct m) J (m+1) 85 149 Tryz.f85 d25
def l54(J:Q0)(m:Nat):=loopAt Tryz.prog env (ct m) J (m+1) 85 149 Tryz.f85 d25
def aln(a b c:Dt):St:=⟨tsOf [(3,.ptr 0 [] 0),(6,.ptr 1 [] 0),(7,.dat 132 a)],[.box 29 (.dat 29 b),.box 26 (.dat 26 c)],0⟩
def ac4(a:Dt)(b:List Dt)(c d:Int)(e f g:Dt)(h:List Dt):St:=⟨tsOf [(2,.dat 132 a),(3,.ptr 0 [] 0),(4,.ptr 1 [] 0),(6,.ptr 2 [] 0),(8,.row 3),(59,.dat 27 (.lst b)),(60,.dat 3 (.int c)),(61,.dat 3 (.int d))],[.box 29 (.dat 29 e),.box 26 (.dat 26 f),.box 26 (.dat 26 g),.row 23 h],0⟩
def FY(a:Int)(b:Bool)(c d:Dt)(e:List Dt):St:=⟨tsOf [(3,.ptr 0 [] 0),(6,.ptr 1 [] 0),(8,.row 2),(75,.dat 3 (.int a)),(124,.dat 4 (.bool b))],[.box 29 (.dat 29 c),.box 26 (.dat 26 d),.row 23 e],0⟩
def KI(a:Int)(b:Bool)(c d:Dt)(e:List Dt):St:=⟨tsOf [(3,.ptr 0 [] 0),(6,.ptr 1 [] 0),(8,.row 2),(75,.dat 3 (.int a)),(114,.dat 4 (.bool b))],[.box 29 (.dat 29 c),.box 26 (.dat 26 d),.row 23 e],0⟩
def KJ(a:Int)(b:Bool)(c d:Dt)(e:List Dt):St:=⟨tsOf [(3,.ptr 0 [] 0),(6,.ptr 1 [] 0),(8,.row 2),(75,.dat 3 (.int a)),(104,.dat 4 (.bool b))],[.box 29 (.dat 29 c),.box 26 (.dat 26 d),.row 23 e],0⟩
def Db(a:Int)(b:Bool)(c d:Dt)(e:List Dt):St:=⟨tsOf [(3,.ptr 0 [] 0),(6,.ptr 1 [] 0),(8,.row 2),(75,.dat 3 (.int a)),(86,.dat 4 (.bool b))],[.box 29 (.dat 29 c),.box 26 (.dat 26 d),.row 23 e],0⟩
def KL(a:Int)(b:Bool)(c d:Dt)(e:List Dt):St:=⟨tsOf [(3,.ptr 0 [] 0),(6,.ptr 1 [] 0),(8,.row 2),(75,.dat 3 (.int a)),(76,.dat 4 (.bool b))],[.box 29 (.dat 29 c),.box 26 (.dat 26 d),.row 23 e],0⟩
def alo(a:Dt)(b:Bool)(c d e:Dt):St:=⟨tsOf [(2,.dat 132 a),(3,.ptr 0 [] 0),(4,.ptr 1 [] 0),(6,.ptr 2 [] 0),(47,.dat 4 (.bool b))],[.box 29 (.dat 29 c),.box 26 (.dat 26 d),.box 26 (.dat 26 e)],0⟩
theorem w9 m:∀b a c d,l54 jn m alm [] b (aln a c d)=nU m (cK m) (d9 m) b a c d
 |0,_,_,_=>rfl
 |b+1,a,c,d=>
  tl (g:=fun J=>bif !List.isEmpty (toLst a)then(idx (toLst a) 0).bind fun e=>bif (S e 0).toList==(S c 2).toList then(idx (toLst a) 0).bind fun f=>(bU m (fld f 1) (L c 1)).bind fun h=>some h else(idx (toLst a) 0).bind fun i=>jj J 1 8 b (aln (fld i 2) c d) (l54 J m alm [] b)else some aj) (by simp only[aM,(w9 m b)];rfl)
theorem Et m b d c k a:e54 jn m Pb [] (FY b d c k a)=iA m (cK m) (d9 m) b d c k a:=
 tq (g:=fun J=>cond d ((dI m (I c 0) a).bind fun e=>some e) (cond (b==36) ((inL a 0).bind fun l=>(a[0]?).bind fun f=>(bM m (I f 0)).bind fun h=>some h) (cond (b==37) ((pG m a).bind fun i=>some i) ((dY m c a).bind fun j=>some j)))) (by rfl)
theorem Eu m a e b d c:e54 jn m FW [] (KI a e b d c)=jJ m (cK m) (d9 m) a e b d c:=
 tq (g:=fun J=>cond e ((dU (I b 0) c).bind fun f=>some f) (cond (a==26) (jj J 0 55 0 (FY a (a==26) b d c) (e54 J m Pb [])) (cond (a==30) (jj J 0 55 0 (FY a (a==30) b d c) (e54 J m Pb [])) (cond (a==31) (jj J 0 55 0 (FY a (a==31) b d c) (e54 J m Pb [])) (cond (a==29) (jj J 0 55 0 (FY a (a==29) b d c) (e54 J m Pb [])) (cond (a==27) (jj J 0 55 0 (FY a (a==27) b d c) (e54 J m Pb [])) (jj J 0 55 0 (FY a (a==28) b d c) (e54 J m Pb [])))))))) (by simp only[aM,Et m];rfl)
theorem Ew m a e b d c:e54 jn m FV [] (KJ a e b d c)=jK m (cK m) (d9 m) a e b d c:=
 tq (g:=fun J=>cond e ((gI m (I b 0) c).bind fun f=>some f) (cond (a==21) (jj J 0 48 0 (KI a (a==21) b d c) (e54 J m FW [])) (cond (a==22) (jj J 0 48 0 (KI a (a==22) b d c) (e54 J m FW [])) (cond (a==23) (jj J 0 48 0 (KI a (a==23) b d c) (e54 J m FW [])) (cond (a==24) (jj J 0 48 0 (KI a (a==24) b d c) (e54 J m FW [])) (jj J 0 48 0 (KI a (a==25) b d c) (e54 J m FW []))))))) (by simp only[aM,Eu m];rfl)
theorem Ey m a e c d b:e54 jn m AY [] (Db a e c d b)=gy m (cK m) (d9 m) a e c d b:=
 tq (g:=fun J=>cond e ((inL b 0).bind fun k=>(b[0]?).bind fun f=>(inL b 1).bind fun l=>(b[1]?).bind fun h=>(bg m f h).bind fun i=>(jd m (I c 0) i).bind fun j=>some j) (cond (a==16) (jj J 0 42 0 (KJ a (a==16) c d b) (e54 J m FV [])) (cond (a==17) (jj J 0 42 0 (KJ a (a==17) c d b) (e54 J m FV [])) (cond (a==18) (jj J 0 42 0 (KJ a (a==18) c d b) (e54 J m FV [])) (cond (a==19) (jj J 0 42 0 (KJ a (a==19) c d b) (e54 J m FV [])) (jj J 0 42 0 (KJ a (a==20) c d b) (e54 J m FV []))))))) (by simp only[aM,Ew m];rfl)
theorem Ez m a e b d c:e54 jn m FU [] (KL a e b d c)=jL m (cK m) (d9 m) a e b d c:=
 tq (g:=fun J=>cond e ((dO m (I b 0) c).bind fun f=>some f) (cond (a==9) (jj J 0 36 0 (Db a (a==9) b d c) (e54 J m AY [])) (cond (a==10) (jj J 0 36 0 (Db a (a==10) b d c) (e54 J m AY [])) (cond (a==11) (jj J 0 36 0 (Db a (a==11) b d c) (e54 J m AY [])) (cond (a==12) (jj J 0 36 0 (Db a (a==12) b d c) (e54 J m AY [])) (cond (a==13) (jj J 0 36 0 (Db a (a==13) b d c) (e54 J m AY [])) (cond (a==14) (jj J 0 36 0 (Db a (a==14) b d c) (e54 J m AY [])) (jj J 0 36 0 (Db a (a==15) b d c) (e54 J m AY []))))))))) (by simp only[aM,Ey m];rfl)
theorem xg m:∀e f h i c a j d b,l54 jn m alk [] e (ac4 f h i c a j d b)=nV m (cK m) (d9 m) e f h i c a j d b
 |0,_,_,_,_,_,_,_,_=>rfl
 |e+1,f,h,i,c,a,j,d,b=>
  tl (g:=fun J=>cond (c<i) ((idx h c).bind fun k=>(cK m k j f).bind fun l=>(inL b c).bind fun o=>(b[c.toNat]?).bind fun n=>jj J 1 18 e (ac4 f h i (wrap .i64 (c+1)) a j d (List.set b c.toNat l)) (l54 J m alk [] e)) (cond (I a 0==4) (jj J 0 28 0 (KL (I a 0) (I a 0==4) a d b) (e54 J m FU [])) (cond (I a 0==5) (jj J 0 28 0 (KL (I a 0) (I a 0==5) a d b) (e54 J m FU [])) (cond (I a 0==6) (jj J 0 28 0 (KL (I a 0) (I a 0==6) a d b) (e54 J m FU [])) (cond (I a 0==7) (jj J 0 28 0 (KL (I a 0) (I a 0==7) a d b) (e54 J m FU [])) (jj J 0 28 0 (KL (I a 0) (I a 0==8) a d b) (e54 J m FU []))))))) (by simp only[aM,(xg m e),Ez m];rfl)
theorem F3 m b d a c e:e54 jn m ac3 [] (alo b d a c e)=u7 m (cK m) (d9 m) b d a c e:=
 tq (g:=fun J=>cond d ((d9 m a c b).bind fun f=>some f) ((mkL ((L a 6).length:Int) ((L a 6).length:Int) aj).bind fun h=>jj J 1 18 (succ m) (ac4 b (L a 6) ((L a 6).length:Int) 0 a c e h) (l54 J m alk [] (succ m)))) (by simp only[aM,xg m];rfl)
theorem Mq m a b c:e54 jn m [] [] ⟨[.dat 29 a,.dat 26 b,.dat 132 c],[],0⟩=fA (m+1) a b c:=
 tq (g:=fun J=>cond (I a 0==1) (some (fld a 4)) (cond (I a 0==2) ((bU m b (L a 1)).bind fun d=>some d) (cond (I a 0==3) (jj J 1 8 (succ m) (aln c a aj) (l54 J m alm [] (succ m))) (cond (I a 0==32) (jj J 0 15 0 (alo c (I a 0==32) a b aj) (e54 J m ac3 [])) (jj J 0 15 0 (alo c (I a 0==33) a b aj) (e54 J m ac3 [])))))) (by simp only[aM,w9 m,F3 m];rfl)
def au7:List Nat:=[1,1,1,1,0,1]
def Zu:List Nat:=au7++[0]
def au8:List Nat:=Zu++[0,1,1]
def ae4:List Nat:=au8++[1]
def e77(J:Q0)(m:Nat):=evAt Tryz.prog env (ct m) J (m+1) 110 63 Tryz.f110 d25
def l77(J:Q0)(m:Nat):=loopAt Tryz.prog env (ct m) J (m+1) 110 63 Tryz.f110 d25
def LH(c:Dt)(d:List Dt)(e f:Int)(g h i:Dt)(j k:Int)(l:ByteArray)(a b:List Dt):St:=⟨tsOf [(2,.dat 132 c),(3,.ptr 0 [] 0),(4,.ptr 1 [] 0),(6,.ptr 2 [] 0),(8,.ptr 3 [] 0),(25,.dat 23 (.lst d)),(26,.dat 3 (.int e)),(27,.dat 3 (.int f))],[.box 29 (.dat 29 g),.box 26 (.dat 26 h),.box 26 (.dat 26 i),.box 26 (.agg 26 [.dat 3 (.int j),.dat 3 (.int k),.dat 9 (.str l),.row 4,.row 5]),.row 23 a,.row 24 b],0⟩
abbrev au9(m o:Nat)(a:Q79):Prop:=∀d e f g h i j k l n b c,l77 jn m Zu [] o (LH d e f g h i j k l n b c)=a d e f g h i j k l n b c
theorem Mr m d a(q:au9 m d a) e f h i j k l n o p b c:e77 jn m ae4 [d] (LH e f h i j k l n o p b c)=sw m (cK m) a e f h i j k l n o p b c:=
 tq (g:=fun J=>jj J 1 6 d (LH e f h (wrap .i64 (i+1)) j k l n o p b c) (l77 J m Zu [] d)) (by simp only[aM,q];rfl)
theorem Bw m:∀c f h i e d j o k l n a b,l77 jn m Zu [] c (LH f h i e d j o k l n a b)=kW m (cK m) c f h i e d j o k l n a b
 |0,_,_,_,_,_,_,_,_,_,_,_,_=>rfl
 |c+1,f,h,i,e,d,j,o,k,l,n,a,b=>
  tl (g:=fun J=>cond (e<i) ((idx h e).bind fun p=>(idx (L d 6) 1).bind fun r=>(cK m r j (lst [agg [str (S d 2),p,f]])).bind fun q=>bif I d 0==32 then(gV m q).bind fun s=>(app a [s]).bind fun t=>jj J 0 13 0 (LH f h i e d j o k l n t b) (e77 J m ae4 [c])else(dV m q).bind fun u=>cond u ((app a [p]).bind fun v=>jj J 0 13 0 (LH f h i e d j o k l n v b) (e77 J m ae4 [c])) (jj J 0 13 0 (LH f h i e d j o k l n a b) (e77 J m ae4 [c]))) (some (agg [int k,int l,str n,lst a,lst b]))) (by simp only[aM,Mr m c (kW m (cK m) c) (Bw m c)];rfl)
theorem WM m a b c:e77 jn m [] [] ⟨[.dat 29 a,.dat 26 b,.dat 132 c],[],0⟩=d9 (m+1) a b c:=
 tq (g:=fun J=>(idx (L a 6) 0).bind fun e=>(cK m e b c).bind fun d=>cond (I d 0 !=6) ((cB m).bind fun f=>some f) (jj J 1 6 (succ m) (LH c (L d 3) ((L d 3).length:Int) 0 a b aj 6 0 (ByteArray.mk (List.toArray [])) [] []) (l77 J m Zu [] (succ m)))) (by simp only[aM,Bw m];rfl)
def ac5:List Nat:=[1,1,1,1,1]
def apU:List Nat:=[1,1,1,1,1,1]
def apV:List Nat:=apU++[1]
def Zv:List Nat:=[1,1,1,1,1,0,1]
def apW:List Nat:=apV++[1]
def Un:List Nat:=apU++[0,1]
def ava:List Nat:=apW++[1]
def alp:List Nat:=apV++[0,1]
def Bz:List Nat:=apW++[0,1]
def ae5:List Nat:=ava++[0,1]
def e53(J:Q2)(m:Nat):=evAt Tryz.prog env (ct m) J (m+1) 108 139 Tryz.f108 d13
def WO(a:Bool):St:=⟨tsOf [(138,.dat 4 (.bool a))],[],0⟩
def vk(a:Bool)(b:Dt):St:=⟨tsOf [(1,.ptr 0 [] 0),(124,.dat 4 (.bool a))],[.box 29 (.dat 29 b)],0⟩
def ac6(a b:Bool)(c:Dt):St:=⟨tsOf [(1,.ptr 0 [] 0),(3,.dat 4 (.bool a)),(4,.dat 4 (.bool b))],[.box 29 (.dat 29 c)],0⟩
def ac7(a b c:Bool)(d:Dt):St:=⟨tsOf [(1,.ptr 0 [] 0),(3,.dat 4 (.bool a)),(4,.dat 4 (.bool b)),(96,.dat 4 (.bool c))],[.box 29 (.dat 29 d)],0⟩
def Uo(a b c:Bool)(d:Dt):St:=⟨tsOf [(1,.ptr 0 [] 0),(3,.dat 4 (.bool a)),(4,.dat 4 (.bool b)),(87,.dat 4 (.bool c))],[.box 29 (.dat 29 d)],0⟩
def Zw(a b c:Bool)(d:Dt):St:=⟨tsOf [(1,.ptr 0 [] 0),(3,.dat 4 (.bool a)),(4,.dat 4 (.bool b)),(69,.dat 4 (.bool c))],[.box 29 (.dat 29 d)],0⟩
def alq(a:Bool)(b:Dt):St:=⟨tsOf [(1,.ptr 0 [] 0),(3,.dat 4 (.bool a))],[.box 29 (.dat 29 b)],0⟩
def alr(a:Bool)(b:Dt):St:=⟨tsOf [(1,.ptr 0 [] 0),(34,.dat 4 (.bool a))],[.box 29 (.dat 29 b)],0⟩
def ae6(a:Bool)(b:Dt):St:=⟨tsOf [(1,.ptr 0 [] 0),(22,.dat 4 (.bool a))],[.box 29 (.dat 29 b)],0⟩
theorem BL m a:e53 jn m ae5 [] (WO a)=jZ m a:=
 tq (g:=fun J=>cond a (some 4) (some 0)) (by rfl)
theorem BM m b a:e53 jn m Bz [] (vk b a)=dh m b a:=
 tq (g:=fun J=>cond b (some 4) (cond (I a 0 !=1) ((oU m (fld a 4)).bind fun c=>cond (!c) (jj J 0 16 0 (WO true) (e53 J m ae5 [])) (jj J 0 16 0 (WO (I a 5 !=0)) (e53 J m ae5 []))) (jj J 0 16 0 (WO (I a 5 !=0)) (e53 J m ae5 [])))) (by simp only[aM,BL m];rfl)
theorem BN m c b d a:e53 jn m alp [] (ac7 c b d a)=nK m c b d a:=
 tq (g:=fun J=>cond d (some 8) (cond (!c) (cond (0<((L a 1).length:Int)) (jj J 0 14 0 (vk true a) (e53 J m Bz [])) (cond (!b) (cond (!(S a 2).toList==[]) (jj J 0 14 0 (vk true a) (e53 J m Bz [])) (cond (I a 0 !=34) (jj J 0 14 0 (vk (decide (0<((L a 3).length:Int))) a) (e53 J m Bz [])) (jj J 0 14 0 (vk false a) (e53 J m Bz [])))) (cond (I a 0 !=34) (jj J 0 14 0 (vk (decide (0<((L a 3).length:Int))) a) (e53 J m Bz [])) (jj J 0 14 0 (vk false a) (e53 J m Bz []))))) (cond (!b) (cond (!(S a 2).toList==[]) (jj J 0 14 0 (vk true a) (e53 J m Bz [])) (cond (I a 0 !=34) (jj J 0 14 0 (vk (decide (0<((L a 3).length:Int))) a) (e53 J m Bz [])) (jj J 0 14 0 (vk false a) (e53 J m Bz [])))) (cond (I a 0 !=34) (jj J 0 14 0 (vk (decide (0<((L a 3).length:Int))) a) (e53 J m Bz [])) (jj J 0 14 0 (vk false a) (e53 J m Bz [])))))) (by simp only[aM,BM m];rfl)
theorem Df m b c d a:e53 jn m Un [] (Uo b c d a)=gP m b c d a:=
 tq (g:=fun J=>cond d (some 9) (cond (I a 0==1) ((kU m (fld a 4)).bind fun e=>jj J 0 12 0 (ac7 b c (!e) a) (e53 J m alp [])) (jj J 0 12 0 (ac7 b c false a) (e53 J m alp [])))) (by simp only[aM,BN m];rfl)
theorem Dg m c b d a:e53 jn m Zv [] (Zw c b d a)=iU m c b d a:=
 tq (g:=fun J=>cond d (some 10) (cond b ((kK m (S a 2)).bind fun e=>cond (!e) (jj J 0 10 0 (Uo c b true a) (e53 J m Un [])) (cond (I a 0==34) ((eH m (L a 3)).bind fun f=>jj J 0 10 0 (Uo c b (!f) a) (e53 J m Un [])) (jj J 0 10 0 (Uo c b false a) (e53 J m Un [])))) (cond (I a 0==34) ((eH m (L a 3)).bind fun h=>jj J 0 10 0 (Uo c b (!h) a) (e53 J m Un [])) (jj J 0 10 0 (Uo c b false a) (e53 J m Un []))))) (by simp only[aM,Df m];rfl)
theorem Dh m b c a:e53 jn m ac5 [] (ac6 b c a)=kX m b c a:=
 tq (g:=fun J=>cond b ((nH m (L a 1)).bind fun d=>cond (!d) (cond (I a 0==2) (jj J 0 8 0 (Zw b c true a) (e53 J m Zv [])) (jj J 0 8 0 (Zw b c (decide (0<((L a 1).length:Int))) a) (e53 J m Zv []))) (jj J 0 8 0 (Zw b c false a) (e53 J m Zv []))) (jj J 0 8 0 (Zw b c false a) (e53 J m Zv []))) (by simp only[aM,Dg m];rfl)
theorem Di m b a:e53 jn m [1,1,1,1] [] (alq b a)=oD m b a:=
 tq (g:=fun J=>cond (I a 0==3) (jj J 0 7 0 (ac6 b true a) (e53 J m ac5 [])) ((oV m (I a 0)).bind fun c=>jj J 0 7 0 (ac6 b (c==3) a) (e53 J m ac5 []))) (by simp only[aM,Dh m];rfl)
theorem Dj m b a:e53 jn m [1,1,0,1] [] (alr b a)=oF m b a:=
 tq (g:=fun J=>cond b (some 11) (cond (I a 0==2) (jj J 0 6 0 (alq true a) (e53 J m [1,1,1,1] [])) (jj J 0 6 0 (alq (I a 0==3) a) (e53 J m [1,1,1,1] [])))) (by simp only[aM,Di m];rfl)
theorem Dk m b a:e53 jn m [1,0,1] [] (ae6 b a)=kY m b a:=
 tq (g:=fun J=>cond b (some 11) (cond (I a 0==34) (jj J 0 4 0 (alr (((L a 6).length:Int) !=((L a 3).length:Int)) a) (e53 J m [1,1,0,1] [])) (jj J 0 4 0 (alr false a) (e53 J m [1,1,0,1] [])))) (by simp only[aM,Dj m];rfl)
theorem Ii m a:e53 jn m [] [] ⟨[.dat 29 a],[],0⟩=j3 (m+1) a:=
 tq (g:=fun J=>cond (I a 0<1) (jj J 0 2 0 (ae6 true a) (e53 J m [1,0,1] [])) (cond (37<I a 0) (jj J 0 2 0 (ae6 true a) (e53 J m [1,0,1] [])) ((oV m (I a 0)).bind fun b=>(pW m b ((L a 6).length:Int)).bind fun c=>jj J 0 2 0 (ae6 (!c) a) (e53 J m [1,0,1] [])))) (by simp only[aM,Dk m];rfl)
def avb:List Nat:=[1,1,1,1,0,1]
def als:List Nat:=avb++[0]
def e52(J:Q30)(m:Nat):=evAt Tryz.prog env (ct m) J (m+1) 84 45 Tryz.f84 d52
def l52(J:Q30)(m:Nat):=loopAt Tryz.prog env (ct m) J (m+1) 84 45 Tryz.f84 d52
def alu(a:Int)(b:List Dt)(c d e:Int):St:=⟨tsOf [(1,.dat 3 (.int a)),(2,.ptr 0 [] 0),(30,.dat 27 (.lst b)),(31,.dat 3 (.int c)),(32,.dat 3 (.int d))],[.box 3 (.dat 3 (.int e))],1⟩
def alv(a:Int)(b:Bool)(c:Int)(d:Dt):St:=⟨tsOf [(1,.dat 3 (.int a)),(2,.ptr 0 [] 0),(3,.ptr 1 [] 0),(18,.dat 4 (.bool b))],[.box 3 (.dat 3 (.int c)),.box 29 (.dat 29 d)],1⟩
theorem Uq m:∀a c d e b f,l52 jn m als [] a (alu c d e b f)=Jv m (i52 m) a c d e b f
 |0,_,_,_,_,_=>rfl
 |a+1,c,d,e,b,f=>
  tl (g:=fun J=>cond (b<e) ((idx d b).bind fun i=>(i52 m i (wrap .i64 (c+1)) f).bind fun h=>cond (h.1 !=0) (some (h.1,h.2)) (jj J 1 8 a (alu c d e (wrap .i64 (b+1)) h.2) (l52 J m als [] a))) (some (0,f))) (by simp only[aM,(Uq m a)];rfl)
theorem ag3 m c d a b:e52 jn m [1,0,1] [] (alv c d a b)=VX m (i52 m) c d a b:=
 tq (g:=fun J=>cond d (some (2,a)) ((j3 m b).bind fun e=>cond (e !=0) (some (e,wrap .i64 (a+1))) (jj J 1 8 (succ m) (alu c (L b 6) ((L b 6).length:Int) 0 (wrap .i64 (a+1))) (l52 J m als [] (succ m))))) (by simp only[aM,Uq m];rfl)
theorem asi m c a b:e52 jn m [] [] ⟨[.dat 29 c,.dat 3 (.int a),.ptr 0 [] 0],[.box 3 (.dat 3 (.int b))],1⟩=i52 (m+1) c a b:=
 tq (g:=fun J=>cond (16<a) (jj J 0 2 0 (alv a true b c) (e52 J m [1,0,1] [])) (jj J 0 2 0 (alv a (b==256) b c) (e52 J m [1,0,1] []))) (by simp only[aM,ag3 m];rfl)
def e36(J:Q2)(m:Nat):=evAt Tryz.prog env (ct m) J (m+1) 65 6 Tryz.f65 d13
theorem RS m a:e36 jn m [] [] ⟨[.dat 29 a],[],0⟩=qV (m+1) a:=
 tq (g:=fun J=>(i52 m a 1 0).bind fun b=>some b.1) (by rfl)
def e16(J:Q0)(m:Nat):=evAt Tryz.prog env (ct m) J (m+1) 42 13 Tryz.f42 d25
theorem WQ m a b:e16 jn m [] [] ⟨[.dat 29 a,.dat 26 b],[],0⟩=ow (m+1) a b:=
 tq (g:=fun J=>(qV m a).bind fun c=>cond (c !=0) (some aj) ((cK m a b (lst [])).bind fun d=>(bK m d).bind fun e=>some e)) (by rfl)
def ae7:List Nat:=[1,1,0,1,0]
def ae8:List Nat:=[1,1,0,1,0,0,1,1]
def apX:List Nat:=ae8++[1]
def ae9:List Nat:=ae8++[0,0,1,1,1]
def avc:List Nat:=ae9++[1,1]
def Zx:List Nat:=avc++[0]
def alx:List Nat:=Zx++[0,1,1]
def apY:List Nat:=alx++[1]
def e15(J:Q89)(m:Nat):=evAt Tryz.prog env (ct m) J (m+1) 21 65 Tryz.f21 d15
def l15(J:Q89)(m:Nat):=loopAt Tryz.prog env (ct m) J (m+1) 21 65 Tryz.f21 d15
def LJ(d:Int)(e:List Dt)(f g:Int)(h:List Dt)(i j:Int)(k:Dt)(l m a b:List Dt)(c:Dt):St:=⟨tsOf [(2,.ptr 0 [] 0),(5,.ptr 1 [] 0),(7,.ptr 6 [] 0),(9,.dat 3 (.int d)),(14,.dat 23 (.lst e)),(15,.dat 3 (.int f)),(16,.dat 3 (.int g)),(33,.dat 33 (.lst h)),(34,.dat 3 (.int i)),(35,.dat 3 (.int j))],[.box 35 (.dat 35 k),.box 76 (.agg 76 [.row 2,.row 3,.row 5]),.row 23 l,(.rowD 73 78 none 4 m none),(.tok 78 a),.row 74 b,.box 26 (.dat 26 c)],0⟩
def LK(a:List Dt)(b c:Int)(d:Dt)(e f g h:List Dt):St:=⟨tsOf [(2,.ptr 0 [] 0),(5,.ptr 1 [] 0),(14,.dat 23 (.lst a)),(15,.dat 3 (.int b)),(16,.dat 3 (.int c))],[.box 35 (.dat 35 d),.box 76 (.agg 76 [.row 2,.row 3,.row 5]),.row 23 e,(.rowD 73 78 none 4 f none),(.tok 78 g),.row 74 h],0⟩
def aly(a:List Dt)(b c:Int)(d:Dt)(e f g h:List Dt)(i j:Dt):St:=⟨tsOf [(2,.ptr 0 [] 0),(5,.ptr 1 [] 0),(7,.ptr 6 [] 0),(8,.ptr 7 [] 0),(14,.dat 23 (.lst a)),(15,.dat 3 (.int b)),(16,.dat 3 (.int c))],[.box 35 (.dat 35 d),.box 76 (.agg 76 [.row 2,.row 3,.row 5]),.row 23 e,(.rowD 73 78 none 4 f none),(.tok 78 g),.row 74 h,.box 26 (.dat 26 i),.box 26 (.dat 26 j)],0⟩
def apZ(a b c d:List Dt):St:=⟨tsOf [(5,.ptr 0 [] 0)],[.box 76 (.agg 76 [.row 1,.row 2,.row 4]),.row 23 a,(.rowD 73 78 none 3 b none),(.tok 78 c),.row 74 d],0⟩
abbrev Ur(m j:Nat)(a:Q29):Prop:=∀b c d e f g h i,l15 jn m ae7 [] j (LK b c d e f g h i)=a b c d e f g h i
abbrev ap0(m p q:Nat)(a:Q81):Prop:=∀e f g h i j k l n o b c d,l15 jn m Zx [p] q (LJ e f g h i j k l n o b c d)=a e f g h i j k l n o b c d
theorem ag4 m f a(u:Ur m f a) h b(t:ap0 m f h b) i j k l n o p q r s c d e:e15 jn m apY [f,h] (LJ i j k l n o p q r s c d e)=aiO m a b i j k l n o p q r s c d e:=
 tq (g:=fun J=>jj J 1 10 h (LJ i j k l n o (wrap .i64 (p+1)) q r s c d e) (l15 J m Zx [f] h)) (by simp only[aM,t];rfl)
theorem ag5 m j b(w:Ur m j b) l c(x:ap0 m j l c) a o p q n r d s t h e i f:e15 jn m alx [j,l] (LJ a o p q n r d s t h e i f)=abO m b c a o p q n r d s t h e i f:=
 tq (g:=fun J=>(idx n d).bind fun y=>(h[a.toNat]?).bind fun z=>cond (lkd Option.none z) ((e[a.toNat]?).bind fun k=>(inL h a).bind fun G=>cond (Nat.beq a.toNat a.toNat) ((h[a.toNat]?).bind fun A=>cond (lkd Option.none A) ((inL h a).bind fun H=>cond (Nat.beq a.toNat a.toNat) ((h[a.toNat]?).bind fun C=>cond (lkd Option.none C) ((inL (toLst k) d).bind fun D=>((toLst k)[d.toNat]?).bind fun u=>(vP m y u f).bind fun v=>(inL (toLst k) d).bind fun E=>((toLst k)[d.toNat]?).bind fun F=>jj J 0 13 0 (LJ a o p q n r d s t h (List.set (List.set e a.toNat (lst [])) a.toNat (lst (List.set (toLst k) d.toNat v))) i f) (e15 J m apY [j,l])) none) none) none) none) none) (by simp only[aM,ag4 m j b w l c x];rfl)
theorem ag6 m b a(l:Ur m b a) c d e f h i j k:e15 jn m apX [b] (LK c d e f h i j k)=abP m a c d e f h i j k:=
 tq (g:=fun J=>jj J 1 3 b (LK c d (wrap .i64 (e+1)) f h i j k) (l15 J m ae7 [] b)) (by simp only[aM,l];rfl)
theorem Us m e a(s:Ur m e a):∀f q h i j r k l n o p b c d,l15 jn m Zx [e] f (LJ q h i j r k l n o p b c d)=CQ m a f q h i j r k l n o p b c d
 |0,_,_,_,_,_,_,_,_,_,_,_,_,_=>rfl
 |f+1,q,h,i,j,r,k,l,n,o,p,b,c,d=>
  tl (g:=fun J=>cond (l<k) (jj J 0 11 0 (LJ q h i j r k l n o p b c d) (e15 J m alx [e,f])) (jj J 0 14 0 (LK h i j n o p b c) (e15 J m apX [e]))) (by simp only[aM,ag5 m e a s f (CQ m a f) (Us m e a s f),ag6 m e a s];rfl)
theorem ag7 m d a(p:Ur m d a) e f h b i j k l n o:e15 jn m ae9 [d] (aly e f h b i j k l n o)=AR m a e f h b i j k l n o:=
 tq (g:=fun J=>(i17 m b o i j k l).bind fun c=>jj J 1 10 (succ m) (LJ c.1 e f h (L b 1) ((L b 1).length:Int) 0 b c.2.1 c.2.2.1 c.2.2.2.1 c.2.2.2.2 n) (l15 J m Zx [d] (succ m))) (by simp only[aM,Us m d a p];rfl)
theorem ag8 m b a(o:Ur m b a) c f d e h i j k:e15 jn m ae8 [b] (LK c f d e h i j k)=abQ m a c f d e h i j k:=
 tq (g:=fun J=>(idx c d).bind fun l=>(ow m (fld e 0) l).bind fun n=>cond (I n 0==0) (jj J 0 8 0 (aly c f d e h i j k l nC) (e15 J m ae9 [b])) (jj J 0 8 0 (aly c f d e h i j k l n) (e15 J m ae9 [b]))) (by simp only[aM,ag7 m b a o];rfl)
theorem ag9 m a b c d:e15 jn m [1,1,1] [] (apZ a b c d)=abR m a b c d:=
 tq (g:=fun J=>some (a,b,c,d)) (by rfl)
theorem Ut m:∀a i b c j d e f h,l15 jn m ae7 [] a (LK i b c j d e f h)=Fg m a i b c j d e f h
 |0,_,_,_,_,_,_,_,_=>rfl
 |a+1,i,b,c,j,d,e,f,h=>
  tl (g:=fun J=>cond (c<b) (jj J 0 4 0 (LK i b c j d e f h) (e15 J m ae8 [a])) (jj J 0 15 0 (apZ d e f h) (e15 J m [1,1,1] []))) (by simp only[aM,ag8 m a (Fg m a) (Ut m a),ag9 m];rfl)
theorem asj m b a:e15 jn m [] [] ⟨[.dat 35 b,.dat 23 (.lst a)],[],0⟩=i15 (m+1) b a:=
 tq (g:=fun J=>jj J 1 3 (succ m) (LK a (a.length:Int) 0 b [] [] [] []) (l15 J m ae7 [] (succ m))) (by simp only[aM,Ut m];rfl)
def e3(J:Q42)(m:Nat):=evAt Tryz.prog env (ct m) J (m+1) 6 10 Tryz.f6 d58
theorem WR m a c:e3 jn m [] [] ⟨[.dat 35 a,.dat 23 (.lst c)],[],0⟩=vR (m+1) a c:=
 tq (g:=fun J=>(i15 m a c).bind fun b=>(i24 m a b.1 b.2.1 b.2.2.1 b.2.2.2).bind fun d=>some d.1) (by rfl)
