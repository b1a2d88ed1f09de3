/- Generated: the functions as contracts for their callers.
Generated:each function's run in the abstract machine is its shallow function. -/
import Derived.Test.YtmecfjhdnbgfeaaGreatDoorSh
import Derived.Test.YtmecfjhdnbgfeaaGreatDoorA4
import Derived.Test.YtmecfjhdnbgfeaaGreatDoorProg
import Derived.KernelRfl
import Derived.Test.YtmecfjhdnbgfeaaGreatDoorAmEnv
set_option linter.all false
namespace Go.Proofs.YtmecfjhdnbgfeaaGreatDoor
open Go.Am
def Jo:List SA:=[.d 51 .a,.d 23 .l,.d 23 .l]
def anF:List SA:=[]
def auk:List SA:=[.d 54 .l,.d 54 .l]
def RH:List SA:=[.d 23 .l]
def ag9:List SA:=[.d 49 .l,.f 64]
def aha:List SA:=[.d 22 .l]
def dV:List SA:=[.d 26 .a]
def RI:List SA:=[.d 26 .a,.d 22 .l]
def Jp:List SA:=[.d 26 .a,.d 26 .a]
def ahb:List SA:=[.d 26 .a,.d 9 .s,.d 26 .a]
def ahc:List SA:=[.d 3 .i,.d 26 .a,.d 26 .a]
def ahd:List SA:=[.d 23 .l,.d 26 .a]
def ahe:List SA:=[.d 54 .l,.d 54 .l,.f 74]
def ahf:List SA:=[.d 77 .a,.d 77 .a]
def M6:List SA:=[.d 23 .l,.f 33]
def ahg:List SA:=[.d 24 .l,.d 9 .s]
def jB:List SA:=[.d 9 .s]
def tC:List SA:=[.d 26 .a,.d 9 .s]
def M7:List SA:=[.d 3 .i,.d 3 .i]
def U7:List SA:=[.d 9 .s,.d 9 .s]
def tF:List SA:=[.d 3 .i]
def ahh:List SA:=[.d 23 .l,.d 23 .l]
def M8:List SA:=[.d 26 .a,.d 4 .b]
def tH:List SA:=[.d 26 .a,.d 3 .i]
def ahi:List SA:=[.d 24 .l]
def ahj:List SA:=[.d 9 .s,.d 3 .i,.d 3 .i]
def iU:SR:= .d 26 .a
def res1:SR:= .d 3 .i
def res2:SR:= .t [(3,.i),(4,.b)]
def M9:SR:= .t [(26,.a),(4,.b)]
def cK:SR:= .d 4 .b
def anG:SR:= .d 215 .i
def Yq:SR:= .t [(9,.s),(31,.i)]
def Na:SR:= .d 9 .s
def Yr:SR:= .t [(3,.i),(31,.i)]
def Yt:SR:= .d 31 .i
def Gx:SR:= .t [(54,.l),(31,.i)]
def U8:SR:= .d 23 .l
theorem yg:oksA Tryz.prog Jo:=⟨trivial,⟨_,Tryz.underlying23⟩,⟨_,Tryz.underlying23⟩,trivial⟩
theorem U9:oksA Tryz.prog anF:=trivial
theorem anH:oksA Tryz.prog auk:=⟨⟨_,Tryz.underlying54⟩,⟨_,Tryz.underlying54⟩,trivial⟩
theorem Jq:oksA Tryz.prog RH:=⟨⟨_,Tryz.underlying23⟩,trivial⟩
theorem Va:oksA Tryz.prog ag9:=⟨⟨_,Tryz.underlying49⟩,trivial⟩
theorem Vb:oksA Tryz.prog aha:=⟨⟨_,Tryz.underlying22⟩,trivial⟩
theorem dz:oksA Tryz.prog dV:=⟨trivial,trivial⟩
theorem Jr:oksA Tryz.prog RI:=⟨trivial,⟨_,Tryz.underlying22⟩,trivial⟩
theorem yh:oksA Tryz.prog Jp:=⟨trivial,trivial,trivial⟩
theorem Vd:oksA Tryz.prog ahb:=⟨trivial,Tryz.underlying9,trivial,trivial⟩
theorem ahk:oksA Tryz.prog ahc:=⟨⟨_,Tryz.underlying3⟩,trivial,trivial,trivial⟩
theorem ahl:oksA Tryz.prog ahd:=⟨⟨_,Tryz.underlying23⟩,trivial,trivial⟩
theorem ahm:oksA Tryz.prog ahe:=⟨⟨_,Tryz.underlying54⟩,⟨_,Tryz.underlying54⟩,trivial⟩
theorem ahn:oksA Tryz.prog ahf:=⟨trivial,trivial,trivial⟩
theorem Nb:oksA Tryz.prog M6:=⟨⟨_,Tryz.underlying23⟩,trivial⟩
theorem aho:oksA Tryz.prog ahg:=⟨⟨_,Tryz.underlying24⟩,Tryz.underlying9,trivial⟩
theorem iN:oksA Tryz.prog jB:=⟨Tryz.underlying9,trivial⟩
theorem tJ:oksA Tryz.prog tC:=⟨trivial,Tryz.underlying9,trivial⟩
theorem Nc:oksA Tryz.prog M7:=⟨⟨_,Tryz.underlying3⟩,⟨_,Tryz.underlying3⟩,trivial⟩
theorem Nf:oksA Tryz.prog U7:=⟨Tryz.underlying9,Tryz.underlying9,trivial⟩
theorem tK:oksA Tryz.prog tF:=⟨⟨_,Tryz.underlying3⟩,trivial⟩
theorem ahp:oksA Tryz.prog ahh:=⟨⟨_,Tryz.underlying23⟩,⟨_,Tryz.underlying23⟩,trivial⟩
theorem Ng:oksA Tryz.prog M8:=⟨trivial,Tryz.underlying4,trivial⟩
theorem tL:oksA Tryz.prog tH:=⟨trivial,⟨_,Tryz.underlying3⟩,trivial⟩
theorem ahq:oksA Tryz.prog ahi:=⟨⟨_,Tryz.underlying24⟩,trivial⟩
theorem ahr:oksA Tryz.prog ahj:=⟨Tryz.underlying9,⟨_,Tryz.underlying3⟩,⟨_,Tryz.underlying3⟩,trivial⟩
theorem gL:iU.ok Tryz.prog:=trivial
theorem dI:res1.ok Tryz.prog:=⟨_,Tryz.underlying3⟩
theorem Ve:res2.ok Tryz.prog:=⟨⟨_,Tryz.underlying3⟩,Tryz.underlying4,trivial⟩
theorem Js:M9.ok Tryz.prog:=⟨trivial,Tryz.underlying4,trivial⟩
theorem bW:cK.ok Tryz.prog:=Tryz.underlying4
theorem anI:anG.ok Tryz.prog:=⟨_,Tryz.underlying215⟩
theorem Vf:Yq.ok Tryz.prog:=⟨Tryz.underlying9,⟨_,Tryz.underlying31⟩,trivial⟩
theorem yj:Na.ok Tryz.prog:=Tryz.underlying9
theorem Vg:Yr.ok Tryz.prog:=⟨⟨_,Tryz.underlying3⟩,⟨_,Tryz.underlying31⟩,trivial⟩
theorem Vh:Yt.ok Tryz.prog:=⟨_,Tryz.underlying31⟩
theorem Nh:Gx.ok Tryz.prog:=⟨⟨_,Tryz.underlying54⟩,⟨_,Tryz.underlying31⟩,trivial⟩
theorem ahs:U8.ok Tryz.prog:=⟨_,Tryz.underlying23⟩
noncomputable def d11:Res->Option (Dt):=SR.g iU
noncomputable def d40:Res->Option (Int):=SR.g res1
noncomputable def d41:Res->Option (Int×Bool):=SR.g res2
noncomputable def d44:Res->Option (Dt×Bool):=SR.g M9
noncomputable def d33:Res->Option (Bool):=SR.g cK
noncomputable def d62:Res->Option (Int):=SR.g anG
noncomputable def d43:Res->Option (ByteArray×Int):=SR.g Yq
noncomputable def d15:Res->Option (ByteArray):=SR.g Na
noncomputable def d46:Res->Option (Int×Int):=SR.g Yr
noncomputable def d19:Res->Option (Int):=SR.g Yt
noncomputable def d3:Res->Option (List Dt×Int):=SR.g Gx
noncomputable def d95:Res->Option (List Dt):=SR.g U8
def aht(args:List AV)(objs:List Ob):Option Dt:=match args,objs with
 | [.dat T0 a],[]=>bif Nat.beq T0 26 then some a else none
 |_,_=>none
theorem ahu{args:List AV}{objs:List Ob}{l:Dt}(h:aht args objs=some l):CnA Tryz.prog args [.dat 26 l]∧CnOL Tryz.prog objs []:=by
 unfold aht at h;split at h
 ·obtain⟨hc,a⟩:=aF h;cases a;have e0:=beq_eq hc;subst e0;exact⟨(.cons (.of .same rfl rfl) .nil),.nil⟩
 ·cases h
def Ni(args:List AV)(objs:List Ob):Option (Dt×Dt×List Dt×List Dt×List Dt×List Dt×List Dt):=match args,objs with
 | [.ptr n0 p0 o0,.dat T1 e],[.box T2 (.agg T3 [.dat T4 f,.row n5,.row n6,.row n7,.row n8]),.row T9 g,.rowD T10 S10 (some c10) n10 a none,.tok T11 b,.map T12 c,.row T13 d]=>bif (Nat.beq n0 0&&(natsB p0 []&&(Nat.beq o0 0&&(Nat.beq T1 26&&(Nat.beq T2 114&&(Nat.beq T3 114&&(Nat.beq T4 51&&(Nat.beq n5 1&&(Nat.beq n6 2&&(Nat.beq n7 4&&(Nat.beq n8 5&&(Nat.beq T9 112&&(Nat.beq T10 110&&(Nat.beq S10 75&&(Nat.beq c10 1000001&&(Nat.beq n10 3&&(Nat.beq T11 75&&(Nat.beq T12 111&&Nat.beq T13 54))))))))))))))))))then some (e,f,g,a,b,c,d)else none
 |_,_=>none
theorem Dj{args:List AV}{objs:List Ob}{l:Dt×Dt×List Dt×List Dt×List Dt×List Dt×List Dt}(h:Ni args objs=some l):CnA Tryz.prog args [.ptr 0 [] 0,.dat 26 l.1]∧CnOL Tryz.prog objs [.box 114 (.agg 114 [.dat 51 l.2.1,.row 1,.row 2,.row 4,.row 5]),.row 112 l.2.2.1,(.rowD 110 75 (some 1000001) 3 l.2.2.2.1 none),(.tok 75 l.2.2.2.2.1),(.map 111 l.2.2.2.2.2.1),.row 54 l.2.2.2.2.2.2]:=by
 unfold Ni at h;split at h
 ·obtain⟨hc,a⟩:=aF h;cases a;have e0:=beq_eq (aG hc);have hc:=aC hc;have e1:=eH (aG hc);have hc:=aC hc;have e2:=beq_eq (aG hc);have hc:=aC hc;have e3:=beq_eq (aG hc);have hc:=aC hc;have e4:=beq_eq (aG hc);have hc:=aC hc;have e5:=beq_eq (aG hc);have hc:=aC hc;have e6:=beq_eq (aG hc);have hc:=aC hc;have e7:=beq_eq (aG hc);have hc:=aC hc;have e8:=beq_eq (aG hc);have hc:=aC hc;have e9:=beq_eq (aG hc);have hc:=aC hc;have e10:=beq_eq (aG hc);have hc:=aC hc;have e11:=beq_eq (aG hc);have hc:=aC hc;have e12:=beq_eq (aG hc);have hc:=aC hc;have e13:=beq_eq (aG hc);have hc:=aC hc;have e14:=beq_eq (aG hc);have hc:=aC hc;have e15:=beq_eq (aG hc);have hc:=aC hc;have e16:=beq_eq (aG hc);have hc:=aC hc;have e17:=beq_eq (aG hc);have hc:=aC hc;have e18:=beq_eq hc;subst e0 e1 e2 e3 e4 e5 e6 e7 e8 e9 e10 e11 e12 e13 e14 e15 e16 e17 e18;exact⟨(.cons (.of .same rfl rfl) (.cons (.of .same rfl rfl) .nil)),(.cons (.box (.agg (.cons .same (.cons .same (.cons .same (.cons .same (.cons .same .nil))))))) (.cons .same (.cons .same (.cons .same (.cons .same (.cons .same .nil))))))⟩
 ·cases h
def ahv(args:List AV)(objs:List Ob):Option (Dt×Dt):=match args,objs with
 | [.rptr T0 a,.dat T1 b],[]=>bif (Nat.beq T0 114&&Nat.beq T1 26)then some (a,b)else none
 |_,_=>none
theorem ahw{args:List AV}{objs:List Ob}{l:Dt×Dt}(h:ahv args objs=some l):CnA Tryz.prog args [.rptr 114 l.1,.dat 26 l.2]∧CnOL Tryz.prog objs []:=by
 unfold ahv at h;split at h
 ·obtain⟨hc,a⟩:=aF h;cases a;have e0:=beq_eq (aG hc);have hc:=aC hc;have e1:=beq_eq hc;subst e0 e1;exact⟨(.cons (.of .same rfl rfl) (.cons (.of .same rfl rfl) .nil)),.nil⟩
 ·cases h
def ahx(args:List AV)(objs:List Ob):Option (Dt×Dt×Dt×List Dt×List Dt×List Dt×List Dt×List Dt):=match args,objs with
 | [.ptr n0 p0 o0,.dat T1 f,.dat T2 g],[.box T3 (.agg T4 [.dat T5 h,.row n6,.row n7,.row n8,.row n9]),.row T10 a,.rowD T11 S11 (some c11) n11 b none,.tok T12 c,.map T13 d,.row T14 e]=>bif (Nat.beq n0 0&&(natsB p0 []&&(Nat.beq o0 0&&(Nat.beq T1 26&&(Nat.beq T2 26&&(Nat.beq T3 114&&(Nat.beq T4 114&&(Nat.beq T5 51&&(Nat.beq n6 1&&(Nat.beq n7 2&&(Nat.beq n8 4&&(Nat.beq n9 5&&(Nat.beq T10 112&&(Nat.beq T11 110&&(Nat.beq S11 75&&(Nat.beq c11 1000001&&(Nat.beq n11 3&&(Nat.beq T12 75&&(Nat.beq T13 111&&Nat.beq T14 54)))))))))))))))))))then some (f,g,h,a,b,c,d,e)else none
 |_,_=>none
theorem ahy{args:List AV}{objs:List Ob}{l:Dt×Dt×Dt×List Dt×List Dt×List Dt×List Dt×List Dt}(h:ahx args objs=some l):CnA Tryz.prog args [.ptr 0 [] 0,.dat 26 l.1,.dat 26 l.2.1]∧CnOL Tryz.prog objs [.box 114 (.agg 114 [.dat 51 l.2.2.1,.row 1,.row 2,.row 4,.row 5]),.row 112 l.2.2.2.1,(.rowD 110 75 (some 1000001) 3 l.2.2.2.2.1 none),(.tok 75 l.2.2.2.2.2.1),(.map 111 l.2.2.2.2.2.2.1),.row 54 l.2.2.2.2.2.2.2]:=by
 unfold ahx at h;split at h
 ·obtain⟨hc,a⟩:=aF h;cases a;have e0:=beq_eq (aG hc);have hc:=aC hc;have e1:=eH (aG hc);have hc:=aC hc;have e2:=beq_eq (aG hc);have hc:=aC hc;have e3:=beq_eq (aG hc);have hc:=aC hc;have e4:=beq_eq (aG hc);have hc:=aC hc;have e5:=beq_eq (aG hc);have hc:=aC hc;have e6:=beq_eq (aG hc);have hc:=aC hc;have e7:=beq_eq (aG hc);have hc:=aC hc;have e8:=beq_eq (aG hc);have hc:=aC hc;have e9:=beq_eq (aG hc);have hc:=aC hc;have e10:=beq_eq (aG hc);have hc:=aC hc;have e11:=beq_eq (aG hc);have hc:=aC hc;have e12:=beq_eq (aG hc);have hc:=aC hc;have e13:=beq_eq (aG hc);have hc:=aC hc;have e14:=beq_eq (aG hc);have hc:=aC hc;have e15:=beq_eq (aG hc);have hc:=aC hc;have e16:=beq_eq (aG hc);have hc:=aC hc;have e17:=beq_eq (aG hc);have hc:=aC hc;have e18:=beq_eq (aG hc);have hc:=aC hc;have e19:=beq_eq hc;subst e0 e1 e2 e3 e4 e5 e6 e7 e8 e9 e10 e11 e12 e13 e14 e15 e16 e17 e18 e19;exact⟨(.cons (.of .same rfl rfl) (.cons (.of .same rfl rfl) (.cons (.of .same rfl rfl) .nil))),(.cons (.box (.agg (.cons .same (.cons .same (.cons .same (.cons .same (.cons .same .nil))))))) (.cons .same (.cons .same (.cons .same (.cons .same (.cons .same .nil))))))⟩
 ·cases h
def Vi(args:List AV)(objs:List Ob):Option (Int×Dt×Dt×List Dt×List Dt×List Dt×List Dt×List Dt):=match args,objs with
 | [.ptr n0 p0 o0,.dat T1 f,.dat T2 g],[.box T3 (.agg T4 [.dat T5 h,.row n6,.row n7,.row n8,.row n9]),.row T10 a,.rowD T11 S11 (some c11) n11 b none,.tok T12 c,.map T13 d,.row T14 e]=>bif (Nat.beq n0 0&&(natsB p0 []&&(Nat.beq o0 0&&(Nat.beq T1 3&&(Nat.beq T2 26&&(Nat.beq T3 114&&(Nat.beq T4 114&&(Nat.beq T5 51&&(Nat.beq n6 1&&(Nat.beq n7 2&&(Nat.beq n8 4&&(Nat.beq n9 5&&(Nat.beq T10 112&&(Nat.beq T11 110&&(Nat.beq S11 75&&(Nat.beq c11 1000001&&(Nat.beq n11 3&&(Nat.beq T12 75&&(Nat.beq T13 111&&Nat.beq T14 54)))))))))))))))))))then some (f.toInt,g,h,a,b,c,d,e)else none
 |_,_=>none
theorem Nj{args:List AV}{objs:List Ob}{l:Int×Dt×Dt×List Dt×List Dt×List Dt×List Dt×List Dt}(h:Vi args objs=some l):CnA Tryz.prog args [.ptr 0 [] 0,.dat 3 (.int l.1),.dat 26 l.2.1]∧CnOL Tryz.prog objs [.box 114 (.agg 114 [.dat 51 l.2.2.1,.row 1,.row 2,.row 4,.row 5]),.row 112 l.2.2.2.1,(.rowD 110 75 (some 1000001) 3 l.2.2.2.2.1 none),(.tok 75 l.2.2.2.2.2.1),(.map 111 l.2.2.2.2.2.2.1),.row 54 l.2.2.2.2.2.2.2]:=by
 unfold Vi at h;split at h
 ·obtain⟨hc,a⟩:=aF h;cases a;have e0:=beq_eq (aG hc);have hc:=aC hc;have e1:=eH (aG hc);have hc:=aC hc;have e2:=beq_eq (aG hc);have hc:=aC hc;have e3:=beq_eq (aG hc);have hc:=aC hc;have e4:=beq_eq (aG hc);have hc:=aC hc;have e5:=beq_eq (aG hc);have hc:=aC hc;have e6:=beq_eq (aG hc);have hc:=aC hc;have e7:=beq_eq (aG hc);have hc:=aC hc;have e8:=beq_eq (aG hc);have hc:=aC hc;have e9:=beq_eq (aG hc);have hc:=aC hc;have e10:=beq_eq (aG hc);have hc:=aC hc;have e11:=beq_eq (aG hc);have hc:=aC hc;have e12:=beq_eq (aG hc);have hc:=aC hc;have e13:=beq_eq (aG hc);have hc:=aC hc;have e14:=beq_eq (aG hc);have hc:=aC hc;have e15:=beq_eq (aG hc);have hc:=aC hc;have e16:=beq_eq (aG hc);have hc:=aC hc;have e17:=beq_eq (aG hc);have hc:=aC hc;have e18:=beq_eq (aG hc);have hc:=aC hc;have e19:=beq_eq hc;subst e0 e1 e2 e3 e4 e5 e6 e7 e8 e9 e10 e11 e12 e13 e14 e15 e16 e17 e18 e19;exact⟨(.cons (.of .same rfl rfl) (.cons (.of (.dat (.int Tryz.underlying3)) rfl rfl) (.cons (.of .same rfl rfl) .nil))),(.cons (.box (.agg (.cons .same (.cons .same (.cons .same (.cons .same (.cons .same .nil))))))) (.cons .same (.cons .same (.cons .same (.cons .same (.cons .same .nil))))))⟩
 ·cases h
def Vj(args:List AV)(objs:List Ob):Option (List Dt×Int):=match args,objs with
 | [.row n0,.fn T1 [.ptr n2 p2 o2]],[.row T3 a,.box T4 (.dat T5 b)]=>bif (Nat.beq n0 0&&(Nat.beq T1 195&&(Nat.beq n2 1&&(natsB p2 []&&(Nat.beq o2 0&&(Nat.beq T3 75&&(Nat.beq T4 3&&Nat.beq T5 3)))))))then some (a,b.toInt)else none
 |_,_=>none
theorem Nk{args:List AV}{objs:List Ob}{l:List Dt×Int}(h:Vj args objs=some l):CnA Tryz.prog args [.row 0,(.fn 195 [.ptr 1 [] 0])]∧CnOL Tryz.prog objs [.row 75 l.1,.box 3 (.dat 3 (.int l.2))]:=by
 unfold Vj at h;split at h
 ·obtain⟨hc,a⟩:=aF h;cases a;have e0:=beq_eq (aG hc);have hc:=aC hc;have e1:=beq_eq (aG hc);have hc:=aC hc;have e2:=beq_eq (aG hc);have hc:=aC hc;have e3:=eH (aG hc);have hc:=aC hc;have e4:=beq_eq (aG hc);have hc:=aC hc;have e5:=beq_eq (aG hc);have hc:=aC hc;have e6:=beq_eq (aG hc);have hc:=aC hc;have e7:=beq_eq hc;subst e0 e1 e2 e3 e4 e5 e6 e7;exact⟨(.cons (.of .same rfl rfl) (.cons (.of (.fn (.cons .same .nil)) rfl rfl) .nil)),(.cons .same (.cons (.box (.dat (.int Tryz.underlying3))) .nil))⟩
 ·cases h
def ahz(args:List AV)(objs:List Ob):Option (Int×Int):=match args,objs with
 | [.dat T0 a,.ptr n1 p1 o1],[.box T2 (.dat T3 b)]=>bif (Nat.beq T0 3&&(Nat.beq n1 0&&(natsB p1 []&&(Nat.beq o1 0&&(Nat.beq T2 3&&Nat.beq T3 3)))))then some (a.toInt,b.toInt)else none
 |_,_=>none
theorem ahA{args:List AV}{objs:List Ob}{l:Int×Int}(h:ahz args objs=some l):CnA Tryz.prog args [.dat 3 (.int l.1),.ptr 0 [] 0]∧CnOL Tryz.prog objs [.box 3 (.dat 3 (.int l.2))]:=by
 unfold ahz at h;split at h
 ·obtain⟨hc,a⟩:=aF h;cases a;have e0:=beq_eq (aG hc);have hc:=aC hc;have e1:=beq_eq (aG hc);have hc:=aC hc;have e2:=eH (aG hc);have hc:=aC hc;have e3:=beq_eq (aG hc);have hc:=aC hc;have e4:=beq_eq (aG hc);have hc:=aC hc;have e5:=beq_eq hc;subst e0 e1 e2 e3 e4 e5;exact⟨(.cons (.of (.dat (.int Tryz.underlying3)) rfl rfl) (.cons (.of .same rfl rfl) .nil)),(.cons (.box (.dat (.int Tryz.underlying3))) .nil)⟩
 ·cases h
def ahB(args:List AV)(objs:List Ob):Option (List Dt×Dt×List Dt):=match args,objs with
 | [.dat T0 a,.row n1,.dat T2 b],[.row T3 c]=>bif (Nat.beq T0 49&&(Nat.beq n1 0&&(Nat.beq T2 26&&Nat.beq T3 23)))then some (a.toLst,b,c)else none
 |_,_=>none
theorem ahC{args:List AV}{objs:List Ob}{l:List Dt×Dt×List Dt}(h:ahB args objs=some l):CnA Tryz.prog args [.dat 49 (.lst l.1),.row 0,.dat 26 l.2.1]∧CnOL Tryz.prog objs [.row 23 l.2.2]:=by
 unfold ahB at h;split at h
 ·obtain⟨hc,a⟩:=aF h;cases a;have e0:=beq_eq (aG hc);have hc:=aC hc;have e1:=beq_eq (aG hc);have hc:=aC hc;have e2:=beq_eq (aG hc);have hc:=aC hc;have e3:=beq_eq hc;subst e0 e1 e2 e3;exact⟨(.cons (.of (.dat (.lst Tryz.underlying49)) rfl rfl) (.cons (.of .same rfl rfl) (.cons (.of .same rfl rfl) .nil))),(.cons .same .nil)⟩
 ·cases h
def ahD(args:List AV)(objs:List Ob):Option (Dt×List Dt):=match args,objs with
 | [.row n0,.dat T1 a],[.row T2 b]=>bif (Nat.beq n0 0&&(Nat.beq T1 26&&Nat.beq T2 193))then some (a,b)else none
 |_,_=>none
theorem ahE{args:List AV}{objs:List Ob}{l:Dt×List Dt}(h:ahD args objs=some l):CnA Tryz.prog args [.row 0,.dat 26 l.1]∧CnOL Tryz.prog objs [.row 193 l.2]:=by
 unfold ahD at h;split at h
 ·obtain⟨hc,a⟩:=aF h;cases a;have e0:=beq_eq (aG hc);have hc:=aC hc;have e1:=beq_eq (aG hc);have hc:=aC hc;have e2:=beq_eq hc;subst e0 e1 e2;exact⟨(.cons (.of .same rfl rfl) (.cons (.of .same rfl rfl) .nil)),(.cons .same .nil)⟩
 ·cases h
def ahF(args:List AV)(objs:List Ob):Option (Int×List Dt):=match args,objs with
 | [.row n0,.dat T1 a],[.row T2 b]=>bif (Nat.beq n0 0&&(Nat.beq T1 3&&Nat.beq T2 193))then some (a.toInt,b)else none
 |_,_=>none
theorem ahG{args:List AV}{objs:List Ob}{l:Int×List Dt}(h:ahF args objs=some l):CnA Tryz.prog args [.row 0,.dat 3 (.int l.1)]∧CnOL Tryz.prog objs [.row 193 l.2]:=by
 unfold ahF at h;split at h
 ·obtain⟨hc,a⟩:=aF h;cases a;have e0:=beq_eq (aG hc);have hc:=aC hc;have e1:=beq_eq (aG hc);have hc:=aC hc;have e2:=beq_eq hc;subst e0 e1 e2;exact⟨(.cons (.of .same rfl rfl) (.cons (.of (.dat (.int Tryz.underlying3)) rfl rfl) .nil)),(.cons .same .nil)⟩
 ·cases h
def ahH(args:List AV)(objs:List Ob):Option (ByteArray×List Dt):=match args,objs with
 | [.row n0,.dat T1 a],[.row T2 b]=>bif (Nat.beq n0 0&&(Nat.beq T1 9&&Nat.beq T2 193))then some (a.toStr,b)else none
 |_,_=>none
theorem ahI{args:List AV}{objs:List Ob}{l:ByteArray×List Dt}(h:ahH args objs=some l):CnA Tryz.prog args [.row 0,.dat 9 (.str l.1)]∧CnOL Tryz.prog objs [.row 193 l.2]:=by
 unfold ahH at h;split at h
 ·obtain⟨hc,a⟩:=aF h;cases a;have e0:=beq_eq (aG hc);have hc:=aC hc;have e1:=beq_eq (aG hc);have hc:=aC hc;have e2:=beq_eq hc;subst e0 e1 e2;exact⟨(.cons (.of .same rfl rfl) (.cons (.of (.dat (.str Tryz.underlying9)) rfl rfl) .nil)),(.cons .same .nil)⟩
 ·cases h
def ahJ(args:List AV)(objs:List Ob):Option (Dt×Int×Int):=match args,objs with
 | [.dat T0 a,.fn T1 [.ptr n2 p2 o2,.ptr n3 p3 o3]],[.box T4 (.dat T5 b),.box T6 (.dat T7 c)]=>bif (Nat.beq T0 26&&(Nat.beq T1 235&&(Nat.beq n2 0&&(natsB p2 []&&(Nat.beq o2 0&&(Nat.beq n3 1&&(natsB p3 []&&(Nat.beq o3 0&&(Nat.beq T4 3&&(Nat.beq T5 3&&(Nat.beq T6 3&&Nat.beq T7 3)))))))))))then some (a,b.toInt,c.toInt)else none
 |_,_=>none
theorem ahK{args:List AV}{objs:List Ob}{l:Dt×Int×Int}(h:ahJ args objs=some l):CnA Tryz.prog args [.dat 26 l.1,(.fn 235 [.ptr 0 [] 0,.ptr 1 [] 0])]∧CnOL Tryz.prog objs [.box 3 (.dat 3 (.int l.2.1)),.box 3 (.dat 3 (.int l.2.2))]:=by
 unfold ahJ at h;split at h
 ·obtain⟨hc,a⟩:=aF h;cases a;have e0:=beq_eq (aG hc);have hc:=aC hc;have e1:=beq_eq (aG hc);have hc:=aC hc;have e2:=beq_eq (aG hc);have hc:=aC hc;have e3:=eH (aG hc);have hc:=aC hc;have e4:=beq_eq (aG hc);have hc:=aC hc;have e5:=beq_eq (aG hc);have hc:=aC hc;have e6:=eH (aG hc);have hc:=aC hc;have e7:=beq_eq (aG hc);have hc:=aC hc;have e8:=beq_eq (aG hc);have hc:=aC hc;have e9:=beq_eq (aG hc);have hc:=aC hc;have e10:=beq_eq (aG hc);have hc:=aC hc;have e11:=beq_eq hc;subst e0 e1 e2 e3 e4 e5 e6 e7 e8 e9 e10 e11;exact⟨(.cons (.of .same rfl rfl) (.cons (.of (.fn (.cons .same (.cons .same .nil))) rfl rfl) .nil)),(.cons (.box (.dat (.int Tryz.underlying3))) (.cons (.box (.dat (.int Tryz.underlying3))) .nil))⟩
 ·cases h
def Vk(args:List AV)(objs:List Ob):Option (Dt×Int×Int):=match args,objs with
 | [.dat T0 a,.ptr n1 p1 o1,.ptr n2 p2 o2],[.box T3 (.dat T4 b),.box T5 (.dat T6 c)]=>bif (Nat.beq T0 26&&(Nat.beq n1 0&&(natsB p1 []&&(Nat.beq o1 0&&(Nat.beq n2 1&&(natsB p2 []&&(Nat.beq o2 0&&(Nat.beq T3 3&&(Nat.beq T4 3&&(Nat.beq T5 3&&Nat.beq T6 3))))))))))then some (a,b.toInt,c.toInt)else none
 |_,_=>none
theorem Nl{args:List AV}{objs:List Ob}{l:Dt×Int×Int}(h:Vk args objs=some l):CnA Tryz.prog args [.dat 26 l.1,.ptr 0 [] 0,.ptr 1 [] 0]∧CnOL Tryz.prog objs [.box 3 (.dat 3 (.int l.2.1)),.box 3 (.dat 3 (.int l.2.2))]:=by
 unfold Vk at h;split at h
 ·obtain⟨hc,a⟩:=aF h;cases a;have e0:=beq_eq (aG hc);have hc:=aC hc;have e1:=beq_eq (aG hc);have hc:=aC hc;have e2:=eH (aG hc);have hc:=aC hc;have e3:=beq_eq (aG hc);have hc:=aC hc;have e4:=beq_eq (aG hc);have hc:=aC hc;have e5:=eH (aG hc);have hc:=aC hc;have e6:=beq_eq (aG hc);have hc:=aC hc;have e7:=beq_eq (aG hc);have hc:=aC hc;have e8:=beq_eq (aG hc);have hc:=aC hc;have e9:=beq_eq (aG hc);have hc:=aC hc;have e10:=beq_eq hc;subst e0 e1 e2 e3 e4 e5 e6 e7 e8 e9 e10;exact⟨(.cons (.of .same rfl rfl) (.cons (.of .same rfl rfl) (.cons (.of .same rfl rfl) .nil))),(.cons (.box (.dat (.int Tryz.underlying3))) (.cons (.box (.dat (.int Tryz.underlying3))) .nil))⟩
 ·cases h
def ahL(args:List AV)(objs:List Ob):Option (Dt×Int×Int):=match args,objs with
 | [.dat T0 a,.fn T1 [.ptr n2 p2 o2,.ptr n3 p3 o3]],[.box T4 (.dat T5 b),.box T6 (.dat T7 c)]=>bif (Nat.beq T0 26&&(Nat.beq T1 236&&(Nat.beq n2 0&&(natsB p2 []&&(Nat.beq o2 0&&(Nat.beq n3 1&&(natsB p3 []&&(Nat.beq o3 0&&(Nat.beq T4 3&&(Nat.beq T5 3&&(Nat.beq T6 3&&Nat.beq T7 3)))))))))))then some (a,b.toInt,c.toInt)else none
 |_,_=>none
theorem ahM{args:List AV}{objs:List Ob}{l:Dt×Int×Int}(h:ahL args objs=some l):CnA Tryz.prog args [.dat 26 l.1,(.fn 236 [.ptr 0 [] 0,.ptr 1 [] 0])]∧CnOL Tryz.prog objs [.box 3 (.dat 3 (.int l.2.1)),.box 3 (.dat 3 (.int l.2.2))]:=by
 unfold ahL at h;split at h
 ·obtain⟨hc,a⟩:=aF h;cases a;have e0:=beq_eq (aG hc);have hc:=aC hc;have e1:=beq_eq (aG hc);have hc:=aC hc;have e2:=beq_eq (aG hc);have hc:=aC hc;have e3:=eH (aG hc);have hc:=aC hc;have e4:=beq_eq (aG hc);have hc:=aC hc;have e5:=beq_eq (aG hc);have hc:=aC hc;have e6:=eH (aG hc);have hc:=aC hc;have e7:=beq_eq (aG hc);have hc:=aC hc;have e8:=beq_eq (aG hc);have hc:=aC hc;have e9:=beq_eq (aG hc);have hc:=aC hc;have e10:=beq_eq (aG hc);have hc:=aC hc;have e11:=beq_eq hc;subst e0 e1 e2 e3 e4 e5 e6 e7 e8 e9 e10 e11;exact⟨(.cons (.of .same rfl rfl) (.cons (.of (.fn (.cons .same (.cons .same .nil))) rfl rfl) .nil)),(.cons (.box (.dat (.int Tryz.underlying3))) (.cons (.box (.dat (.int Tryz.underlying3))) .nil))⟩
 ·cases h
section
variable{R:Type}(m:Nat)(args:List AV)(objs:List Ob)(K:Res->Option R)
noncomputable def aul:Option R:=match Ni args objs with
 |some l=>(i12 m l.1 l.2.1 l.2.2.1 l.2.2.2.1 l.2.2.2.2.1 l.2.2.2.2.2.1 l.2.2.2.2.2.2).bind fun r=>K ((.tup []),[.box 114 (.agg 114 [.dat 51 r.1,.row 6,.row 7,.row 4,.row 9]),.gone,.gone,.gone,(.map 111 r.2.1),.gone,.row 112 r.2.2.1,(.rowD 110 75 (some 1000001) 8 r.2.2.2.1 none),(.tok 75 r.2.2.2.2.1),.row 54 r.2.2.2.2.2])
 |none=>none
noncomputable def aum:Option R:=match ahv args objs with
 |some l=>(i13 m l.1 l.2).bind fun r=>K ((.dat 9 (.str r)),[])
 |none=>none
noncomputable def aun:Option R:=match Ni args objs with
 |some l=>(i17 m l.1 l.2.1 l.2.2.1 l.2.2.2.1 l.2.2.2.2.1 l.2.2.2.2.2.1 l.2.2.2.2.2.2).bind fun r=>K ((.dat 31 (.int r.1)),[.box 114 (.agg 114 [.dat 51 r.2.1,.row 6,.row 7,.row 4,.row 9]),.gone,.gone,.gone,(.map 111 r.2.2.1),.gone,.row 112 r.2.2.2.1,(.rowD 110 75 (some 1000001) 8 r.2.2.2.2.1 none),(.tok 75 r.2.2.2.2.2.1),.row 54 r.2.2.2.2.2.2])
 |none=>none
noncomputable def ahN:Option R:=match Ni args objs with
 |some l=>(i18 m l.1 l.2.1 l.2.2.1 l.2.2.2.1 l.2.2.2.2.1 l.2.2.2.2.2.1 l.2.2.2.2.2.2).bind fun r=>K ((.dat 31 (.int r.1)),[.box 114 (.agg 114 [.dat 51 r.2.1,.row 6,.row 7,.row 4,.row 9]),.gone,.gone,.gone,(.map 111 r.2.2.1),.gone,.row 112 r.2.2.2.1,(.rowD 110 75 (some 1000001) 8 r.2.2.2.2.1 none),(.tok 75 r.2.2.2.2.2.1),.row 54 r.2.2.2.2.2.2])
 |none=>none
noncomputable def ahO:Option R:=match ahx args objs with
 |some l=>(i20 m l.1 l.2.1 l.2.2.1 l.2.2.2.1 l.2.2.2.2.1 l.2.2.2.2.2.1 l.2.2.2.2.2.2.1 l.2.2.2.2.2.2.2).bind fun r=>K ((.tup []),[.box 114 (.agg 114 [.dat 51 r.1,.row 6,.row 7,.row 4,.row 9]),.gone,.gone,.gone,(.map 111 r.2.1),.gone,.row 112 r.2.2.1,(.rowD 110 75 (some 1000001) 8 r.2.2.2.1 none),(.tok 75 r.2.2.2.2.1),.row 54 r.2.2.2.2.2])
 |none=>none
noncomputable def ahP:Option R:=match Vi args objs with
 |some l=>(i21 m l.1 l.2.1 l.2.2.1 l.2.2.2.1 l.2.2.2.2.1 l.2.2.2.2.2.1 l.2.2.2.2.2.2.1 l.2.2.2.2.2.2.2).bind fun r=>K ((.dat 31 (.int r.1)),[.box 114 (.agg 114 [.dat 51 r.2.1,.row 6,.row 7,.row 4,.row 9]),.gone,.gone,.gone,(.map 111 r.2.2.1),.gone,.row 112 r.2.2.2.1,(.rowD 110 75 (some 1000001) 8 r.2.2.2.2.1 none),(.tok 75 r.2.2.2.2.2.1),.row 54 r.2.2.2.2.2.2])
 |none=>none
noncomputable def ahQ:Option R:=match Vi args objs with
 |some l=>(i23 m l.1 l.2.1 l.2.2.1 l.2.2.2.1 l.2.2.2.2.1 l.2.2.2.2.2.1 l.2.2.2.2.2.2.1 l.2.2.2.2.2.2.2).bind fun r=>K ((.tup []),[.box 114 (.agg 114 [.dat 51 r.1,.row 6,.row 7,.row 4,.row 9]),.gone,.gone,.gone,(.map 111 r.2.1),.gone,.row 112 r.2.2.1,(.rowD 110 75 (some 1000001) 8 r.2.2.2.1 none),(.tok 75 r.2.2.2.2.1),.row 54 r.2.2.2.2.2])
 |none=>none
noncomputable def ahR:Option R:=match Vj args objs with
 |some l=>(i24 m l.1 l.2).bind fun r=>K ((.row 2),[.gone,.box 3 (.dat 3 (.int r.1)),.row 75 r.2])
 |none=>none
noncomputable def ahS:Option R:=match Vj args objs with
 |some l=>(i25 m l.1 l.2).bind fun r=>K ((.dat 3 (.int r.1)),[.row 75 r.2.1,.box 3 (.dat 3 (.int r.2.2))])
 |none=>none
noncomputable def ahT:Option R:=match ahz args objs with
 |some l=>(i26 m l.1 l.2).bind fun r=>K ((.dat 4 (.bool r.1)),[.box 3 (.dat 3 (.int r.2))])
 |none=>none
noncomputable def auo:Option R:=match ahB args objs with
 |some l=>(i28 m l.1 l.2.1 l.2.2).bind fun r=>K ((.dat 75 (.lst r.1)),[.row 23 r.2])
 |none=>none
noncomputable def ahU:Option R:=match aht args objs with
 |some l=>(qK m l).bind fun r=>K ((.agg 26 [.dat 3 (.int r.1),.dat 3 (.int r.2.1),.dat 9 (.str r.2.2.1),.row 0,.row 1]),[.row 23 r.2.2.2.1,.row 24 r.2.2.2.2])
 |none=>none
noncomputable def ahV:Option R:=match ahD args objs with
 |some l=>(i60 m l.1 l.2).bind fun r=>K ((.row 1),[.gone,.row 193 r])
 |none=>none
noncomputable def ahW:Option R:=match ahF args objs with
 |some l=>(i61 m l.1 l.2).bind fun r=>K ((.row 1),[.gone,.row 193 r])
 |none=>none
noncomputable def ahX:Option R:=match ahH args objs with
 |some l=>(i63 m l.1 l.2).bind fun r=>K ((.row 1),[.gone,.row 193 r])
 |none=>none
noncomputable def ahY:Option R:=match ahJ args objs with
 |some l=>(i89 m l.1 l.2.1 l.2.2).bind fun r=>K ((.tup []),[.box 3 (.dat 3 (.int r.1)),.box 3 (.dat 3 (.int r.2))])
 |none=>match ahL args objs with
 |some l=>(i91 m l.1 l.2.1 l.2.2).bind fun r=>K ((.tup []),[.box 3 (.dat 3 (.int r.1)),.box 3 (.dat 3 (.int r.2))])
 |none=>none
noncomputable def ahZ:Option R:=match Vk args objs with
 |some l=>(i90 m l.1 l.2.1 l.2.2).bind fun r=>K ((.dat 4 (.bool r.1)),[.box 3 (.dat 3 (.int r.2.1)),.box 3 (.dat 3 (.int r.2.2))])
 |none=>none
noncomputable def ah0:Option R:=match Vk args objs with
 |some l=>(i92 m l.1 l.2.1 l.2.2).bind fun r=>K ((.dat 4 (.bool r.1)),[.box 3 (.dat 3 (.int r.2.1)),.box 3 (.dat 3 (.int r.2.2))])
 |none=>none
end
noncomputable def d26(q:Res):Option (Bool×Int):=match q with
 |(.dat T0 a,[.box T1 (.dat T2 b)])=>bif (Nat.beq T0 4&&(Nat.beq T1 3&&Nat.beq T2 3))then some (a.toBool,b.toInt)else none
 |_=>none
theorem anJ{b:Res}{r:Bool×Int}(h:d26 b=some r):Sim Tryz.prog b ((.dat 4 (.bool r.1)),[.box 3 (.dat 3 (.int r.2))]):=by
 unfold d26 at h;split at h
 ·obtain⟨hc,a⟩:=aF h;cases a;have e0:=beq_eq (aG hc);have hc:=aC hc;have e1:=beq_eq (aG hc);have hc:=aC hc;have e2:=beq_eq hc;subst e0 e1 e2;exact Sim.of (.of (.dat (.bool Tryz.underlying4)) rfl rfl) (.cons (.box (.dat (.int Tryz.underlying3))) .nil)
 ·cases h
noncomputable def d25(q:Res):Option (Int×List Dt×Int):=match q with
 |(.dat T0 a,[.row T1 b,.box T2 (.dat T3 c)])=>bif (Nat.beq T0 3&&(Nat.beq T1 75&&(Nat.beq T2 3&&Nat.beq T3 3)))then some (a.toInt,b,c.toInt)else none
 |_=>none
theorem anK{b:Res}{r:Int×List Dt×Int}(h:d25 b=some r):Sim Tryz.prog b ((.dat 3 (.int r.1)),[.row 75 r.2.1,.box 3 (.dat 3 (.int r.2.2))]):=by
 unfold d25 at h;split at h
 ·obtain⟨hc,a⟩:=aF h;cases a;have e0:=beq_eq (aG hc);have hc:=aC hc;have e1:=beq_eq (aG hc);have hc:=aC hc;have e2:=beq_eq (aG hc);have hc:=aC hc;have e3:=beq_eq hc;subst e0 e1 e2 e3;exact Sim.of (.of (.dat (.int Tryz.underlying3)) rfl rfl) (.cons .same (.cons (.box (.dat (.int Tryz.underlying3))) .nil))
 ·cases h
noncomputable def d24(q:Res):Option (Int×List Dt):=match q with
 |(.row n0,[.gone,.box T1 (.dat T2 a),.row T3 b])=>bif (Nat.beq n0 2&&(Nat.beq T1 3&&(Nat.beq T2 3&&Nat.beq T3 75)))then some (a.toInt,b)else none
 |_=>none
theorem anL{b:Res}{r:Int×List Dt}(h:d24 b=some r):Sim Tryz.prog b ((.row 2),[.gone,.box 3 (.dat 3 (.int r.1)),.row 75 r.2]):=by
 unfold d24 at h;split at h
 ·obtain⟨hc,a⟩:=aF h;cases a;have e0:=beq_eq (aG hc);have hc:=aC hc;have e1:=beq_eq (aG hc);have hc:=aC hc;have e2:=beq_eq (aG hc);have hc:=aC hc;have e3:=beq_eq hc;subst e0 e1 e2 e3;exact Sim.of (.of .same rfl rfl) (.cons .same (.cons (.box (.dat (.int Tryz.underlying3))) (.cons .same .nil)))
 ·cases h
noncomputable def d48(q:Res):Option (Int×Int×ByteArray×List Dt×List Dt):=match q with
 |(.agg T0 [.dat T1 a,.dat T2 b,.dat T3 c,.row n4,.row n5],[.row T6 d,.row T7 e])=>bif (Nat.beq T0 26&&(Nat.beq T1 3&&(Nat.beq T2 3&&(Nat.beq T3 9&&(Nat.beq n4 0&&(Nat.beq n5 1&&(Nat.beq T6 23&&Nat.beq T7 24)))))))then some (a.toInt,b.toInt,c.toStr,d,e)else none
 |_=>none
theorem anM{b:Res}{r:Int×Int×ByteArray×List Dt×List Dt}(h:d48 b=some r):Sim Tryz.prog b ((.agg 26 [.dat 3 (.int r.1),.dat 3 (.int r.2.1),.dat 9 (.str r.2.2.1),.row 0,.row 1]),[.row 23 r.2.2.2.1,.row 24 r.2.2.2.2]):=by
 unfold d48 at h;split at h
 ·obtain⟨hc,a⟩:=aF h;cases a;have e0:=beq_eq (aG hc);have hc:=aC hc;have e1:=beq_eq (aG hc);have hc:=aC hc;have e2:=beq_eq (aG hc);have hc:=aC hc;have e3:=beq_eq (aG hc);have hc:=aC hc;have e4:=beq_eq (aG hc);have hc:=aC hc;have e5:=beq_eq (aG hc);have hc:=aC hc;have e6:=beq_eq (aG hc);have hc:=aC hc;have e7:=beq_eq hc;subst e0 e1 e2 e3 e4 e5 e6 e7;exact Sim.of (.of (.agg (.cons (.dat (.int Tryz.underlying3)) (.cons (.dat (.int Tryz.underlying3)) (.cons (.dat (.str Tryz.underlying9)) (.cons .same (.cons .same .nil)))))) rfl rfl) (.cons .same (.cons .same .nil))
 ·cases h
noncomputable def d20(q:Res):Option (Dt×List Dt×List Dt×List Dt×List Dt×List Dt):=match q with
 |(.tup [],[.box T0 (.agg T1 [.dat T2 c,.row n3,.row n4,.row n5,.row n6]),.gone,.gone,.gone,.map T7 d,.gone,.row T8 e,.rowD T9 S9 (some c9) n9 f none,.tok T10 a,.row T11 b])=>bif (Nat.beq T0 114&&(Nat.beq T1 114&&(Nat.beq T2 51&&(Nat.beq n3 6&&(Nat.beq n4 7&&(Nat.beq n5 4&&(Nat.beq n6 9&&(Nat.beq T7 111&&(Nat.beq T8 112&&(Nat.beq T9 110&&(Nat.beq S9 75&&(Nat.beq c9 1000001&&(Nat.beq n9 8&&(Nat.beq T10 75&&Nat.beq T11 54))))))))))))))then some (c,d,e,f,a,b)else none
 |_=>none
theorem Jt{b:Res}{r:Dt×List Dt×List Dt×List Dt×List Dt×List Dt}(h:d20 b=some r):Sim Tryz.prog b ((.tup []),[.box 114 (.agg 114 [.dat 51 r.1,.row 6,.row 7,.row 4,.row 9]),.gone,.gone,.gone,(.map 111 r.2.1),.gone,.row 112 r.2.2.1,(.rowD 110 75 (some 1000001) 8 r.2.2.2.1 none),(.tok 75 r.2.2.2.2.1),.row 54 r.2.2.2.2.2]):=by
 unfold d20 at h;split at h
 ·obtain⟨hc,a⟩:=aF h;cases a;have e0:=beq_eq (aG hc);have hc:=aC hc;have e1:=beq_eq (aG hc);have hc:=aC hc;have e2:=beq_eq (aG hc);have hc:=aC hc;have e3:=beq_eq (aG hc);have hc:=aC hc;have e4:=beq_eq (aG hc);have hc:=aC hc;have e5:=beq_eq (aG hc);have hc:=aC hc;have e6:=beq_eq (aG hc);have hc:=aC hc;have e7:=beq_eq (aG hc);have hc:=aC hc;have e8:=beq_eq (aG hc);have hc:=aC hc;have e9:=beq_eq (aG hc);have hc:=aC hc;have e10:=beq_eq (aG hc);have hc:=aC hc;have e11:=beq_eq (aG hc);have hc:=aC hc;have e12:=beq_eq (aG hc);have hc:=aC hc;have e13:=beq_eq (aG hc);have hc:=aC hc;have e14:=beq_eq hc;subst e0 e1 e2 e3 e4 e5 e6 e7 e8 e9 e10 e11 e12 e13 e14;exact Sim.of (.tup .nil) (.cons (.box (.agg (.cons .same (.cons .same (.cons .same (.cons .same (.cons .same .nil))))))) (.cons .same (.cons .same (.cons .same (.cons .same (.cons .same (.cons .same (.cons .same (.cons .same (.cons .same .nil))))))))))
 ·cases h
noncomputable def d61(q:Res):Option (List Dt):=match q with
 |(.row n0,[.gone,.row T1 a])=>bif (Nat.beq n0 1&&Nat.beq T1 193)then some a else none
 |_=>none
theorem Ju{b:Res}{r:List Dt}(h:d61 b=some r):Sim Tryz.prog b ((.row 1),[.gone,.row 193 r]):=by
 unfold d61 at h;split at h
 ·obtain⟨hc,a⟩:=aF h;cases a;have e0:=beq_eq (aG hc);have hc:=aC hc;have e1:=beq_eq hc;subst e0 e1;exact Sim.of (.of .same rfl rfl) (.cons .same (.cons .same .nil))
 ·cases h
noncomputable def d28(q:Res):Option (List Dt×List Dt):=match q with
 |(.dat T0 a,[.row T1 b])=>bif (Nat.beq T0 75&&Nat.beq T1 23)then some (a.toLst,b)else none
 |_=>none
theorem anN{b:Res}{r:List Dt×List Dt}(h:d28 b=some r):Sim Tryz.prog b ((.dat 75 (.lst r.1)),[.row 23 r.2]):=by
 unfold d28 at h;split at h
 ·obtain⟨hc,a⟩:=aF h;cases a;have e0:=beq_eq (aG hc);have hc:=aC hc;have e1:=beq_eq hc;subst e0 e1;exact Sim.of (.of (.dat (.lst Tryz.underlying75)) rfl rfl) (.cons .same .nil)
 ·cases h
noncomputable def d89(q:Res):Option (Int×Int):=match q with
 |(.tup [],[.box T0 (.dat T1 a),.box T2 (.dat T3 b)])=>bif (Nat.beq T0 3&&(Nat.beq T1 3&&(Nat.beq T2 3&&Nat.beq T3 3)))then some (a.toInt,b.toInt)else none
 |_=>none
theorem Vl{b:Res}{r:Int×Int}(h:d89 b=some r):Sim Tryz.prog b ((.tup []),[.box 3 (.dat 3 (.int r.1)),.box 3 (.dat 3 (.int r.2))]):=by
 unfold d89 at h;split at h
 ·obtain⟨hc,a⟩:=aF h;cases a;have e0:=beq_eq (aG hc);have hc:=aC hc;have e1:=beq_eq (aG hc);have hc:=aC hc;have e2:=beq_eq (aG hc);have hc:=aC hc;have e3:=beq_eq hc;subst e0 e1 e2 e3;exact Sim.of (.tup .nil) (.cons (.box (.dat (.int Tryz.underlying3))) (.cons (.box (.dat (.int Tryz.underlying3))) .nil))
 ·cases h
noncomputable def d90(q:Res):Option (Bool×Int×Int):=match q with
 |(.dat T0 a,[.box T1 (.dat T2 b),.box T3 (.dat T4 c)])=>bif (Nat.beq T0 4&&(Nat.beq T1 3&&(Nat.beq T2 3&&(Nat.beq T3 3&&Nat.beq T4 3))))then some (a.toBool,b.toInt,c.toInt)else none
 |_=>none
theorem Vm{b:Res}{r:Bool×Int×Int}(h:d90 b=some r):Sim Tryz.prog b ((.dat 4 (.bool r.1)),[.box 3 (.dat 3 (.int r.2.1)),.box 3 (.dat 3 (.int r.2.2))]):=by
 unfold d90 at h;split at h
 ·obtain⟨hc,a⟩:=aF h;cases a;have e0:=beq_eq (aG hc);have hc:=aC hc;have e1:=beq_eq (aG hc);have hc:=aC hc;have e2:=beq_eq (aG hc);have hc:=aC hc;have e3:=beq_eq (aG hc);have hc:=aC hc;have e4:=beq_eq hc;subst e0 e1 e2 e3 e4;exact Sim.of (.of (.dat (.bool Tryz.underlying4)) rfl rfl) (.cons (.box (.dat (.int Tryz.underlying3))) (.cons (.box (.dat (.int Tryz.underlying3))) .nil))
 ·cases h
noncomputable def d18(q:Res):Option (Int×Dt×List Dt×List Dt×List Dt×List Dt×List Dt):=match q with
 |(.dat T0 d,[.box T1 (.agg T2 [.dat T3 e,.row n4,.row n5,.row n6,.row n7]),.gone,.gone,.gone,.map T8 f,.gone,.row T9 g,.rowD T10 S10 (some c10) n10 a none,.tok T11 b,.row T12 c])=>bif (Nat.beq T0 31&&(Nat.beq T1 114&&(Nat.beq T2 114&&(Nat.beq T3 51&&(Nat.beq n4 6&&(Nat.beq n5 7&&(Nat.beq n6 4&&(Nat.beq n7 9&&(Nat.beq T8 111&&(Nat.beq T9 112&&(Nat.beq T10 110&&(Nat.beq S10 75&&(Nat.beq c10 1000001&&(Nat.beq n10 8&&(Nat.beq T11 75&&Nat.beq T12 54)))))))))))))))then some (d.toInt,e,f,g,a,b,c)else none
 |_=>none
theorem Jv{b:Res}{r:Int×Dt×List Dt×List Dt×List Dt×List Dt×List Dt}(h:d18 b=some r):Sim Tryz.prog b ((.dat 31 (.int r.1)),[.box 114 (.agg 114 [.dat 51 r.2.1,.row 6,.row 7,.row 4,.row 9]),.gone,.gone,.gone,(.map 111 r.2.2.1),.gone,.row 112 r.2.2.2.1,(.rowD 110 75 (some 1000001) 8 r.2.2.2.2.1 none),(.tok 75 r.2.2.2.2.2.1),.row 54 r.2.2.2.2.2.2]):=by
 unfold d18 at h;split at h
 ·obtain⟨hc,a⟩:=aF h;cases a;have e0:=beq_eq (aG hc);have hc:=aC hc;have e1:=beq_eq (aG hc);have hc:=aC hc;have e2:=beq_eq (aG hc);have hc:=aC hc;have e3:=beq_eq (aG hc);have hc:=aC hc;have e4:=beq_eq (aG hc);have hc:=aC hc;have e5:=beq_eq (aG hc);have hc:=aC hc;have e6:=beq_eq (aG hc);have hc:=aC hc;have e7:=beq_eq (aG hc);have hc:=aC hc;have e8:=beq_eq (aG hc);have hc:=aC hc;have e9:=beq_eq (aG hc);have hc:=aC hc;have e10:=beq_eq (aG hc);have hc:=aC hc;have e11:=beq_eq (aG hc);have hc:=aC hc;have e12:=beq_eq (aG hc);have hc:=aC hc;have e13:=beq_eq (aG hc);have hc:=aC hc;have e14:=beq_eq (aG hc);have hc:=aC hc;have e15:=beq_eq hc;subst e0 e1 e2 e3 e4 e5 e6 e7 e8 e9 e10 e11 e12 e13 e14 e15;exact Sim.of (.of (.dat (.int Tryz.underlying31)) rfl rfl) (.cons (.box (.agg (.cons .same (.cons .same (.cons .same (.cons .same (.cons .same .nil))))))) (.cons .same (.cons .same (.cons .same (.cons .same (.cons .same (.cons .same (.cons .same (.cons .same (.cons .same .nil))))))))))
 ·cases h
noncomputable def ctE(m:Nat)(f:FuncId):Option Ent:=
 bif Nat.beq f 7 then some ⟨Jo,cK,zU m⟩else
 bif Nat.beq f 24 then some ⟨Jo,cK,zP m⟩else
 bif Nat.beq f 10 then some ⟨anF,cK,qx⟩else
 bif Nat.beq f 27 then some ⟨Jo,Gx,qQ m⟩else
 bif Nat.beq f 31 then some ⟨Jo,Gx,qL m⟩else
 bif Nat.beq f 32 then some ⟨auk,cK,zZ m⟩else
 bif Nat.beq f 8 then some ⟨RH,cK,yH m⟩else
 bif Nat.beq f 66 then some ⟨RH,cK,qW m⟩else
 bif Nat.beq f 63 then some ⟨ag9,cK,i8 m⟩else
 bif Nat.beq f 96 then some ⟨ag9,res1,i9 m⟩else
 bif Nat.beq f 64 then some ⟨aha,cK,yB m⟩else
 bif Nat.beq f 58 then some ⟨dV,iU,qB m⟩else
 bif Nat.beq f 109 then some ⟨RI,iU,zL m⟩else
 bif Nat.beq f 100 then some ⟨RH,Na,zA m⟩else
 bif Nat.beq f 101 then some ⟨dV,iU,zQ m⟩else
 bif Nat.beq f 139 then some ⟨dV,Yt,qS m⟩else
 bif Nat.beq f 141 then some ⟨Jp,cK,yL m⟩else
 bif Nat.beq f 119 then some ⟨ahb,iU,zV m⟩else
 bif Nat.beq f 104 then some ⟨RI,iU,yA m⟩else
 bif Nat.beq f 21 then some ⟨Jp,res1,qA m⟩else
 bif Nat.beq f 71 then some ⟨ahc,iU,qM m⟩else
 bif Nat.beq f 26 then some ⟨dV,Yt,zI m⟩else
 bif Nat.beq f 72 then some ⟨ahd,cK,zN m⟩else
 bif Nat.beq f 73 then some ⟨ahe,cK,i34 m⟩else
 bif Nat.beq f 74 then some ⟨ahf,cK,zW m⟩else
 bif Nat.beq f 16 then some ⟨M6,cK,i36 m⟩else
 bif Nat.beq f 53 then some ⟨M6,res1,i37 m⟩else
 bif Nat.beq f 33 then some ⟨dV,cK,yG m⟩else
 bif Nat.beq f 65 then some ⟨aha,cK,zH m⟩else
 bif Nat.beq f 144 then some ⟨ahg,res1,zM m⟩else
 bif Nat.beq f 145 then some ⟨jB,res2,zB m⟩else
 bif Nat.beq f 146 then some ⟨dV,iU,qJ m⟩else
 bif Nat.beq f 137 then some ⟨dV,Yq,zX m⟩else
 bif Nat.beq f 138 then some ⟨tC,M9,yJ m⟩else
 bif Nat.beq f 122 then some ⟨dV,cK,yD m⟩else
 bif Nat.beq f 193 then some ⟨dV,Yr,z6 m⟩else
 bif Nat.beq f 45 then some ⟨Jp,res1,qE m⟩else
 bif Nat.beq f 157 then some ⟨tC,res1,zG m⟩else
 bif Nat.beq f 143 then some ⟨RI,iU,zO m⟩else
 bif Nat.beq f 59 then some ⟨anF,iU,yQ m⟩else
 bif Nat.beq f 60 then some ⟨M7,res1,zS m⟩else
 bif Nat.beq f 61 then some ⟨U7,res1,zK m⟩else
 bif Nat.beq f 105 then some ⟨ahb,iU,zD m⟩else
 bif Nat.beq f 30 then some ⟨dV,M9,zT m⟩else
 bif Nat.beq f 67 then some ⟨dV,Yr,yE m⟩else
 bif Nat.beq f 42 then some ⟨Jp,cK,qU m⟩else
 bif Nat.beq f 18 then some ⟨dV,cK,yC m⟩else
 bif Nat.beq f 97 then some ⟨jB,cK,qT m⟩else
 bif Nat.beq f 239 then some ⟨tF,anG,yF m⟩else
 bif Nat.beq f 169 then some ⟨dV,res1,yK m⟩else
 bif Nat.beq f 170 then some ⟨dV,res1,yM m⟩else
 bif Nat.beq f 171 then some ⟨dV,cK,qC m⟩else
 bif Nat.beq f 228 then some ⟨dV,res1,qF m⟩else
 bif Nat.beq f 86 then some ⟨M7,res1,zJ m⟩else
 bif Nat.beq f 87 then some ⟨U7,res1,strings_Compare⟩else
 bif Nat.beq f 23 then some ⟨tC,M9,yI m⟩else
 bif Nat.beq f 196 then some ⟨jB,res2,qY m⟩else
 bif Nat.beq f 62 then some ⟨tC,res1,zR m⟩else
 bif Nat.beq f 98 then some ⟨dV,Yq,zY m⟩else
 bif Nat.beq f 13 then some ⟨ahh,cK,qX m⟩else
 bif Nat.beq f 54 then some ⟨dV,res1,yN m⟩else
 bif Nat.beq f 55 then some ⟨dV,res1,yO m⟩else
 bif Nat.beq f 56 then some ⟨M8,cK,qD m⟩else
 bif Nat.beq f 218 then some ⟨tH,res1,z7 m⟩else
 bif Nat.beq f 219 then some ⟨tH,res1,z8 m⟩else
 bif Nat.beq f 220 then some ⟨jB,cK,utf8_ValidString⟩else
 bif Nat.beq f 221 then some ⟨ahi,cK,qH m⟩else
 bif Nat.beq f 240 then some ⟨tF,res1,qZ m⟩else
 bif Nat.beq f 128 then some ⟨tF,cK,yP m⟩else
 bif Nat.beq f 136 then some ⟨dV,Na,qI m⟩else
 bif Nat.beq f 92 then some ⟨tH,res1,qO m⟩else
 bif Nat.beq f 93 then some ⟨tH,res1,zE m⟩else
 bif Nat.beq f 94 then some ⟨jB,cK,qP m⟩else
 bif Nat.beq f 95 then some ⟨M8,cK,qG m⟩else
 bif Nat.beq f 238 then some ⟨jB,cK,qN m⟩else
 bif Nat.beq f 191 then some ⟨tF,Na,zF m⟩else
 bif Nat.beq f 133 then some ⟨dV,U8,qR m⟩else
 bif Nat.beq f 134 then some ⟨ahj,cK,zC m⟩else
 bif Nat.beq f 135 then some ⟨jB,cK,qV m⟩else
 none
noncomputable def ctX{R:Type}(m:Nat)(f:FuncId)(args:List AV)(objs:List Ob)(K:Res->Option R):Option R:=
 bif Nat.beq f 68 then aul m args objs K else
 bif Nat.beq f 99 then aum m args objs K else
 bif Nat.beq f 69 then aun m args objs K else
 bif Nat.beq f 102 then ahN m args objs K else
 bif Nat.beq f 140 then ahO m args objs K else
 bif Nat.beq f 103 then ahP m args objs K else
 bif Nat.beq f 142 then ahQ m args objs K else
 bif Nat.beq f 194 then ahR m args objs K else
 bif Nat.beq f 229 then ahS m args objs K else
 bif Nat.beq f 195 then ahT m args objs K else
 bif Nat.beq f 70 then auo m args objs K else
 bif Nat.beq f 156 then ahU m args objs K else
 bif Nat.beq f 192 then ahV m args objs K else
 bif Nat.beq f 226 then ahW m args objs K else
 bif Nat.beq f 227 then ahX m args objs K else
 bif Nat.beq f 234 then ahY m args objs K else
 bif Nat.beq f 235 then ahZ m args objs K else
 bif Nat.beq f 236 then ah0 m args objs K else
 none
noncomputable def ct{R:Type}(m:Nat)(f:FuncId)(args:List AV)(objs:List Ob)(K:Res->Option R):Option R:=match ctE m f with
 |some e=>e.run args objs K
 |none=>ctX m f args objs K
section
variable{R:Type}{P:Program}{E:Env}{call:FuncId->List AV->List Ob->(Res->Option R)->Option R}{m n M:Nat}{f:FuncId}{fn:Func}{dec:Res->Option R}{p ms:List Nat}{σ:St}{g:(Nat->Nat->Nat->St->Option R->Option R)->Option R}{r:Option R}
theorem tq(e:g jn=r)(h:∀J,evAt P E call J m f n fn dec p ms σ=g J:=by intro J;kernel_rfl):evAt P E call jn m f n fn dec p ms σ=r:=(h jn).trans e
theorem tl(e:g jn=r)(h:∀J,loopAt P E call J m f n fn dec p ms M σ=g J:=by intro J;kernel_rfl):loopAt P E call jn m f n fn dec p ms M σ=r:=(h jn).trans e
end
end Go.Proofs.YtmecfjhdnbgfeaaGreatDoor
namespace Go.Proofs.YtmecfjhdnbgfeaaGreatDoor
open Nat (succ)
open IntKind (wrap)
open Go.Am Dt
set_option maxRecDepth 100000
def ap8:List Nat:=[1,1,1,1,1]
def ap9:List Nat:=[1,1,1,0,1]
def Nn:List Nat:=[1,1,1,0,1,0]
def ah1:List Nat:=[1,1,1,1,0,1]
def Np:List Nat:=ah1++[0]
def ah2:List Nat:=Nn++[0,1,1]
def aqa:List Nat:=ah2++[1]
def ah3:List Nat:=Np++[0,1,1]
def aqb:List Nat:=ah3++[1]
noncomputable def e11(J:Q6)(m:Nat):=evAt Tryz.prog env (ct m) J (m+1) 58 46 Tryz.f58 d11
noncomputable def l11(J:Q6)(m:Nat):=loopAt Tryz.prog env (ct m) J (m+1) 58 46 Tryz.f58 d11
noncomputable def oq(a:List Dt)(b c:Int)(d e:Dt)(f g:Int)(h:ByteArray)(i j:List Dt):St:=⟨tsOf [(1,.ptr 0 [] 0),(2,.ptr 1 [] 0),(3,.ptr 2 [] 0),(12,.dat 23 (.lst a)),(13,.dat 3 (.int b)),(14,.dat 3 (.int c))],[.box 26 (.dat 26 d),.box 26 (.dat 26 e),.box 26 (.agg 26 [.dat 3 (.int f),.dat 3 (.int g),.dat 9 (.str h),.row 3,.row 4]),.row 23 i,.row 24 j],0⟩
noncomputable def ou(a:List Dt)(b c:Int)(d:Dt)(e f:Int)(g:ByteArray)(h i:List Dt):St:=⟨tsOf [(2,.ptr 0 [] 0),(3,.ptr 1 [] 0),(27,.dat 24 (.lst a)),(28,.dat 3 (.int b)),(29,.dat 3 (.int c))],[.box 26 (.dat 26 d),.box 26 (.agg 26 [.dat 3 (.int e),.dat 3 (.int f),.dat 9 (.str g),.row 2,.row 3]),.row 23 h,.row 24 i],0⟩
noncomputable def aqc(a:Dt)(b c:Int)(d:ByteArray)(e f:List Dt):St:=⟨tsOf [(2,.ptr 0 [] 0),(3,.ptr 1 [] 0)],[.box 26 (.dat 26 a),.box 26 (.agg 26 [.dat 3 (.int b),.dat 3 (.int c),.dat 9 (.str d),.row 2,.row 3]),.row 23 e,.row 24 f],0⟩
noncomputable def aqd(a b:Dt)(c d:Int)(e:ByteArray)(f g:List Dt):St:=⟨tsOf [(1,.ptr 0 [] 0),(2,.ptr 1 [] 0),(3,.ptr 2 [] 0)],[.box 26 (.dat 26 a),.box 26 (.dat 26 b),.box 26 (.agg 26 [.dat 3 (.int c),.dat 3 (.int d),.dat 9 (.str e),.row 3,.row 4]),.row 23 f,.row 24 g],0⟩
abbrev aqe(m l:Nat)(a:Q53):Prop:=∀b c d e f g h i j k,l11 jn m Nn [] l (oq b c d e f g h i j k)=a b c d e f g h i j k
theorem ah4 m b a(o:aqe m b a) c d e f h i j k l n:e11 jn m aqa [b] (oq c d e f h i j k l n)=ZH m (qB m) a c d e f h i j k l n:=
 tq (g:=fun J=>jj J 1 4 b (oq c d (wrap .i64 (e+1)) f h i j k l n) (l11 J m Nn [] b)) (by simp only[au,o];rfl)
theorem ah5 m b a(o:aqe m b a) c e d f h i j k l n:e11 jn m ah2 [b] (oq c e d f h i j k l n)=ZI m (qB m) a c e d f h i j k l n:=
 tq (g:=fun J=>(idx c d).bind fun p=>(qB m p).bind fun q=>(app l [q]).bind fun r=>jj J 0 7 0 (oq c e d f h i j k r n) (e11 J m aqa [b])) (by simp only[au,ah4 m b a o];rfl)
abbrev aqf(m k:Nat)(a:Q20):Prop:=∀b c d e f g h i j,l11 jn m Np [] k (ou b c d e f g h i j)=a b c d e f g h i j
theorem ah6 m b a(n:aqf m b a) c d e f h i j k l:e11 jn m aqb [b] (ou c d e f h i j k l)=ZJ m (qB m) a c d e f h i j k l:=
 tq (g:=fun J=>jj J 1 9 b (ou c d (wrap .i64 (e+1)) f h i j k l) (l11 J m Np [] b)) (by simp only[au,n];rfl)
theorem ah7 m b a(o:aqf m b a) c e d f h i j k l:e11 jn m ah3 [b] (ou c e d f h i j k l)=ZK m (qB m) a c e d f h i j k l:=
 tq (g:=fun J=>(idx c d).bind fun n=>(qB m (fld n 1)).bind fun p=>(app l [agg [str (S n 0),p]]).bind fun q=>jj J 0 12 0 (ou c e d f h i j k q) (e11 J m aqb [b])) (by simp only[au,ah6 m b a o];rfl)
theorem ah8 m f a b c d e:e11 jn m ap8 [] (aqc f a b c d e)=ZL m (qB m) f a b c d e:=
 tq (g:=fun J=>some (agg [int a,int b,str c,lst d,lst e])) (by rfl)
theorem Nq m:∀a k b c d e f h i j,l11 jn m Np [] a (ou k b c d e f h i j)=Ed m (qB m) a k b c d e f h i j
 |0,_,_,_,_,_,_,_,_,_=>rfl
 |a+1,k,b,c,d,e,f,h,i,j=>
  tl (g:=fun J=>cond (c<b) (jj J 0 10 0 (ou k b c d e f h i j) (e11 J m ah3 [a])) (jj J 0 13 0 (aqc d e f h i j) (e11 J m ap8 []))) (by simp only[au,ah7 m a (Ed m (qB m) a) (Nq m a),ah8 m];rfl)
theorem ah9 m a b c d e f h i j:e11 jn m ah1 [] (ou a b c d e f h i j)=anZ m (qB m) a b c d e f h i j:=
 tq (g:=fun J=>jj J 1 9 (succ m) (ou a b c d e f h i j) (l11 J m Np [] (succ m))) (by simp only[au,Nq m];rfl)
theorem aia m a b c d e f h:e11 jn m [1,1,1,1] [] (aqd a b c d e f h)=ZM m (qB m) a b c d e f h:=
 tq (g:=fun J=>jj J 0 9 0 (ou (L a 4) ((L a 4).length:Int) 0 b c d e f h) (e11 J m ah1 [])) (by simp only[au,ah9 m];rfl)
theorem Nr m:∀a l b c d e f h i j k,l11 jn m Nn [] a (oq l b c d e f h i j k)=yu m (qB m) a l b c d e f h i j k
 |0,_,_,_,_,_,_,_,_,_,_=>rfl
 |a+1,l,b,c,d,e,f,h,i,j,k=>
  tl (g:=fun J=>cond (c<b) (jj J 0 5 0 (oq l b c d e f h i j k) (e11 J m ah2 [a])) (jj J 0 8 0 (aqd d e f h i j k) (e11 J m [1,1,1,1] []))) (by simp only[au,ah5 m a (yu m (qB m) a) (Nr m a),aia m];rfl)
theorem aib m a b c d e f h i j k:e11 jn m ap9 [] (oq a b c d e f h i j k)=an0 m (qB m) a b c d e f h i j k:=
 tq (g:=fun J=>jj J 1 4 (succ m) (oq a b c d e f h i j k) (l11 J m Nn [] (succ m))) (by simp only[au,Nr m];rfl)
theorem axn m a:e11 jn m [] [] ⟨[.dat 26 a],[],0⟩=qB (m+1) a:=
 tq (g:=fun J=>jj J 0 4 0 (oq (L a 3) ((L a 3).length:Int) 0 a aX (I a 0) (I a 1) (S a 2) [] []) (e11 J m ap9 [])) (by simp only[au,aib m];rfl)
noncomputable def e26(J:Q78)(m:Nat):=evAt Tryz.prog env (ct m) J (m+1) 195 7 Tryz.f195 d26
theorem aup m b a:e26 jn m [] [] ⟨[.dat 3 (.int b),.ptr 0 [] 0],[.box 3 (.dat 3 (.int a))],1⟩=i26 (m+1) b a:=
 tq (g:=fun J=>some (b==a,a)) (by rfl)
def aic:List Nat:=[1,0,1,0,0,1,1]
def aqg:List Nat:=aic++[1]
noncomputable def e25(J:Q79)(m:Nat):=evAt Tryz.prog env (ct m) J (m+1) 229 19 Tryz.f229 d25
noncomputable def l25(J:Q79)(m:Nat):=loopAt Tryz.prog env (ct m) J (m+1) 229 19 Tryz.f229 d25
noncomputable def ow(a b:Int)(c:List Dt)(d:Int):St:=⟨tsOf [(0,.row 0),(1,(.fn 195 [.ptr 1 [] 0])),(7,.dat 3 (.int a)),(8,.dat 3 (.int b))],[.row 75 c,.box 3 (.dat 3 (.int d))],2⟩
noncomputable def aqh(a:List Dt)(b:Int):St:=⟨tsOf [],[.row 75 a,.box 3 (.dat 3 (.int b))],2⟩
abbrev aqi(m f:Nat)(a:Q54):Prop:=∀b c d e,l25 jn m [1,0,1,0] [] f (ow b c d e)=a b c d e
theorem Yu m b a(h:aqi m b a) c d e f:e25 jn m aqg [b] (ow c d e f)=yw m a c d e f:=
 tq (g:=fun J=>jj J 1 2 b (ow c (wrap .i64 (d+1)) e f) (l25 J m [1,0,1,0] [] b)) (by simp only[au,h];rfl)
theorem Yv m d a(i:aqi m d a) e b c f:e25 jn m aic [d] (ow e b c f)=Pk m a e b c f:=
 tq (g:=fun J=>(inL c b).bind fun k=>(c[b.toNat]?).bind fun j=>(i26 m (toInt j) f).bind fun h=>cond h.1 (some (b,c,h.2)) (jj J 0 6 0 (ow e b c h.2) (e25 J m aqg [d]))) (by simp only[au,Yu m d a i];rfl)
theorem Yw m a b:e25 jn m [1,1] [] (aqh a b)=ZN m a b:=
 tq (g:=fun J=>some ((-1),a,b)) (by rfl)
theorem Gy m:∀a b c d e,l25 jn m [1,0,1,0] [] a (ow b c d e)=jE m a b c d e
 |0,_,_,_,_=>rfl
 |a+1,b,c,d,e=>
  tl (g:=fun J=>cond (c<b) (jj J 0 3 0 (ow b c d e) (e25 J m aic [a])) (jj J 0 7 0 (aqh d e) (e25 J m [1,1] []))) (by simp only[au,Yv m a (jE m a) (Gy m a),Yw m];rfl)
theorem Yx m a b c d:e25 jn m [1,0,1] [] (ow a b c d)=ZO m a b c d:=
 tq (g:=fun J=>jj J 1 2 (succ m) (ow a b c d) (l25 J m [1,0,1,0] [] (succ m))) (by simp only[au,Gy m];rfl)
theorem auq m a b:e25 jn m [] [] ⟨[.row 0,(.fn 195 [.ptr 1 [] 0])],[.row 75 a,.box 3 (.dat 3 (.int b))],2⟩=i25 (m+1) a b:=
 tq (g:=fun J=>jj J 0 2 0 (ow (a.length:Int) 0 a b) (e25 J m [1,0,1] [])) (by simp only[au,Yx m];rfl)
def aqj:List Nat:=[1,1,1,0,1]
def Ns:List Nat:=[1,1,1,0,1,0]
def aie:List Nat:=Ns++[0,1]
def aif:List Nat:=aie++[1]
noncomputable def e24(J:Q80)(m:Nat):=evAt Tryz.prog env (ct m) J (m+1) 194 42 Tryz.f194 d24
noncomputable def l24(J:Q80)(m:Nat):=loopAt Tryz.prog env (ct m) J (m+1) 194 42 Tryz.f194 d24
noncomputable def mK(a b c:Int)(d:List Dt):St:=⟨tsOf [(0,.row 2),(1,(.fn 195 [.ptr 1 [] 0])),(5,.dat 3 (.int a)),(6,.dat 3 (.int b))],[.gone,.box 3 (.dat 3 (.int c)),.row 75 d],2⟩
noncomputable def aqk(a b:Int)(c:List Dt):St:=⟨tsOf [(0,.row 2),(5,.dat 3 (.int a))],[.gone,.box 3 (.dat 3 (.int b)),.row 75 c],2⟩
noncomputable def aql(a b:Int)(c:List Dt):St:=⟨tsOf [(0,.row 2),(1,(.fn 195 [.ptr 1 [] 0])),(5,.dat 3 (.int a))],[.gone,.box 3 (.dat 3 (.int b)),.row 75 c],2⟩
abbrev aqm(m f:Nat)(a:Q55):Prop:=∀b c d e,l24 jn m Ns [] f (mK b c d e)=a b c d e
theorem Yy m b a(h:aqm m b a) c d e f:e24 jn m aif [b] (mK c d e f)=pQ m a c d e f:=
 tq (g:=fun J=>jj J 1 5 b (mK c (wrap .i64 (d+1)) e f) (l24 J m Ns [] b)) (by simp only[au,h];rfl)
theorem Yz m e a(j:aqm m e a) c d f b:e24 jn m aie [e] (mK c d f b)=Pm m a c d f b:=
 tq (g:=fun J=>(inL b d).bind fun k=>(b[d.toNat]?).bind fun i=>(i26 m (toInt i) f).bind fun h=>cond (!h.1) ((inL b c).bind fun l=>(b[c.toNat]?).bind fun n=>jj J 0 6 0 (mK (wrap .i64 (c+1)) d h.2 (List.set b c.toNat (int (toInt i)))) (e24 J m aif [e])) (jj J 0 6 0 (mK c d h.2 b) (e24 J m aif [e]))) (by simp only[au,Yy m e a j];rfl)
theorem YA m a c b:e24 jn m [1,1,1,1] [] (aqk a c b)=Pn m a c b:=
 tq (g:=fun J=>(cutL b a (b.length:Int)).bind fun e=>cond (Nat.ble a.toNat b.length) ((cutL (List.take a.toNat b++List.replicate (b.length-a.toNat) (int 0)) 0 a).bind fun d=>some (c,d)) none) (by rfl)
theorem Gz m:∀a c d e b,l24 jn m Ns [] a (mK c d e b)=kF m a c d e b
 |0,_,_,_,_=>rfl
 |a+1,c,d,e,b=>
  tl (g:=fun J=>cond (d<(b.length:Int)) (jj J 0 7 0 (mK c d e b) (e24 J m aie [a])) (jj J 0 11 0 (aqk c e b) (e24 J m [1,1,1,1] []))) (by simp only[au,Yz m a (kF m a) (Gz m a),YA m];rfl)
theorem YB m a b c d:e24 jn m aqj [] (mK a b c d)=ZP m a b c d:=
 tq (g:=fun J=>jj J 1 5 (succ m) (mK a b c d) (l24 J m Ns [] (succ m))) (by simp only[au,Gz m];rfl)
theorem YC m a b c:e24 jn m [1,1,1] [] (aql a b c)=Po m a b c:=
 tq (g:=fun J=>jj J 0 5 0 (mK a (wrap .i64 (a+1)) b c) (e24 J m aqj [])) (by simp only[au,YB m];rfl)
theorem aur m b c:e24 jn m [] [] ⟨[.row 0,(.fn 195 [.ptr 1 [] 0])],[.row 75 b,.box 3 (.dat 3 (.int c))],2⟩=i24 (m+1) b c:=
 tq (g:=fun J=>(i25 m b c).bind fun a=>cond (a.1==(-1)) (some (a.2.2,a.2.1)) (jj J 0 4 0 (aql a.1 a.2.2 a.2.1) (e24 J m [1,1,1] []))) (by simp only[au,YC m];rfl)
def aii:List Nat:=[1,0,1,0,0,1,1]
def aqn:List Nat:=aii++[1]
noncomputable def e40(J:Q1)(m:Nat):=evAt Tryz.prog env (ct m) J (m+1) 144 20 Tryz.f144 d40
noncomputable def l40(J:Q1)(m:Nat):=loopAt Tryz.prog env (ct m) J (m+1) 144 20 Tryz.f144 d40
noncomputable def oz(a:List Dt)(b:ByteArray)(c d:Int):St:=⟨tsOf [(0,.dat 24 (.lst a)),(1,.dat 9 (.str b)),(7,.dat 3 (.int c)),(8,.dat 3 (.int d))],[],0⟩
noncomputable def aqo:St:=⟨tsOf [],[],0⟩
abbrev aqp(m f:Nat)(a:Q56):Prop:=∀b c d e,l40 jn m [1,0,1,0] [] f (oz b c d e)=a b c d e
theorem aij m b a(h:aqp m b a) c d e f:e40 jn m aqn [b] (oz c d e f)=ZQ m a c d e f:=
 tq (g:=fun J=>jj J 1 2 b (oz c d e (wrap .i64 (f+1))) (l40 J m [1,0,1,0] [] b)) (by simp only[au,h];rfl)
theorem aik m c a(h:aqp m c a) d e f b:e40 jn m aii [c] (oz d e f b)=ZR m a d e f b:=
 tq (g:=fun J=>(idx d b).bind fun i=>cond ((S i 0).toList==e.toList) (some b) (jj J 0 6 0 (oz d e f b) (e40 J m aqn [c]))) (by simp only[au,aij m c a h];rfl)
theorem ail m:e40 jn m [1,1] [] aqo=ZT m:=
 tq (g:=fun J=>some (-1)) (by rfl)
theorem Nt m:∀a d e b c,l40 jn m [1,0,1,0] [] a (oz d e b c)=Ee m a d e b c
 |0,_,_,_,_=>rfl
 |a+1,d,e,b,c=>
  tl (g:=fun J=>cond (c<b) (jj J 0 3 0 (oz d e b c) (e40 J m aii [a])) (jj J 0 7 0 aqo (e40 J m [1,1] []))) (by simp only[au,aik m a (Ee m a) (Nt m a),ail m];rfl)
theorem ain m a b c d:e40 jn m [1,0,1] [] (oz a b c d)=an1 m a b c d:=
 tq (g:=fun J=>jj J 1 2 (succ m) (oz a b c d) (l40 J m [1,0,1,0] [] (succ m))) (by simp only[au,Nt m];rfl)
theorem axo m a b:e40 jn m [] [] ⟨[.dat 24 (.lst a),.dat 9 (.str b)],[],0⟩=zM (m+1) a b:=
 tq (g:=fun J=>jj J 0 2 0 (oz a b (a.length:Int) 0) (e40 J m [1,0,1] [])) (by simp only[au,ain m];rfl)
def aqr:List Nat:=[1,1,1,0,1]
def Nu:List Nat:=[1,1,1,0,1,0]
def Nv:List Nat:=Nu++[0,1,1]
def aqs:List Nat:=Nv++[1]
def aqt:List Nat:=Nv++[0,0,1,1]
def aio:List Nat:=Nv++[0,0,1,0,1]
noncomputable def e41(J:Q49)(m:Nat):=evAt Tryz.prog env (ct m) J (m+1) 145 49 Tryz.f145 d41
noncomputable def l41(J:Q49)(m:Nat):=loopAt Tryz.prog env (ct m) J (m+1) 145 49 Tryz.f145 d41
noncomputable def oC(a:ByteArray)(b c d:Int):St:=⟨tsOf [(0,.dat 9 (.str a)),(4,.dat 3 (.int b)),(25,.dat 3 (.int c)),(26,.dat 3 (.int d))],[],0⟩
noncomputable def aqu(a:ByteArray)(b c d e:Int):St:=⟨tsOf [(0,.dat 9 (.str a)),(4,.dat 3 (.int b)),(5,.dat 3 (.int c)),(25,.dat 3 (.int d)),(26,.dat 3 (.int e))],[],0⟩
noncomputable def aip(a:ByteArray)(b c d e:Int)(f:Bool):St:=⟨tsOf [(0,.dat 9 (.str a)),(4,.dat 3 (.int b)),(5,.dat 3 (.int c)),(25,.dat 3 (.int d)),(26,.dat 3 (.int e)),(38,.dat 4 (.bool f))],[],0⟩
noncomputable def aqv(a:Int):St:=⟨tsOf [(4,.dat 3 (.int a))],[],0⟩
noncomputable def aqw(a:ByteArray):St:=⟨tsOf [(0,.dat 9 (.str a))],[],0⟩
noncomputable def Nw(a:ByteArray)(b:Bool):St:=⟨tsOf [(0,.dat 9 (.str a)),(23,.dat 4 (.bool b))],[],0⟩
abbrev Vn(m f:Nat)(a:Q37):Prop:=∀b c d e,l41 jn m Nu [] f (oC b c d e)=a b c d e
theorem aiq m b a(h:Vn m b a) c d e f:e41 jn m aqs [b] (oC c d e f)=ZU m a c d e f:=
 tq (g:=fun J=>jj J 1 5 b (oC c d e (wrap .i64 (f+1))) (l41 J m Nu [] b)) (by simp only[au,h];rfl)
theorem air m b a(i:Vn m b a) c d e f h:e41 jn m aqt [b] (aqu c d e f h)=ZV m a c d e f h:=
 tq (g:=fun J=>(idxS c e).bind fun j=>jj J 0 10 0 (oC c (wrap .i64 (wrap .i64 (10*d)+wrap .i64 (wrap IntKind.u8 (j-48)))) f h) (e41 J m aqs [b])) (by simp only[au,aiq m b a i];rfl)
theorem ais m b a(j:Vn m b a) c d e f h i:e41 jn m aio [b] (aip c d e f h i)=RY m a c d e f h i:=
 tq (g:=fun J=>cond i (some (0,false)) (jj J 0 9 0 (aqu c d e f h) (e41 J m aqt [b]))) (by simp only[au,air m b a j];rfl)
theorem ait m d a(h:Vn m d a) c e f b:e41 jn m Nv [d] (oC c e f b)=ZW m a c e f b:=
 tq (g:=fun J=>(idxS c b).bind fun i=>cond (i<48) (jj J 0 8 0 (aip c e b f b true) (e41 J m aio [d])) ((idxS c b).bind fun j=>jj J 0 8 0 (aip c e b f b (decide (57<j))) (e41 J m aio [d]))) (by simp only[au,ais m d a h];rfl)
theorem aiu m a:e41 jn m [1,1,1,1] [] (aqv a)=an2 m a:=
 tq (g:=fun J=>some (a,true)) (by rfl)
theorem Ny m:∀a e b c d,l41 jn m Nu [] a (oC e b c d)=Ef m a e b c d
 |0,_,_,_,_=>rfl
 |a+1,e,b,c,d=>
  tl (g:=fun J=>cond (d<c) (jj J 0 6 0 (oC e b c d) (e41 J m Nv [a])) (jj J 0 11 0 (aqv b) (e41 J m [1,1,1,1] []))) (by simp only[au,ait m a (Ef m a) (Ny m a),aiu m];rfl)
theorem aiv m a b c d:e41 jn m aqr [] (oC a b c d)=an3 m a b c d:=
 tq (g:=fun J=>jj J 1 5 (succ m) (oC a b c d) (l41 J m Nu [] (succ m))) (by simp only[au,Ny m];rfl)
theorem aiw m a:e41 jn m [1,1] [] (aqw a)=an4 m a:=
 tq (g:=fun J=>jj J 0 5 0 (oC a 0 (a.size:Int) 0) (e41 J m aqr [])) (by simp only[au,aiv m];rfl)
theorem aix m a b:e41 jn m [1,0,1] [] (Nw a b)=Eh m a b:=
 tq (g:=fun J=>cond b (some (0,false)) (jj J 0 3 0 (aqw a) (e41 J m [1,1] []))) (by simp only[au,aiw m];rfl)
theorem axp m a:e41 jn m [] [] ⟨[.dat 9 (.str a)],[],0⟩=zB (m+1) a:=
 tq (g:=fun J=>cond ((a.size:Int)<1) (jj J 0 2 0 (Nw a true) (e41 J m [1,0,1] [])) (bif 4<(a.size:Int)then jj J 0 2 0 (Nw a true) (e41 J m [1,0,1] [])else(idxS a 0).bind fun b=>cond (b==48) (jj J 0 2 0 (Nw a (decide (1<(a.size:Int)))) (e41 J m [1,0,1] [])) (jj J 0 2 0 (Nw a false) (e41 J m [1,0,1] [])))) (by simp only[au,aix m];rfl)
def aiy:List Nat:=[1,1,0,1,0,1,1]
def Nz:List Nat:=aiy++[0]
def NA:List Nat:=[1,1,1,0,1,0,1,1]
def tN:List Nat:=NA++[0]
def aiz:List Nat:=Nz++[0,1,1]
def aqx:List Nat:=aiz++[1]
def NC:List Nat:=tN++[0,1,1]
def Vo:List Nat:=NC++[1]
noncomputable def e42(J:Q6)(m:Nat):=evAt Tryz.prog env (ct m) J (m+1) 146 68 Tryz.f146 d11
noncomputable def l42(J:Q6)(m:Nat):=loopAt Tryz.prog env (ct m) J (m+1) 146 68 Tryz.f146 d11
noncomputable def oD(a:List Dt)(b c:Int)(d e:Dt)(f g:Int)(h:ByteArray)(i:List Dt):St:=⟨tsOf [(1,.ptr 0 [] 0),(2,.ptr 1 [] 0),(3,.ptr 2 [] 0),(25,.dat 23 (.lst a)),(26,.dat 3 (.int b)),(27,.dat 3 (.int c))],[.box 26 (.dat 26 d),.box 26 (.dat 26 e),.box 26 (.agg 26 [.dat 3 (.int f),.dat 3 (.int g),.dat 9 (.str h),.row 3,.nils 24]),.row 23 i],0⟩
noncomputable def oF(a:List Dt)(b c:Int)(d:Dt)(e f:Int)(g:ByteArray)(h i:List Dt):St:=⟨tsOf [(2,.ptr 0 [] 0),(3,.ptr 1 [] 0),(49,.dat 24 (.lst a)),(50,.dat 3 (.int b)),(51,.dat 3 (.int c))],[.box 26 (.dat 26 d),.box 26 (.agg 26 [.dat 3 (.int e),.dat 3 (.int f),.dat 9 (.str g),.row 2,.row 3]),.row 23 h,.row 24 i],0⟩
noncomputable def aqy(a:Dt)(b c:Int)(d:ByteArray)(e f:List Dt):St:=⟨tsOf [(2,.ptr 0 [] 0),(3,.ptr 1 [] 0)],[.box 26 (.dat 26 a),.box 26 (.agg 26 [.dat 3 (.int b),.dat 3 (.int c),.dat 9 (.str d),.row 2,.row 3]),.row 23 e,.row 24 f],0⟩
noncomputable def aiA(a:Dt)(b c:Int)(d:ByteArray)(e:List Dt):St:=⟨tsOf [(2,.ptr 0 [] 0),(3,.ptr 1 [] 0)],[.box 26 (.dat 26 a),.box 26 (.agg 26 [.dat 3 (.int b),.dat 3 (.int c),.dat 9 (.str d),.row 2,.nils 24]),.row 23 e],0⟩
noncomputable def aqz(a b:Dt)(c d:Int)(e:ByteArray)(f:List Dt):St:=⟨tsOf [(1,.ptr 0 [] 0),(2,.ptr 1 [] 0),(3,.ptr 2 [] 0)],[.box 26 (.dat 26 a),.box 26 (.dat 26 b),.box 26 (.agg 26 [.dat 3 (.int c),.dat 3 (.int d),.dat 9 (.str e),.row 3,.nils 24]),.row 23 f],0⟩
noncomputable def jN(a:List Dt)(b c:Int)(d:Dt)(e f:Int)(g:ByteArray)(h i:List Dt):St:=⟨tsOf [(2,.ptr 0 [] 0),(3,.ptr 1 [] 0),(49,.dat 24 (.lst a)),(50,.dat 3 (.int b)),(51,.dat 3 (.int c))],[.box 26 (.dat 26 d),.box 26 (.agg 26 [.dat 3 (.int e),.dat 3 (.int f),.dat 9 (.str g),.dat 23 (.lst h),.row 2]),.row 24 i],0⟩
noncomputable def aiB(a:Dt)(b c:Int)(d:ByteArray)(e f:List Dt):St:=⟨tsOf [(2,.ptr 0 [] 0),(3,.ptr 1 [] 0)],[.box 26 (.dat 26 a),.box 26 (.agg 26 [.dat 3 (.int b),.dat 3 (.int c),.dat 9 (.str d),.dat 23 (.lst e),.row 2]),.row 24 f],0⟩
noncomputable def aiC(a b:Dt):St:=⟨tsOf [(2,.ptr 0 [] 0),(3,.ptr 1 [] 0)],[.box 26 (.dat 26 a),.box 26 (.dat 26 b)],0⟩
noncomputable def aiD(a b c:Dt):St:=⟨tsOf [(1,.ptr 0 [] 0),(2,.ptr 1 [] 0),(3,.ptr 2 [] 0)],[.box 26 (.dat 26 a),.box 26 (.dat 26 b),.box 26 (.dat 26 c)],0⟩
abbrev aqA(m k:Nat)(a:Q57):Prop:=∀b c d e f g h i j,l42 jn m Nz [] k (oD b c d e f g h i j)=a b c d e f g h i j
theorem aiE m b a(n:aqA m b a) c d e f h i j k l:e42 jn m aqx [b] (oD c d e f h i j k l)=ZX m (qJ m) a c d e f h i j k l:=
 tq (g:=fun J=>jj J 1 5 b (oD c d (wrap .i64 (e+1)) f h i j k l) (l42 J m Nz [] b)) (by simp only[au,n];rfl)
theorem aiF m d a(n:aqA m d a) e f b h i j k l c:e42 jn m aiz [d] (oD e f b h i j k l c)=ZY m (qJ m) a e f b h i j k l c:=
 tq (g:=fun J=>(idx e b).bind fun o=>(qJ m o).bind fun p=>(inL c b).bind fun q=>(c[b.toNat]?).bind fun r=>jj J 0 8 0 (oD e f b h i j k l (List.set c b.toNat p)) (e42 J m aqx [d])) (by simp only[au,aiE m d a n];rfl)
abbrev aqB(m k:Nat)(a:Q20):Prop:=∀b c d e f g h i j,l42 jn m tN [] k (oF b c d e f g h i j)=a b c d e f g h i j
theorem aiG m b a(n:aqB m b a) c d e f h i j k l:e42 jn m Vo [b] (oF c d e f h i j k l)=Z0 m (qJ m) a c d e f h i j k l:=
 tq (g:=fun J=>jj J 1 12 b (oF c d (wrap .i64 (e+1)) f h i j k l) (l42 J m tN [] b)) (by simp only[au,n];rfl)
theorem aiH m d a(o:aqB m d a) e f b h i j k l c:e42 jn m NC [d] (oF e f b h i j k l c)=Z4 m (qJ m) a e f b h i j k l c:=
 tq (g:=fun J=>(idx e b).bind fun n=>(qJ m (fld n 1)).bind fun p=>(inL c b).bind fun q=>(c[b.toNat]?).bind fun r=>jj J 0 15 0 (oF e f b h i j k l (List.set c b.toNat (agg [str (S n 0),p]))) (e42 J m Vo [d])) (by simp only[au,aiG m d a o];rfl)
theorem aiI m f a b c d e:e42 jn m [1,1,1,1] [] (aqy f a b c d e)=Z5 m (qJ m) f a b c d e:=
 tq (g:=fun J=>some (agg [int a,int b,str c,lst d,lst e])) (by rfl)
theorem ND m:∀a k b c d e f h i j,l42 jn m tN [] a (oF k b c d e f h i j)=Ei m (qJ m) a k b c d e f h i j
 |0,_,_,_,_,_,_,_,_,_=>rfl
 |a+1,k,b,c,d,e,f,h,i,j=>
  tl (g:=fun J=>cond (c<b) (jj J 0 13 0 (oF k b c d e f h i j) (e42 J m NC [a])) (jj J 0 16 0 (aqy d e f h i j) (e42 J m [1,1,1,1] []))) (by simp only[au,aiH m a (Ei m (qJ m) a) (ND m a),aiI m];rfl)
theorem aiJ m a b c d e f h i j:e42 jn m NA [] (oF a b c d e f h i j)=an5 m (qJ m) a b c d e f h i j:=
 tq (g:=fun J=>jj J 1 12 (succ m) (oF a b c d e f h i j) (l42 J m tN [] (succ m))) (by simp only[au,ND m];rfl)
theorem YD m e a b c d:e42 jn m [1,1,1,1] [] (aiA e a b c d)=Z6 m (qJ m) e a b c d:=
 tq (g:=fun J=>some (agg [int a,int b,str c,lst d,lst []])) (by rfl)
theorem aiK m a b c d e f:e42 jn m [1,1,1] [] (aqz a b c d e f)=Z7 m (qJ m) a b c d e f:=
 tq (g:=fun J=>bif 0<((L a 4).length:Int)then(mkL ((L a 4).length:Int) ((L a 4).length:Int) mW).bind fun h=>jj J 0 12 0 (oF (L a 4) ((L a 4).length:Int) 0 b c d e f h) (e42 J m NA [])else jj J 0 16 0 (aiA b c d e f) (e42 J m [1,1,1,1] [])) (by simp only[au,aiJ m,YD m];rfl)
theorem NG m:∀a k b c d e f h i j,l42 jn m Nz [] a (oD k b c d e f h i j)=yx m (qJ m) a k b c d e f h i j
 |0,_,_,_,_,_,_,_,_,_=>rfl
 |a+1,k,b,c,d,e,f,h,i,j=>
  tl (g:=fun J=>cond (c<b) (jj J 0 6 0 (oD k b c d e f h i j) (e42 J m aiz [a])) (jj J 0 9 0 (aqz d e f h i j) (e42 J m [1,1,1] []))) (by simp only[au,aiF m a (yx m (qJ m) a) (NG m a),aiK m];rfl)
theorem aiL m a b c d e f h i j:e42 jn m aiy [] (oD a b c d e f h i j)=an6 m (qJ m) a b c d e f h i j:=
 tq (g:=fun J=>jj J 1 5 (succ m) (oD a b c d e f h i j) (l42 J m Nz [] (succ m))) (by simp only[au,NG m];rfl)
abbrev aiM(m b:Nat)(a:Q20):Prop:=∀c d e f g h i j k,l42 jn m tN [] b (jN c d e f g h i j k)=a c d e f g h i j k
theorem YE m b a(c:aiM m b a) d e f h i j k l n:e42 jn m Vo [b] (jN d e f h i j k l n)=Pp m (qJ m) a d e f h i j k l n:=
 tq (g:=fun J=>jj J 1 12 b (jN d e (wrap .i64 (f+1)) h i j k l n) (l42 J m tN [] b)) (by simp only[au,c];rfl)
theorem YF m b a(h:aiM m b a) f i c j k l n o d:e42 jn m NC [b] (jN f i c j k l n o d)=Pq m (qJ m) a f i c j k l n o d:=
 tq (g:=fun J=>(idx f c).bind fun e=>(qJ m (fld e 1)).bind fun p=>(inL d c).bind fun q=>(d[c.toNat]?).bind fun r=>jj J 0 15 0 (jN f i c j k l n o (List.set d c.toNat (agg [str (S e 0),p]))) (e42 J m Vo [b])) (by simp only[au,YE m b a h];rfl)
theorem YG m f a b c d e:e42 jn m [1,1,1,1] [] (aiB f a b c d e)=Pv m (qJ m) f a b c d e:=
 tq (g:=fun J=>some (agg [int a,int b,str c,lst d,lst e])) (by rfl)
theorem GA m:∀a k b c d e f h i j,l42 jn m tN [] a (jN k b c d e f h i j)=uf m (qJ m) a k b c d e f h i j
 |0,_,_,_,_,_,_,_,_,_=>rfl
 |a+1,k,b,c,d,e,f,h,i,j=>
  tl (g:=fun J=>cond (c<b) (jj J 0 13 0 (jN k b c d e f h i j) (e42 J m NC [a])) (jj J 0 16 0 (aiB d e f h i j) (e42 J m [1,1,1,1] []))) (by simp only[au,YF m a (uf m (qJ m) a) (GA m a),YG m];rfl)
theorem YH m a b c d e f h i j:e42 jn m NA [] (jN a b c d e f h i j)=Z8 m (qJ m) a b c d e f h i j:=
 tq (g:=fun J=>jj J 1 12 (succ m) (jN a b c d e f h i j) (l42 J m tN [] (succ m))) (by simp only[au,GA m];rfl)
theorem YI m b a:e42 jn m [1,1,1,1] [] (aiC b a)=Z9 m (qJ m) b a:=
 tq (g:=fun J=>some a) (by rfl)
theorem YJ m a c b:e42 jn m [1,1,1] [] (aiD a c b)=aac m (qJ m) a c b:=
 tq (g:=fun J=>bif 0<((L a 4).length:Int)then(mkL ((L a 4).length:Int) ((L a 4).length:Int) mW).bind fun d=>jj J 0 12 0 (jN (L a 4) ((L a 4).length:Int) 0 c (I b 0) (I b 1) (S b 2) (L b 3) d) (e42 J m NA [])else jj J 0 16 0 (aiC c b) (e42 J m [1,1,1,1] [])) (by simp only[au,YH m,YI m];rfl)
theorem axq m a:e42 jn m [] [] ⟨[.dat 26 a],[],0⟩=qJ (m+1) a:=
 tq (g:=fun J=>bif 0<((L a 3).length:Int)then(mkL ((L a 3).length:Int) ((L a 3).length:Int) aX).bind fun b=>jj J 0 5 0 (oD (L a 3) ((L a 3).length:Int) 0 a aX (I a 0) (I a 1) (S a 2) b) (e42 J m aiy [])else jj J 0 9 0 (aiD a aX (agg [int (I a 0),int (I a 1),str (S a 2),lst [],lst []])) (e42 J m [1,1,1] [])) (by simp only[au,aiL m,YJ m];rfl)
def NH:List Nat:=[1,0,1,0,0,1,1]
def aqC:List Nat:=NH++[1]
def GD:List Nat:=NH++[0,0,1,1,1]
def aiN:List Nat:=NH++[0,0,1,1,0,1,0,1,1,1,0,1,1]
noncomputable def e14(J:Q6)(m:Nat):=evAt Tryz.prog env (ct m) J (m+1) 109 59 Tryz.f109 d11
noncomputable def l14(J:Q6)(m:Nat):=loopAt Tryz.prog env (ct m) J (m+1) 109 59 Tryz.f109 d11
noncomputable def oG(a:List Dt)(b c:Int)(d e:Dt):St:=⟨tsOf [(2,.ptr 0 [] 0),(4,.ptr 1 [] 0),(10,.dat 22 (.lst a)),(11,.dat 3 (.int b)),(12,.dat 3 (.int c))],[.box 26 (.dat 26 d),.box 26 (.dat 26 e)],0⟩
noncomputable def GH(a:Int)(b:List Dt)(c d:Int)(e f:Dt):St:=⟨tsOf [(2,.ptr 0 [] 0),(4,.ptr 1 [] 0),(7,.dat 3 (.int a)),(10,.dat 22 (.lst b)),(11,.dat 3 (.int c)),(12,.dat 3 (.int d))],[.box 26 (.dat 26 e),.box 26 (.dat 26 f)],0⟩
noncomputable def aiO(a b:Int)(c:List Dt)(d e:Int)(f:Bool)(g h:Dt):St:=⟨tsOf [(2,.ptr 0 [] 0),(4,.ptr 1 [] 0),(7,.dat 3 (.int a)),(8,.dat 3 (.int b)),(10,.dat 22 (.lst c)),(11,.dat 3 (.int d)),(12,.dat 3 (.int e)),(46,.dat 4 (.bool f))],[.box 26 (.dat 26 g),.box 26 (.dat 26 h)],0⟩
noncomputable def aqD(a b:Dt):St:=⟨tsOf [(2,.ptr 0 [] 0),(4,.ptr 1 [] 0)],[.box 26 (.dat 26 a),.box 26 (.dat 26 b)],0⟩
abbrev Vp(m g:Nat)(a:Q38):Prop:=∀b c d e f,l14 jn m [1,0,1,0] [] g (oG b c d e f)=a b c d e f
theorem aiP m b a(i:Vp m b a) c d e f h:e14 jn m aqC [b] (oG c d e f h)=RZ m a c d e f h:=
 tq (g:=fun J=>jj J 1 2 b (oG c d (wrap .i64 (e+1)) f h) (l14 J m [1,0,1,0] [] b)) (by simp only[au,i];rfl)
theorem NI m b a(j:Vp m b a) c d e f h i:e14 jn m GD [b] (GH c d e f h i)=kP m a c d e f h i:=
 tq (g:=fun J=>cond (c<0) (some aX) (jj J 0 17 0 (oG d e f h i) (e14 J m aqC [b]))) (by simp only[au,aiP m b a j];rfl)
theorem aiQ m b a(l:Vp m b a) j c d e f k h i:e14 jn m aiN [b] (aiO j c d e f k h i)=Ej m a j c d e f k h i:=
 tq (g:=fun J=>cond k ((idx (L h 3) c).bind fun n=>jj J 0 15 0 (GH c d e f n i) (e14 J m GD [b])) (jj J 0 15 0 (GH j d e f h i) (e14 J m GD [b]))) (by simp only[au,NI m b a l];rfl)
theorem aiR m c a(k:Vp m c a) d f e b h:e14 jn m NH [c] (oG d f e b h)=aad m a d f e b h:=
 tq (g:=fun J=>(idx d e).bind fun l=>cond (I b 0==5) ((zM m (L b 4) (toStr l)).bind fun i=>cond (0<=i) ((idx (L b 4) i).bind fun n=>jj J 0 15 0 (GH i d f e (fld n 1) h) (e14 J m GD [c])) (jj J 0 15 0 (GH i d f e b h) (e14 J m GD [c]))) (cond (I b 0==6) ((zB m (toStr l)).bind fun j=>cond j.2 (jj J 0 13 0 (aiO (-1) j.1 d f e (decide (j.1<((L b 3).length:Int))) b h) (e14 J m aiN [c])) (jj J 0 13 0 (aiO (-1) j.1 d f e false b h) (e14 J m aiN [c]))) (jj J 0 15 0 (GH (-1) d f e b h) (e14 J m GD [c])))) (by simp only[au,NI m c a k,aiQ m c a k];rfl)
theorem aiS m a b:e14 jn m [1,1] [] (aqD a b)=aae m a b:=
 tq (g:=fun J=>(qJ m a).bind fun c=>some c) (by rfl)
theorem NJ m:∀a f b c d e,l14 jn m [1,0,1,0] [] a (oG f b c d e)=El m a f b c d e
 |0,_,_,_,_,_=>rfl
 |a+1,f,b,c,d,e=>
  tl (g:=fun J=>cond (c<b) (jj J 0 3 0 (oG f b c d e) (e14 J m NH [a])) (jj J 0 18 0 (aqD d e) (e14 J m [1,1] []))) (by simp only[au,aiR m a (El m a) (NJ m a),aiS m];rfl)
theorem aiT m a b c d e:e14 jn m [1,0,1] [] (oG a b c d e)=an7 m a b c d e:=
 tq (g:=fun J=>jj J 1 2 (succ m) (oG a b c d e) (l14 J m [1,0,1,0] [] (succ m))) (by simp only[au,NJ m];rfl)
theorem axr m b a:e14 jn m [] [] ⟨[.dat 26 b,.dat 22 (.lst a)],[],0⟩=zL (m+1) b a:=
 tq (g:=fun J=>jj J 0 2 0 (oG a (a.length:Int) 0 b aX) (e14 J m [1,0,1] [])) (by simp only[au,aiT m];rfl)
def aiU:List Nat:=[1,1,0,1,0,1,1]
def NK:List Nat:=aiU++[0]
def aiV:List Nat:=[1,1,1,0,1,0,1,1]
def NM:List Nat:=aiV++[0]
def aiW:List Nat:=NK++[0,1,1]
def aqE:List Nat:=aiW++[1]
def aiX:List Nat:=NM++[0,1,1]
def aqF:List Nat:=aiX++[1]
noncomputable def e48(J:Q81)(m:Nat):=evAt Tryz.prog env (ct m) J (m+1) 156 68 Tryz.f156 d48
noncomputable def l48(J:Q81)(m:Nat):=loopAt Tryz.prog env (ct m) J (m+1) 156 68 Tryz.f156 d48
noncomputable def oH(a:List Dt)(b c:Int)(d e:Dt)(f g:Int)(h:ByteArray)(i j:List Dt):St:=⟨tsOf [(1,.ptr 0 [] 0),(2,.ptr 1 [] 0),(3,.ptr 2 [] 0),(25,.dat 23 (.lst a)),(26,.dat 3 (.int b)),(27,.dat 3 (.int c))],[.box 26 (.dat 26 d),.box 26 (.dat 26 e),.box 26 (.agg 26 [.dat 3 (.int f),.dat 3 (.int g),.dat 9 (.str h),.row 3,.row 4]),.row 23 i,.row 24 j],0⟩
noncomputable def oJ(a:List Dt)(b c:Int)(d:Dt)(e f:Int)(g:ByteArray)(h i:List Dt):St:=⟨tsOf [(2,.ptr 0 [] 0),(3,.ptr 1 [] 0),(49,.dat 24 (.lst a)),(50,.dat 3 (.int b)),(51,.dat 3 (.int c))],[.box 26 (.dat 26 d),.box 26 (.agg 26 [.dat 3 (.int e),.dat 3 (.int f),.dat 9 (.str g),.row 2,.row 3]),.row 23 h,.row 24 i],0⟩
noncomputable def aiY(a:Dt)(b c:Int)(d:ByteArray)(e f:List Dt):St:=⟨tsOf [(2,.ptr 0 [] 0),(3,.ptr 1 [] 0)],[.box 26 (.dat 26 a),.box 26 (.agg 26 [.dat 3 (.int b),.dat 3 (.int c),.dat 9 (.str d),.row 2,.row 3]),.row 23 e,.row 24 f],0⟩
noncomputable def aiZ(a b:Dt)(c d:Int)(e:ByteArray)(f g:List Dt):St:=⟨tsOf [(1,.ptr 0 [] 0),(2,.ptr 1 [] 0),(3,.ptr 2 [] 0)],[.box 26 (.dat 26 a),.box 26 (.dat 26 b),.box 26 (.agg 26 [.dat 3 (.int c),.dat 3 (.int d),.dat 9 (.str e),.row 3,.row 4]),.row 23 f,.row 24 g],0⟩
abbrev aqG(m l:Nat)(a:Q58):Prop:=∀b c d e f g h i j k,l48 jn m NK [] l (oH b c d e f g h i j k)=a b c d e f g h i j k
theorem ai0 m b a(o:aqG m b a) c d e f h i j k l n:e48 jn m aqE [b] (oH c d e f h i j k l n)=aaf m (qK m) a c d e f h i j k l n:=
 tq (g:=fun J=>jj J 1 5 b (oH c d (wrap .i64 (e+1)) f h i j k l n) (l48 J m NK [] b)) (by simp only[au,o];rfl)
theorem ai1 m e a(p:aqG m e a) f h b i j k l n c o:e48 jn m aiW [e] (oH f h b i j k l n c o)=aag m (qK m) a f h b i j k l n c o:=
 tq (g:=fun J=>(idx f b).bind fun q=>(qK m q).bind fun d=>(inL c b).bind fun r=>(c[b.toNat]?).bind fun s=>jj J 0 8 0 (oH f h b i j k l n (List.set c b.toNat (agg [int d.1,int d.2.1,str d.2.2.1,lst d.2.2.2.1,lst d.2.2.2.2])) o) (e48 J m aqE [e])) (by simp only[au,ai0 m e a p];rfl)
abbrev aqH(m k:Nat)(a:Q59):Prop:=∀b c d e f g h i j,l48 jn m NM [] k (oJ b c d e f g h i j)=a b c d e f g h i j
theorem ai2 m b a(n:aqH m b a) c d e f h i j k l:e48 jn m aqF [b] (oJ c d e f h i j k l)=aah m (qK m) a c d e f h i j k l:=
 tq (g:=fun J=>jj J 1 12 b (oJ c d (wrap .i64 (e+1)) f h i j k l) (l48 J m NM [] b)) (by simp only[au,n];rfl)
theorem ai3 m e a(p:aqH m e a) f h b i j k l n c:e48 jn m aiX [e] (oJ f h b i j k l n c)=aai m (qK m) a f h b i j k l n c:=
 tq (g:=fun J=>(idx f b).bind fun o=>(qK m (fld o 1)).bind fun d=>(inL c b).bind fun q=>(c[b.toNat]?).bind fun r=>jj J 0 15 0 (oJ f h b i j k l n (List.set c b.toNat (agg [str (S o 0),agg [int d.1,int d.2.1,str d.2.2.1,lst d.2.2.2.1,lst d.2.2.2.2]]))) (e48 J m aqF [e])) (by simp only[au,ai2 m e a p];rfl)
theorem NN m f a b c d e:e48 jn m [1,1,1,1] [] (aiY f a b c d e)=R3 m (qK m) f a b c d e:=
 tq (g:=fun J=>some (a,b,c,d,e)) (by rfl)
theorem NP m:∀a k b c d e f h i j,l48 jn m NM [] a (oJ k b c d e f h i j)=Em m (qK m) a k b c d e f h i j
 |0,_,_,_,_,_,_,_,_,_=>rfl
 |a+1,k,b,c,d,e,f,h,i,j=>
  tl (g:=fun J=>cond (c<b) (jj J 0 13 0 (oJ k b c d e f h i j) (e48 J m aiX [a])) (jj J 0 16 0 (aiY d e f h i j) (e48 J m [1,1,1,1] []))) (by simp only[au,ai3 m a (Em m (qK m) a) (NP m a),NN m];rfl)
theorem ai4 m a b c d e f h i j:e48 jn m aiV [] (oJ a b c d e f h i j)=an8 m (qK m) a b c d e f h i j:=
 tq (g:=fun J=>jj J 1 12 (succ m) (oJ a b c d e f h i j) (l48 J m NM [] (succ m))) (by simp only[au,NP m];rfl)
theorem NQ m a b c d e f h:e48 jn m [1,1,1] [] (aiZ a b c d e f h)=yR m (qK m) a b c d e f h:=
 tq (g:=fun J=>bif 0<((L a 4).length:Int)then(mkL ((L a 4).length:Int) ((L a 4).length:Int) mW).bind fun i=>jj J 0 12 0 (oJ (L a 4) ((L a 4).length:Int) 0 b c d e f i) (e48 J m aiV [])else jj J 0 16 0 (aiY b c d e f h) (e48 J m [1,1,1,1] [])) (by simp only[au,ai4 m,NN m];rfl)
theorem NR m:∀a l b c d e f h i j k,l48 jn m NK [] a (oH l b c d e f h i j k)=yS m (qK m) a l b c d e f h i j k
 |0,_,_,_,_,_,_,_,_,_,_=>rfl
 |a+1,l,b,c,d,e,f,h,i,j,k=>
  tl (g:=fun J=>cond (c<b) (jj J 0 6 0 (oH l b c d e f h i j k) (e48 J m aiW [a])) (jj J 0 9 0 (aiZ d e f h i j k) (e48 J m [1,1,1] []))) (by simp only[au,ai1 m a (yS m (qK m) a) (NR m a),NQ m];rfl)
theorem ai5 m a b c d e f h i j k:e48 jn m aiU [] (oH a b c d e f h i j k)=an9 m (qK m) a b c d e f h i j k:=
 tq (g:=fun J=>jj J 1 5 (succ m) (oH a b c d e f h i j k) (l48 J m NK [] (succ m))) (by simp only[au,NR m];rfl)
theorem axt m a:e48 jn m [] [] ⟨[.dat 26 a],[],0⟩=qK (m+1) a:=
 tq (g:=fun J=>bif 0<((L a 3).length:Int)then(mkL ((L a 3).length:Int) ((L a 3).length:Int) aX).bind fun b=>jj J 0 5 0 (oH (L a 3) ((L a 3).length:Int) 0 a aX (I a 0) (I a 1) (S a 2) b []) (e48 J m aiU [])else jj J 0 9 0 (aiZ a aX (I a 0) (I a 1) (S a 2) [] []) (e48 J m [1,1,1] [])) (by simp only[au,ai5 m,NQ m];rfl)
def Vq:List Nat:=[1,1,0,1,0]
def ai6:List Nat:=[1,1,0,1,0,0,1,1]
def aqI:List Nat:=ai6++[1]
noncomputable def e49(J:Q1)(m:Nat):=evAt Tryz.prog env (ct m) J (m+1) 157 25 Tryz.f157 d40
noncomputable def l49(J:Q1)(m:Nat):=loopAt Tryz.prog env (ct m) J (m+1) 157 25 Tryz.f157 d40
noncomputable def oK(a:ByteArray)(b c:Int)(d:Dt):St:=⟨tsOf [(1,.dat 9 (.str a)),(2,.ptr 0 [] 0),(11,.dat 3 (.int b)),(12,.dat 3 (.int c))],[.box 26 (.dat 26 d)],0⟩
noncomputable def aqJ:St:=⟨tsOf [],[],0⟩
noncomputable def aqK(a:ByteArray)(b:Dt):St:=⟨tsOf [(1,.dat 9 (.str a)),(2,.ptr 0 [] 0)],[.box 26 (.dat 26 b)],0⟩
abbrev aqL(m f:Nat)(a:Q60):Prop:=∀b c d e,l49 jn m Vq [] f (oK b c d e)=a b c d e
theorem ai7 m b a(h:aqL m b a) c d e f:e49 jn m aqI [b] (oK c d e f)=R4 m a c d e f:=
 tq (g:=fun J=>jj J 1 4 b (oK c d (wrap .i64 (e+1)) f) (l49 J m Vq [] b)) (by simp only[au,h];rfl)
theorem ai8 m c a(h:aqL m c a) d f b e:e49 jn m ai6 [c] (oK d f b e)=JF m a d f b e:=
 tq (g:=fun J=>(idx (L e 4) b).bind fun i=>cond ((S i 0).toList==d.toList) (some b) (jj J 0 8 0 (oK d f b e) (e49 J m aqI [c]))) (by simp only[au,ai7 m c a h];rfl)
theorem ai9 m:e49 jn m [1,1,1] [] aqJ=R5 m:=
 tq (g:=fun J=>some (-1)) (by rfl)
theorem NS m:∀a d b c e,l49 jn m Vq [] a (oK d b c e)=nK m a d b c e
 |0,_,_,_,_=>rfl
 |a+1,d,b,c,e=>
  tl (g:=fun J=>cond (c<b) (jj J 0 5 0 (oK d b c e) (e49 J m ai6 [a])) (jj J 0 9 0 aqJ (e49 J m [1,1,1] []))) (by simp only[au,ai8 m a (nK m a) (NS m a),ai9 m];rfl)
theorem aja m a b c d:e49 jn m [1,1,0,1] [] (oK a b c d)=aoa m a b c d:=
 tq (g:=fun J=>jj J 1 4 (succ m) (oK a b c d) (l49 J m Vq [] (succ m))) (by simp only[au,NS m];rfl)
theorem ajb m b a:e49 jn m [1,1] [] (aqK b a)=aob m b a:=
 tq (g:=fun J=>jj J 0 4 0 (oK b ((L a 4).length:Int) 0 a) (e49 J m [1,1,0,1] [])) (by simp only[au,aja m];rfl)
theorem axu m a b:e49 jn m [] [] ⟨[.dat 26 a,.dat 9 (.str b)],[],0⟩=zG (m+1) a b:=
 tq (g:=fun J=>cond (I a 0 !=5) (some (-1)) (jj J 0 3 0 (aqK b a) (e49 J m [1,1] []))) (by simp only[au,ajb m];rfl)
noncomputable def e27(J:Q6)(m:Nat):=evAt Tryz.prog env (ct m) J (m+1) 119 38 Tryz.f119 d11
noncomputable def Vr(a:ByteArray)(b c:Dt)(d e:Int)(f:ByteArray)(g h:List Dt):St:=⟨tsOf [(1,.dat 9 (.str a)),(5,.ptr 0 [] 0),(6,.ptr 1 [] 0),(7,.ptr 2 [] 0)],[.box 26 (.dat 26 b),.box 26 (.dat 26 c),.box 26 (.agg 26 [.dat 3 (.int d),.dat 3 (.int e),.dat 9 (.str f),.row 3,.row 4]),.row 23 g,.row 24 h],0⟩
theorem ajc m b c j d e f h i:e27 jn m [1,1,1,1] [] (Vr b c j d e f h i)=R6 m b c j d e f h i:=
 tq (g:=fun J=>(qK m c).bind fun a=>(app i [agg [str b,agg [int a.1,int a.2.1,str a.2.2.1,lst a.2.2.2.1,lst a.2.2.2.2]]]).bind fun k=>some (agg [int d,int e,str f,lst h,lst k])) (by rfl)
theorem ajd m h i k b c d e a:e27 jn m [1,1,1] [] (Vr h i k b c d e a)=R7 m h i k b c d e a:=
 tq (g:=fun J=>(zG m (agg [int b,int c,str d,lst e,lst a]) h).bind fun j=>cond (0<=j) ((qK m i).bind fun f=>(inL a j).bind fun n=>(a[j.toNat]?).bind fun l=>some (agg [int b,int c,str d,lst e,lst (List.set a j.toNat (agg [str (S l 0),agg [int f.1,int f.2.1,str f.2.2.1,lst f.2.2.2.1,lst f.2.2.2.2]]))])) (jj J 0 8 0 (Vr h i k b c d e a) (e27 J m [1,1,1,1] []))) (by simp only[au,ajc m];rfl)
theorem axv m b c d:e27 jn m [] [] ⟨[.dat 26 b,.dat 9 (.str c),.dat 26 d],[],0⟩=zV (m+1) b c d:=
 tq (g:=fun J=>(qK m b).bind fun a=>cond (a.1 !=5) (some (agg [int a.1,int a.2.1,str a.2.2.1,lst a.2.2.2.1,lst a.2.2.2.2])) (jj J 0 4 0 (Vr c d aX a.1 a.2.1 a.2.2.1 a.2.2.2.1 a.2.2.2.2) (e27 J m [1,1,1] []))) (by simp only[au,ajd m];rfl)
noncomputable def e44(J:Q34)(m:Nat):=evAt Tryz.prog env (ct m) J (m+1) 138 20 Tryz.f138 d44
noncomputable def aqM(a:Int)(b c:Dt):St:=⟨tsOf [(2,.ptr 0 [] 0),(4,.ptr 1 [] 0),(6,.dat 3 (.int a))],[.box 26 (.dat 26 b),.box 26 (.dat 26 c)],0⟩
theorem aje m b c d:e44 jn m [1,1,1] [] (aqM b c d)=aoc m b c d:=
 tq (g:=fun J=>(idx (L c 4) b).bind fun e=>(qK m (fld e 1)).bind fun a=>some (agg [int a.1,int a.2.1,str a.2.2.1,lst a.2.2.2.1,lst a.2.2.2.2],true)) (by rfl)
theorem axw m a b:e44 jn m [] [] ⟨[.dat 26 a,.dat 9 (.str b)],[],0⟩=yJ (m+1) a b:=
 tq (g:=fun J=>(zG m a b).bind fun c=>cond (c<0) (some (aX,false)) (jj J 0 4 0 (aqM c a aX) (e44 J m [1,1,1] []))) (by simp only[au,aje m];rfl)
noncomputable def e16(J:Q6)(m:Nat):=evAt Tryz.prog env (ct m) J (m+1) 101 11 Tryz.f101 d11
theorem axx m a:e16 jn m [] [] ⟨[.dat 26 a],[],0⟩=zQ (m+1) a:=
 tq (g:=fun J=>(yJ m a (ByteArray.mk (List.toArray [95,105,100]))).bind fun b=>some b.1) (by rfl)
noncomputable def e20(J:Q35)(m:Nat):=evAt Tryz.prog env (ct m) J (m+1) 140 29 Tryz.f140 d20
theorem aus m b d c e f h i a:e20 jn m [] [] ⟨[.ptr 0 [] 0,.dat 26 b,.dat 26 d],[.box 114 (.agg 114 [.dat 51 c,.row 1,.row 2,.row 4,.row 5]),.row 112 e,(.rowD 110 75 (some 1000001) 3 f none),(.tok 75 h),(.map 111 i),.row 54 a],6⟩=i20 (m+1) b d c e f h i a:=
 tq (g:=fun J=>(zQ m b).bind fun k=>(qB m k).bind fun l=>(qB m b).bind fun n=>(qB m d).bind fun o=>(cond false (app a [rE]) (cond true (ite (a.length+1<=2147483648) (Option.some (a++[rE])) Option.none) Option.none)).bind fun j=>(inL j (a.length:Int)).bind fun p=>(j[(a.length:Int).toNat]?).bind fun q=>some (c,i,e,f,h,List.set j (a.length:Int).toNat (agg [int 2,str (S c 0),l,n,o,iV,iW,str (ByteArray.mk (List.toArray [])),int 0,lst [],lst [],bool false]))) (by rfl)
noncomputable def e51(J:Q6)(m:Nat):=evAt Tryz.prog env (ct m) J (m+1) 59 2 Tryz.f59 d11
theorem axy m:e51 jn m [] [] ⟨[],[],0⟩=yQ (m+1):=
 tq (g:=fun J=>some xI) (by rfl)
noncomputable def e52(J:Q1)(m:Nat):=evAt Tryz.prog env (ct m) J (m+1) 60 11 Tryz.f60 d40
noncomputable def aqN:St:=⟨tsOf [],[],0⟩
noncomputable def aqO(a b:Int):St:=⟨tsOf [(0,.dat 3 (.int a)),(1,.dat 3 (.int b))],[],0⟩
theorem ajf m:e52 jn m [1,1,1] [] aqN=aaj m:=
 tq (g:=fun J=>some 0) (by rfl)
theorem ajg m a b:e52 jn m [1,1] [] (aqO a b)=aak m a b:=
 tq (g:=fun J=>cond (b<a) (some 1) (jj J 0 5 0 aqN (e52 J m [1,1,1] []))) (by simp only[au,ajf m];rfl)
theorem axz m a b:e52 jn m [] [] ⟨[.dat 3 (.int a),.dat 3 (.int b)],[],0⟩=zS (m+1) a b:=
 tq (g:=fun J=>cond (a<b) (some (-1)) (jj J 0 3 0 (aqO a b) (e52 J m [1,1] []))) (by simp only[au,ajg m];rfl)
def ajh:List Nat:=[1,0,1,0,0,1]
def aqP:List Nat:=ajh++[1]
noncomputable def e53(J:Q1)(m:Nat):=evAt Tryz.prog env (ct m) J (m+1) 61 39 Tryz.f61 d40
noncomputable def l53(J:Q1)(m:Nat):=loopAt Tryz.prog env (ct m) J (m+1) 61 39 Tryz.f61 d40
noncomputable def oL(a b:ByteArray)(c:Int):St:=⟨tsOf [(0,.dat 9 (.str a)),(1,.dat 9 (.str b)),(5,.dat 3 (.int c))],[],0⟩
noncomputable def aji(a b:ByteArray):St:=⟨tsOf [(0,.dat 9 (.str a)),(1,.dat 9 (.str b))],[],0⟩
abbrev aqQ(m e:Nat)(a:Q61):Prop:=∀b c d,l53 jn m [1,0,1,0] [] e (oL b c d)=a b c d
theorem ajj m b a(f:aqQ m b a) c d e:e53 jn m aqP [b] (oL c d e)=aal m a c d e:=
 tq (g:=fun J=>jj J 1 2 b (oL c d (wrap .i64 (e+1))) (l53 J m [1,0,1,0] [] b)) (by simp only[au,f];rfl)
theorem ajk m e a(f:aqQ m e a) c d b:e53 jn m ajh [e] (oL c d b)=aam m a c d b:=
 tq (g:=fun J=>(idxS c b).bind fun h=>(idxS d b).bind fun i=>cond (h !=i) ((idxS c b).bind fun j=>(idxS d b).bind fun k=>(zS m (wrap .i64 j) (wrap .i64 k)).bind fun l=>some l) (jj J 0 3 0 (oL c d b) (e53 J m aqP [e]))) (by simp only[au,ajj m e a f];rfl)
theorem ajl m a b:e53 jn m [1,1] [] (aji a b)=JG m a b:=
 tq (g:=fun J=>(zS m (a.size:Int) (b.size:Int)).bind fun c=>some c) (by rfl)
theorem NT m:∀a b c d,l53 jn m [1,0,1,0] [] a (oL b c d)=En m a b c d
 |0,_,_,_=>rfl
 |a+1,b,c,d=>
  tl (g:=fun J=>cond (d<(b.size:Int)) (cond (d<(c.size:Int)) (jj J 0 4 0 (oL b c d) (e53 J m ajh [a])) (jj J 0 6 0 (aji b c) (e53 J m [1,1] []))) (jj J 0 6 0 (aji b c) (e53 J m [1,1] []))) (by simp only[au,ajk m a (En m a) (NT m a),ajl m];rfl)
theorem ajm m a b c:e53 jn m [1,0,1] [] (oL a b c)=aod m a b c:=
 tq (g:=fun J=>jj J 1 2 (succ m) (oL a b c) (l53 J m [1,0,1,0] [] (succ m))) (by simp only[au,NT m];rfl)
theorem axA m a b:e53 jn m [] [] ⟨[.dat 9 (.str a),.dat 9 (.str b)],[],0⟩=zK (m+1) a b:=
 tq (g:=fun J=>jj J 0 2 0 (oL a b 0) (e53 J m [1,0,1] [])) (by simp only[au,ajm m];rfl)
def Dk:List Nat:=[1,1,0,1,0,1]
def mM:List Nat:=Dk++[1,1]
def ajn:List Nat:=mM++[1,1,0,1]
def ajo:List Nat:=mM++[1,1,0,0,1]
def NU:List Nat:=ajo++[0]
def ajp:List Nat:=mM++[1,1,1,1,0,1]
def RJ:List Nat:=mM++[1,1,1,1,0,0,1]
def ajq:List Nat:=NU++[0,1]
def NV:List Nat:=RJ++[0]
def aqR:List Nat:=ajq++[1]
def Vt:List Nat:=NV++[0,1]
def aqS:List Nat:=Vt++[1]
def ajr:List Nat:=Vt++[0,0,1,1]
noncomputable def e30(J:Q1)(m:Nat):=evAt Tryz.prog env (ct m) J (m+1) 21 130 Tryz.f21 d40
noncomputable def l30(J:Q1)(m:Nat):=loopAt Tryz.prog env (ct m) J (m+1) 21 130 Tryz.f21 d40
noncomputable def oM(a:Int)(b c:Dt):St:=⟨tsOf [(2,.ptr 0 [] 0),(3,.ptr 1 [] 0),(5,.dat 3 (.int a))],[.box 26 (.dat 26 b),.box 26 (.dat 26 c)],0⟩
noncomputable def xu(a b:Dt):St:=⟨tsOf [(2,.ptr 0 [] 0),(3,.ptr 1 [] 0)],[.box 26 (.dat 26 a),.box 26 (.dat 26 b)],0⟩
noncomputable def jO(a:Int)(b c:Dt):St:=⟨tsOf [(2,.ptr 0 [] 0),(3,.ptr 1 [] 0),(7,.dat 3 (.int a))],[.box 26 (.dat 26 b),.box 26 (.dat 26 c)],0⟩
noncomputable def RL(a b:Int)(c d:Dt):St:=⟨tsOf [(2,.ptr 0 [] 0),(3,.ptr 1 [] 0),(7,.dat 3 (.int a)),(8,.dat 3 (.int b))],[.box 26 (.dat 26 c),.box 26 (.dat 26 d)],0⟩
noncomputable def ajs:St:=⟨tsOf [],[],0⟩
noncomputable def Vu(a:Int)(b:Bool)(c d:Dt):St:=⟨tsOf [(2,.ptr 0 [] 0),(3,.ptr 1 [] 0),(20,.dat 3 (.int a)),(30,.dat 4 (.bool b))],[.box 26 (.dat 26 c),.box 26 (.dat 26 d)],0⟩
noncomputable def Vv(a:Int)(b:Bool)(c d:Dt):St:=⟨tsOf [(2,.ptr 0 [] 0),(3,.ptr 1 [] 0),(20,.dat 3 (.int a)),(21,.dat 4 (.bool b))],[.box 26 (.dat 26 c),.box 26 (.dat 26 d)],0⟩
abbrev aqT(m e:Nat)(a:Q27):Prop:=∀b c d,l30 jn m NU [] e (oM b c d)=a b c d
theorem ajt m b a(f:aqT m b a) c d e:e30 jn m aqR [b] (oM c d e)=aan m (qA m) a c d e:=
 tq (g:=fun J=>jj J 1 14 b (oM (wrap .i64 (c+1)) d e) (l30 J m NU [] b)) (by simp only[au,f];rfl)
theorem aju m c a(h:aqT m c a) b d e:e30 jn m ajq [c] (oM b d e)=aao m (qA m) a b d e:=
 tq (g:=fun J=>(idx (L d 3) b).bind fun i=>(idx (L e 3) b).bind fun j=>(qA m i j).bind fun f=>cond (f !=0) (some f) (jj J 0 15 0 (oM b d e) (e30 J m aqR [c]))) (by simp only[au,ajt m c a h];rfl)
theorem ajv m a b:e30 jn m ajn [] (xu a b)=JH m (qA m) a b:=
 tq (g:=fun J=>(zS m ((L a 3).length:Int) ((L b 3).length:Int)).bind fun c=>some c) (by rfl)
theorem NW m:∀a d b c,l30 jn m NU [] a (oM d b c)=Eo m (qA m) a d b c
 |0,_,_,_=>rfl
 |a+1,d,b,c=>
  tl (g:=fun J=>cond (d<((L b 3).length:Int)) (cond (d<((L c 3).length:Int)) (jj J 0 16 0 (oM d b c) (e30 J m ajq [a])) (jj J 0 19 0 (xu b c) (e30 J m ajn []))) (jj J 0 19 0 (xu b c) (e30 J m ajn []))) (by simp only[au,aju m a (Eo m (qA m) a) (NW m a),ajv m];rfl)
theorem ajw m a b c:e30 jn m ajo [] (oM a b c)=R8 m (qA m) a b c:=
 tq (g:=fun J=>jj J 1 14 (succ m) (oM a b c) (l30 J m NU [] (succ m))) (by simp only[au,NW m];rfl)
abbrev ajx(m e:Nat)(a:Q27):Prop:=∀b c d,l30 jn m NV [] e (jO b c d)=a b c d
theorem YK m b a(f:ajx m b a) c d e:e30 jn m aqS [b] (jO c d e)=Pw m (qA m) a c d e:=
 tq (g:=fun J=>jj J 1 22 b (jO (wrap .i64 (c+1)) d e) (l30 J m NV [] b)) (by simp only[au,f];rfl)
theorem YL m b a(h:ajx m b a) d c e f:e30 jn m ajr [b] (RL d c e f)=Hz m (qA m) a d c e f:=
 tq (g:=fun J=>cond (c !=0) (some c) (jj J 0 23 0 (jO d e f) (e30 J m aqS [b]))) (by simp only[au,YK m b a h];rfl)
theorem YM m e a(k:ajx m e a) b c d:e30 jn m Vt [e] (jO b c d)=Px m (qA m) a b c d:=
 tq (g:=fun J=>(idx (L c 4) b).bind fun l=>(idx (L d 4) b).bind fun n=>(zK m (S l 0) (S n 0)).bind fun j=>cond (j==0) ((idx (L c 4) b).bind fun f=>(idx (L d 4) b).bind fun h=>(qA m (fld f 1) (fld h 1)).bind fun i=>jj J 0 27 0 (RL b i c d) (e30 J m ajr [e])) (jj J 0 27 0 (RL b j c d) (e30 J m ajr [e]))) (by simp only[au,YL m e a k];rfl)
theorem YN m a b:e30 jn m ajp [] (xu a b)=yT m (qA m) a b:=
 tq (g:=fun J=>(zS m ((L a 4).length:Int) ((L b 4).length:Int)).bind fun c=>some c) (by rfl)
theorem NY m:∀a d b c,l30 jn m NV [] a (jO d b c)=Ep m (qA m) a d b c
 |0,_,_,_=>rfl
 |a+1,d,b,c=>
  tl (g:=fun J=>cond (d<((L b 4).length:Int)) (cond (d<((L c 4).length:Int)) (jj J 0 24 0 (jO d b c) (e30 J m Vt [a])) (jj J 0 29 0 (xu b c) (e30 J m ajp []))) (jj J 0 29 0 (xu b c) (e30 J m ajp []))) (by simp only[au,YM m a (Ep m (qA m) a) (NY m a),YN m];rfl)
theorem ajy m a b c:e30 jn m RJ [] (jO a b c)=R9 m (qA m) a b c:=
 tq (g:=fun J=>jj J 1 22 (succ m) (jO a b c) (l30 J m NV [] (succ m))) (by simp only[au,NY m];rfl)
theorem YO m:e30 jn m [1,1,1] [] ajs=Py m (qA m):=
 tq (g:=fun J=>some 0) (by rfl)
theorem ajz m c d a b:e30 jn m mM [] (Vu c d a b)=JJ m (qA m) c d a b:=
 tq (g:=fun J=>cond d ((zK m (S a 2) (S b 2)).bind fun e=>some e) (cond (c==6) (jj J 0 14 0 (oM 0 a b) (e30 J m ajo [])) (cond (c==5) (jj J 0 22 0 (jO 0 a b) (e30 J m RJ [])) (jj J 0 30 0 ajs (e30 J m [1,1,1] []))))) (by simp only[au,ajw m,ajy m,YO m];rfl)
theorem ajA m a d b c:e30 jn m Dk [] (Vv a d b c)=JK m (qA m) a d b c:=
 tq (g:=fun J=>cond d ((zS m (I b 1) (I c 1)).bind fun e=>some e) (cond (a==4) (jj J 0 11 0 (Vu a (a==4) b c) (e30 J m mM [])) (cond (a==7) (jj J 0 11 0 (Vu a (a==7) b c) (e30 J m mM [])) (jj J 0 11 0 (Vu a (a==8) b c) (e30 J m mM []))))) (by simp only[au,ajz m];rfl)
theorem ajB m a b:e30 jn m [1,1] [] (xu a b)=JL m (qA m) a b:=
 tq (g:=fun J=>cond (I a 0==3) (jj J 0 7 0 (Vv (I a 0) (I a 0==3) a b) (e30 J m Dk [])) (cond (I a 0==9) (jj J 0 7 0 (Vv (I a 0) (I a 0==9) a b) (e30 J m Dk [])) (jj J 0 7 0 (Vv (I a 0) (I a 0==10) a b) (e30 J m Dk [])))) (by simp only[au,ajA m];rfl)
theorem axB m a b:e30 jn m [] [] ⟨[.dat 26 a,.dat 26 b],[],0⟩=qA (m+1) a b:=
 tq (g:=fun J=>cond (I a 0 !=I b 0) ((zS m (I a 0) (I b 0)).bind fun c=>some c) (jj J 0 3 0 (xu a b) (e30 J m [1,1] []))) (by simp only[au,ajB m];rfl)
def ajC:List Nat:=[1,0,1,0,0,1]
def aqU:List Nat:=ajC++[1]
noncomputable def e33(J:Q0)(m:Nat):=evAt Tryz.prog env (ct m) J (m+1) 72 23 Tryz.f72 d33
noncomputable def l33(J:Q0)(m:Nat):=loopAt Tryz.prog env (ct m) J (m+1) 72 23 Tryz.f72 d33
noncomputable def oN(a:List Dt)(b:Int)(c:Dt):St:=⟨tsOf [(0,.dat 23 (.lst a)),(3,.ptr 0 [] 0),(5,.dat 3 (.int b))],[.box 26 (.dat 26 c)],0⟩
noncomputable def aqV:St:=⟨tsOf [],[],0⟩
abbrev aqW(m e:Nat)(a:Q62):Prop:=∀b c d,l33 jn m [1,0,1,0] [] e (oN b c d)=a b c d
theorem ajD m b a(f:aqW m b a) c d e:e33 jn m aqU [b] (oN c d e)=aap m a c d e:=
 tq (g:=fun J=>jj J 1 2 b (oN c (wrap .i64 (d+1)) e) (l33 J m [1,0,1,0] [] b)) (by simp only[au,f];rfl)
theorem ajE m b a(f:aqW m b a) c d e:e33 jn m ajC [b] (oN c d e)=aaq m a c d e:=
 tq (g:=fun J=>(idx c d).bind fun h=>(idx (L h 4) 0).bind fun i=>(qA m (fld i 1) e).bind fun j=>cond (j==0) (some true) (jj J 0 3 0 (oN c d e) (e33 J m aqU [b]))) (by simp only[au,ajD m b a f];rfl)
theorem ajF m:e33 jn m [1,1] [] aqV=aoe m:=
 tq (g:=fun J=>some false) (by rfl)
theorem NZ m:∀a b c d,l33 jn m [1,0,1,0] [] a (oN b c d)=Er m a b c d
 |0,_,_,_=>rfl
 |a+1,b,c,d=>
  tl (g:=fun J=>cond (c<(b.length:Int)) (jj J 0 4 0 (oN b c d) (e33 J m ajC [a])) (jj J 0 6 0 aqV (e33 J m [1,1] []))) (by simp only[au,ajE m a (Er m a) (NZ m a),ajF m];rfl)
theorem ajG m a b c:e33 jn m [1,0,1] [] (oN a b c)=aof m a b c:=
 tq (g:=fun J=>jj J 1 2 (succ m) (oN a b c) (l33 J m [1,0,1,0] [] (succ m))) (by simp only[au,NZ m];rfl)
theorem axC m a b:e33 jn m [] [] ⟨[.dat 23 (.lst a),.dat 26 b],[],0⟩=zN (m+1) a b:=
 tq (g:=fun J=>jj J 0 2 0 (oN a 0 b) (e33 J m [1,0,1] [])) (by simp only[au,ajG m];rfl)
def Vw:List Nat:=[1,1,0,1,0]
def Vx:List Nat:=[1,1,0,1,0,0,1,1]
def aqX:List Nat:=Vx++[1]
def ajH:List Nat:=Vx++[0,0,1,1]
noncomputable def e57(J:Q0)(m:Nat):=evAt Tryz.prog env (ct m) J (m+1) 42 75 Tryz.f42 d33
noncomputable def l57(J:Q0)(m:Nat):=loopAt Tryz.prog env (ct m) J (m+1) 42 75 Tryz.f42 d33
noncomputable def oO(a b:Int)(c d:Dt):St:=⟨tsOf [(2,.ptr 0 [] 0),(3,.ptr 1 [] 0),(36,.dat 3 (.int a)),(37,.dat 3 (.int b))],[.box 26 (.dat 26 c),.box 26 (.dat 26 d)],0⟩
noncomputable def ajI(a b:Int)(c:Bool)(d e:Dt):St:=⟨tsOf [(2,.ptr 0 [] 0),(3,.ptr 1 [] 0),(36,.dat 3 (.int a)),(37,.dat 3 (.int b)),(68,.dat 4 (.bool c))],[.box 26 (.dat 26 d),.box 26 (.dat 26 e)],0⟩
noncomputable def Vy(a b:Dt):St:=⟨tsOf [(2,.ptr 0 [] 0),(3,.ptr 1 [] 0)],[.box 26 (.dat 26 a),.box 26 (.dat 26 b)],0⟩
noncomputable def N7(a:Bool)(b c:Dt):St:=⟨tsOf [(2,.ptr 0 [] 0),(3,.ptr 1 [] 0),(33,.dat 4 (.bool a))],[.box 26 (.dat 26 b),.box 26 (.dat 26 c)],0⟩
abbrev ajJ(m f:Nat)(a:Q41):Prop:=∀b c d e,l57 jn m Vw [] f (oO b c d e)=a b c d e
theorem ajK m b a(h:ajJ m b a) c d e f:e57 jn m aqX [b] (oO c d e f)=aar m (qU m) (qX m) a c d e f:=
 tq (g:=fun J=>jj J 1 4 b (oO c (wrap .i64 (d+1)) e f) (l57 J m Vw [] b)) (by simp only[au,h];rfl)
theorem ajL m b a(i:ajJ m b a) c d e f h:e57 jn m ajH [b] (ajI c d e f h)=Sb m (qU m) (qX m) a c d e f h:=
 tq (g:=fun J=>cond e (some false) (jj J 0 8 0 (oO c d f h) (e57 J m aqX [b]))) (by simp only[au,ajK m b a i];rfl)
theorem ajM m e a(h:ajJ m e a) f b c d:e57 jn m Vx [e] (oO f b c d)=aas m (qU m) (qX m) a f b c d:=
 tq (g:=fun J=>(idx (L c 4) b).bind fun i=>(idx (L d 4) b).bind fun j=>cond (!(S i 0).toList==(S j 0).toList) (jj J 0 7 0 (ajI f b true c d) (e57 J m ajH [e])) ((idx (L c 4) b).bind fun k=>(idx (L d 4) b).bind fun l=>(qU m (fld k 1) (fld l 1)).bind fun n=>jj J 0 7 0 (ajI f b (!n) c d) (e57 J m ajH [e]))) (by simp only[au,ajL m e a h];rfl)
theorem ajN m a b:e57 jn m [1,1,1] [] (Vy a b)=aat m (qU m) (qX m) a b:=
 tq (g:=fun J=>(qX m (L a 3) (L b 3)).bind fun c=>some c) (by rfl)
theorem N8 m:∀a b c d e,l57 jn m Vw [] a (oO b c d e)=Es m (qU m) (qX m) a b c d e
 |0,_,_,_,_=>rfl
 |a+1,b,c,d,e=>
  tl (g:=fun J=>cond (c<b) (jj J 0 5 0 (oO b c d e) (e57 J m Vx [a])) (jj J 0 9 0 (Vy d e) (e57 J m [1,1,1] []))) (by simp only[au,ajM m a (Es m (qU m) (qX m) a) (N8 m a),ajN m];rfl)
theorem ajO m a b c d:e57 jn m [1,1,0,1] [] (oO a b c d)=aog m (qU m) (qX m) a b c d:=
 tq (g:=fun J=>jj J 1 4 (succ m) (oO a b c d) (l57 J m Vw [] (succ m))) (by simp only[au,N8 m];rfl)
theorem ajP m a b:e57 jn m [1,1] [] (Vy a b)=aoh m (qU m) (qX m) a b:=
 tq (g:=fun J=>jj J 0 4 0 (oO ((L a 4).length:Int) 0 a b) (e57 J m [1,1,0,1] [])) (by simp only[au,ajO m];rfl)
theorem ajQ m a b c:e57 jn m [1,0,1] [] (N7 a b c)=Et m (qU m) (qX m) a b c:=
 tq (g:=fun J=>cond a (some false) (jj J 0 3 0 (Vy b c) (e57 J m [1,1] []))) (by simp only[au,ajP m];rfl)
theorem axD m a b:e57 jn m [] [] ⟨[.dat 26 a,.dat 26 b],[],0⟩=qU (m+1) a b:=
 tq (g:=fun J=>cond (I a 0 !=I b 0) (jj J 0 2 0 (N7 true a b) (e57 J m [1,0,1] [])) (cond (I a 1 !=I b 1) (jj J 0 2 0 (N7 true a b) (e57 J m [1,0,1] [])) (cond (!(S a 2).toList==(S b 2).toList) (jj J 0 2 0 (N7 true a b) (e57 J m [1,0,1] [])) (jj J 0 2 0 (N7 (((L a 4).length:Int) !=((L b 4).length:Int)) a b) (e57 J m [1,0,1] []))))) (by simp only[au,ajQ m];rfl)
def Vz:List Nat:=[1,1,0,1,0]
def ajR:List Nat:=[1,1,0,1,0,0,1,1]
def aqY:List Nat:=ajR++[1]
noncomputable def e74(J:Q0)(m:Nat):=evAt Tryz.prog env (ct m) J (m+1) 13 27 Tryz.f13 d33
noncomputable def l74(J:Q0)(m:Nat):=loopAt Tryz.prog env (ct m) J (m+1) 13 27 Tryz.f13 d33
noncomputable def oQ(a b:List Dt)(c d:Int):St:=⟨tsOf [(0,.dat 23 (.lst a)),(1,.dat 23 (.lst b)),(12,.dat 3 (.int c)),(13,.dat 3 (.int d))],[],0⟩
noncomputable def aqZ:St:=⟨tsOf [],[],0⟩
noncomputable def aq0(a b:List Dt):St:=⟨tsOf [(0,.dat 23 (.lst a)),(1,.dat 23 (.lst b))],[],0⟩
abbrev aq1(m f:Nat)(a:Q29):Prop:=∀b c d e,l74 jn m Vz [] f (oQ b c d e)=a b c d e
theorem ajS m b a(h:aq1 m b a) c d e f:e74 jn m aqY [b] (oQ c d e f)=aau m (qU m) a c d e f:=
 tq (g:=fun J=>jj J 1 4 b (oQ c d e (wrap .i64 (f+1))) (l74 J m Vz [] b)) (by simp only[au,h];rfl)
theorem ajT m c a(h:aq1 m c a) d e f b:e74 jn m ajR [c] (oQ d e f b)=aav m (qU m) a d e f b:=
 tq (g:=fun J=>(idx d b).bind fun i=>(idx e b).bind fun j=>(qU m i j).bind fun k=>cond (!k) (some false) (jj J 0 8 0 (oQ d e f b) (e74 J m aqY [c]))) (by simp only[au,ajS m c a h];rfl)
theorem ajU m:e74 jn m [1,1,1] [] aqZ=aaw m (qU m):=
 tq (g:=fun J=>some true) (by rfl)
theorem N9 m:∀a d e b c,l74 jn m Vz [] a (oQ d e b c)=Eu m (qU m) a d e b c
 |0,_,_,_,_=>rfl
 |a+1,d,e,b,c=>
  tl (g:=fun J=>cond (c<b) (jj J 0 5 0 (oQ d e b c) (e74 J m ajR [a])) (jj J 0 9 0 aqZ (e74 J m [1,1,1] []))) (by simp only[au,ajT m a (Eu m (qU m) a) (N9 m a),ajU m];rfl)
theorem ajV m a b c d:e74 jn m [1,1,0,1] [] (oQ a b c d)=aoi m (qU m) a b c d:=
 tq (g:=fun J=>jj J 1 4 (succ m) (oQ a b c d) (l74 J m Vz [] (succ m))) (by simp only[au,N9 m];rfl)
theorem ajW m a b:e74 jn m [1,1] [] (aq0 a b)=aax m (qU m) a b:=
 tq (g:=fun J=>jj J 0 4 0 (oQ a b (a.length:Int) 0) (e74 J m [1,1,0,1] [])) (by simp only[au,ajV m];rfl)
theorem axE m a b:e74 jn m [] [] ⟨[.dat 23 (.lst a),.dat 23 (.lst b)],[],0⟩=qX (m+1) a b:=
 tq (g:=fun J=>cond ((a.length:Int) !=(b.length:Int)) (some false) (jj J 0 3 0 (aq0 a b) (e74 J m [1,1] []))) (by simp only[au,ajW m];rfl)
noncomputable def e35(J:Q0)(m:Nat):=evAt Tryz.prog env (ct m) J (m+1) 74 77 Tryz.f74 d33
theorem axF m a b:e35 jn m [] [] ⟨[.dat 77 a,.dat 77 b],[],0⟩=zW (m+1) a b:=
 tq (g:=fun J=>cond (I a 0==I b 0) (bif (S a 1).toList==(S b 1).toList then(qU m (fld a 2) (fld b 2)).bind fun c=>cond c ((qU m (fld a 3) (fld b 3)).bind fun d=>cond d ((qU m (fld a 4) (fld b 4)).bind fun e=>cond e (cond (Dt.B a 11==Dt.B b 11) (cond ((S a 7).toList==(S b 7).toList) (cond (I a 8==I b 8) (bif ((L a 9).length:Int)==((L b 9).length:Int)then some (((L a 10).length:Int)==((L b 10).length:Int))else some false) (some false)) (some false)) (some false)) (some false)) (some false)) (some false)else some false) (some false)) (by rfl)
def VA:List Nat:=[1,1,0,1,0]
def ajX:List Nat:=[1,1,0,1,0,0,1,1]
def aq2:List Nat:=ajX++[1]
noncomputable def e34(J:Q0)(m:Nat):=evAt Tryz.prog env (ct m) J (m+1) 73 32 Tryz.f73 d33
noncomputable def l34(J:Q0)(m:Nat):=loopAt Tryz.prog env (ct m) J (m+1) 73 32 Tryz.f73 d33
noncomputable def oU(a b:List Dt)(c d:Int):St:=⟨tsOf [(1,.dat 54 (.lst a)),(2,.fn 74 []),(15,.dat 54 (.lst b)),(16,.dat 3 (.int c)),(17,.dat 3 (.int d))],[],0⟩
noncomputable def aq3:St:=⟨tsOf [],[],0⟩
noncomputable def aq4(a b:List Dt):St:=⟨tsOf [(0,.dat 54 (.lst a)),(1,.dat 54 (.lst b)),(2,.fn 74 [])],[],0⟩
abbrev aq5(m f:Nat)(a:Q29):Prop:=∀b c d e,l34 jn m VA [] f (oU b c d e)=a b c d e
theorem YP m b a(h:aq5 m b a) c d e f:e34 jn m aq2 [b] (oU c d e f)=Pz m a c d e f:=
 tq (g:=fun J=>jj J 1 4 b (oU c d e (wrap .i64 (f+1))) (l34 J m VA [] b)) (by simp only[au,h];rfl)
theorem YQ m c a(h:aq5 m c a) d e f b:e34 jn m ajX [c] (oU d e f b)=PD m a d e f b:=
 tq (g:=fun J=>(idx e b).bind fun i=>(idx d b).bind fun j=>(zW m i j).bind fun k=>cond (!k) (some false) (jj J 0 9 0 (oU d e f b) (e34 J m aq2 [c]))) (by simp only[au,YP m c a h];rfl)
theorem YR m:e34 jn m [1,1,1] [] aq3=aay m:=
 tq (g:=fun J=>some true) (by rfl)
theorem GI m:∀a d e b c,l34 jn m VA [] a (oU d e b c)=ug m a d e b c
 |0,_,_,_,_=>rfl
 |a+1,d,e,b,c=>
  tl (g:=fun J=>cond (c<b) (jj J 0 5 0 (oU d e b c) (e34 J m ajX [a])) (jj J 0 10 0 aq3 (e34 J m [1,1,1] []))) (by simp only[au,YQ m a (ug m a) (GI m a),YR m];rfl)
theorem YS m a b c d:e34 jn m [1,1,0,1] [] (oU a b c d)=aaz m a b c d:=
 tq (g:=fun J=>jj J 1 4 (succ m) (oU a b c d) (l34 J m VA [] (succ m))) (by simp only[au,GI m];rfl)
theorem YT m a b:e34 jn m [1,1] [] (aq4 a b)=aaA m a b:=
 tq (g:=fun J=>jj J 0 4 0 (oU b a (a.length:Int) 0) (e34 J m [1,1,0,1] [])) (by simp only[au,YS m];rfl)
theorem aut m a b:e34 jn m [] [] ⟨[.dat 54 (.lst a),.dat 54 (.lst b),.fn 74 []],[],0⟩=i34 (m+1) a b:=
 tq (g:=fun J=>cond ((a.length:Int) !=(b.length:Int)) (some false) (jj J 0 3 0 (aq4 a b) (e34 J m [1,1] []))) (by simp only[au,YT m];rfl)
noncomputable def e5(J:Q0)(m:Nat):=evAt Tryz.prog env (ct m) J (m+1) 32 8 Tryz.f32 d33
theorem axG m a b:e5 jn m [] [] ⟨[.dat 54 (.lst a),.dat 54 (.lst b)],[],0⟩=zZ (m+1) a b:=
 tq (g:=fun J=>(i34 m a b).bind fun c=>some c) (by rfl)
def VB:List Nat:=[1,1,0,1,0]
def VD:List Nat:=[1,1,0,1,0,0,1]
def aq6:List Nat:=VD++[1]
def VE:List Nat:=VD++[0,0,1]
noncomputable def e59(J:Q0)(m:Nat):=evAt Tryz.prog env (ct m) J (m+1) 97 39 Tryz.f97 d33
noncomputable def l59(J:Q0)(m:Nat):=loopAt Tryz.prog env (ct m) J (m+1) 97 39 Tryz.f97 d33
noncomputable def oV(a:ByteArray)(b:Int):St:=⟨tsOf [(0,.dat 9 (.str a)),(3,.dat 3 (.int b))],[],0⟩
noncomputable def VF(a:ByteArray)(b:Int)(c:Bool):St:=⟨tsOf [(0,.dat 9 (.str a)),(3,.dat 3 (.int b)),(38,.dat 4 (.bool c))],[],0⟩
noncomputable def aq7:St:=⟨tsOf [],[],0⟩
noncomputable def aq8(a:ByteArray):St:=⟨tsOf [(0,.dat 9 (.str a))],[],0⟩
noncomputable def VG(a:ByteArray)(b:Bool):St:=⟨tsOf [(0,.dat 9 (.str a)),(16,.dat 4 (.bool b))],[],0⟩
abbrev ajY(m d:Nat)(a:Q7):Prop:=∀b c,l59 jn m VB [] d (oV b c)=a b c
theorem ajZ m b a(e:ajY m b a) c d:e59 jn m aq6 [b] (oV c d)=yU m a c d:=
 tq (g:=fun J=>jj J 1 4 b (oV c (wrap .i64 (d+1))) (l59 J m VB [] b)) (by simp only[au,e];rfl)
theorem aj0 m b a(f:ajY m b a) c d e:e59 jn m VE [b] (VF c d e)=rF m a c d e:=
 tq (g:=fun J=>cond e (some false) (jj J 0 5 0 (oV c d) (e59 J m aq6 [b]))) (by simp only[au,ajZ m b a f];rfl)
theorem aj1 m d a(e:ajY m d a) b c:e59 jn m VD [d] (oV b c)=yV m a b c:=
 tq (g:=fun J=>(idxS b c).bind fun f=>cond (f<33) (jj J 0 7 0 (VF b c true) (e59 J m VE [d])) ((idxS b c).bind fun h=>cond (126<h) (jj J 0 7 0 (VF b c true) (e59 J m VE [d])) ((idxS b c).bind fun i=>jj J 0 7 0 (VF b c (i==46)) (e59 J m VE [d])))) (by simp only[au,aj0 m d a e];rfl)
theorem aj2 m:e59 jn m [1,1,1] [] aq7=yX m:=
 tq (g:=fun J=>some true) (by rfl)
theorem Oa m:∀a b c,l59 jn m VB [] a (oV b c)=yY m a b c
 |0,_,_=>rfl
 |a+1,b,c=>
  tl (g:=fun J=>cond (c<(b.size:Int)) (jj J 0 6 0 (oV b c) (e59 J m VD [a])) (jj J 0 8 0 aq7 (e59 J m [1,1,1] []))) (by simp only[au,aj1 m a (yY m a) (Oa m a),aj2 m];rfl)
theorem aj3 m a b:e59 jn m [1,1,0,1] [] (oV a b)=yZ m a b:=
 tq (g:=fun J=>jj J 1 4 (succ m) (oV a b) (l59 J m VB [] (succ m))) (by simp only[au,Oa m];rfl)
theorem aj4 m a:e59 jn m [1,1] [] (aq8 a)=y5 m a:=
 tq (g:=fun J=>jj J 0 4 0 (oV a 0) (e59 J m [1,1,0,1] [])) (by simp only[au,aj3 m];rfl)
theorem aj5 m a b:e59 jn m [1,0,1] [] (VG a b)=rG m a b:=
 tq (g:=fun J=>cond b (some false) (jj J 0 3 0 (aq8 a) (e59 J m [1,1] []))) (by simp only[au,aj4 m];rfl)
theorem axH m a:e59 jn m [] [] ⟨[.dat 9 (.str a)],[],0⟩=qT (m+1) a:=
 tq (g:=fun J=>cond ((a.size:Int)<1) (jj J 0 2 0 (VG a true) (e59 J m [1,0,1] [])) (bif 32<(a.size:Int)then jj J 0 2 0 (VG a true) (e59 J m [1,0,1] [])else(idxS a 0).bind fun b=>jj J 0 2 0 (VG a (b==36)) (e59 J m [1,0,1] []))) (by simp only[au,aj5 m];rfl)
def VH:List Nat:=[1,1,0,1,0]
def aj6:List Nat:=[1,1,0,1,0,0,1]
def aq9:List Nat:=aj6++[1]
noncomputable def e39(J:Q0)(m:Nat):=evAt Tryz.prog env (ct m) J (m+1) 65 24 Tryz.f65 d33
noncomputable def l39(J:Q0)(m:Nat):=loopAt Tryz.prog env (ct m) J (m+1) 65 24 Tryz.f65 d33
noncomputable def oW(a:List Dt)(b:Int):St:=⟨tsOf [(0,.dat 22 (.lst a)),(3,.dat 3 (.int b))],[],0⟩
noncomputable def ara:St:=⟨tsOf [],[],0⟩
noncomputable def arb(a:List Dt):St:=⟨tsOf [(0,.dat 22 (.lst a))],[],0⟩
noncomputable def aj7(a:List Dt)(b:Bool):St:=⟨tsOf [(0,.dat 22 (.lst a)),(11,.dat 4 (.bool b))],[],0⟩
abbrev ard(m d:Nat)(a:Q63):Prop:=∀b c,l39 jn m VH [] d (oW b c)=a b c
theorem aj8 m b a(e:ard m b a) c d:e39 jn m aq9 [b] (oW c d)=aaB m a c d:=
 tq (g:=fun J=>jj J 1 4 b (oW c (wrap .i64 (d+1))) (l39 J m VH [] b)) (by simp only[au,e];rfl)
theorem aj9 m b a(e:ard m b a) c d:e39 jn m aj6 [b] (oW c d)=aaC m a c d:=
 tq (g:=fun J=>(idx c d).bind fun f=>(qT m (toStr f)).bind fun h=>cond (!h) (some false) (jj J 0 5 0 (oW c d) (e39 J m aq9 [b]))) (by simp only[au,aj8 m b a e];rfl)
theorem akb m:e39 jn m [1,1,1] [] ara=aoj m:=
 tq (g:=fun J=>some true) (by rfl)
theorem Oc m:∀a b c,l39 jn m VH [] a (oW b c)=Ew m a b c
 |0,_,_=>rfl
 |a+1,b,c=>
  tl (g:=fun J=>cond (c<(b.length:Int)) (jj J 0 6 0 (oW b c) (e39 J m aj6 [a])) (jj J 0 8 0 ara (e39 J m [1,1,1] []))) (by simp only[au,aj9 m a (Ew m a) (Oc m a),akb m];rfl)
theorem akc m a b:e39 jn m [1,1,0,1] [] (oW a b)=aok m a b:=
 tq (g:=fun J=>jj J 1 4 (succ m) (oW a b) (l39 J m VH [] (succ m))) (by simp only[au,Oc m];rfl)
theorem akd m a:e39 jn m [1,1] [] (arb a)=aol m a:=
 tq (g:=fun J=>jj J 0 4 0 (oW a 0) (e39 J m [1,1,0,1] [])) (by simp only[au,akc m];rfl)
theorem ake m a b:e39 jn m [1,0,1] [] (aj7 a b)=Sc m a b:=
 tq (g:=fun J=>cond b (some false) (jj J 0 3 0 (arb a) (e39 J m [1,1] []))) (by simp only[au,akd m];rfl)
theorem axI m a:e39 jn m [] [] ⟨[.dat 22 (.lst a)],[],0⟩=zH (m+1) a:=
 tq (g:=fun J=>cond ((a.length:Int)<1) (jj J 0 2 0 (aj7 a true) (e39 J m [1,0,1] [])) (jj J 0 2 0 (aj7 a (decide (16<(a.length:Int)))) (e39 J m [1,0,1] []))) (by simp only[au,ake m];rfl)
noncomputable def e10(J:Q0)(m:Nat):=evAt Tryz.prog env (ct m) J (m+1) 64 6 Tryz.f64 d33
theorem axJ m a:e10 jn m [] [] ⟨[.dat 22 (.lst a)],[],0⟩=yB (m+1) a:=
 tq (g:=fun J=>(zH m a).bind fun b=>some (!b)) (by rfl)
def auu:List Nat:=[1,0,1,0,0,1,1]
def axK:List Nat:=auu++[1]
noncomputable def e9(J:Q1)(m:Nat):=evAt Tryz.prog env (ct m) J (m+1) 96 19 Tryz.f96 d40
noncomputable def l9(J:Q1)(m:Nat):=loopAt Tryz.prog env (ct m) J (m+1) 96 19 Tryz.f96 d40
noncomputable def Ec(a:List Dt)(b c:Int):St:=⟨tsOf [(0,.dat 49 (.lst a)),(1,.fn 64 []),(7,.dat 3 (.int b)),(8,.dat 3 (.int c))],[],0⟩
noncomputable def axL:St:=⟨tsOf [],[],0⟩
abbrev axM(m e:Nat)(a:Q30):Prop:=∀b c d,l9 jn m [1,0,1,0] [] e (Ec b c d)=a b c d
theorem akf m b a(f:axM m b a) c d e:e9 jn m axK [b] (Ec c d e)=aaD m a c d e:=
 tq (g:=fun J=>jj J 1 2 b (Ec c d (wrap .i64 (e+1))) (l9 J m [1,0,1,0] [] b)) (by simp only[au,f];rfl)
theorem akg m c a(f:axM m c a) d e b:e9 jn m auu [c] (Ec d e b)=aaE m a d e b:=
 tq (g:=fun J=>(idx d b).bind fun h=>(yB m (toLst h)).bind fun i=>cond i (some b) (jj J 0 6 0 (Ec d e b) (e9 J m axK [c]))) (by simp only[au,akf m c a f];rfl)
theorem akh m:e9 jn m [1,1] [] axL=aom m:=
 tq (g:=fun J=>some (-1)) (by rfl)
theorem Od m:∀a d b c,l9 jn m [1,0,1,0] [] a (Ec d b c)=Ey m a d b c
 |0,_,_,_=>rfl
 |a+1,d,b,c=>
  tl (g:=fun J=>cond (c<b) (jj J 0 3 0 (Ec d b c) (e9 J m auu [a])) (jj J 0 7 0 axL (e9 J m [1,1] []))) (by simp only[au,akg m a (Ey m a) (Od m a),akh m];rfl)
theorem aki m a b c:e9 jn m [1,0,1] [] (Ec a b c)=aon m a b c:=
 tq (g:=fun J=>jj J 1 2 (succ m) (Ec a b c) (l9 J m [1,0,1,0] [] (succ m))) (by simp only[au,Od m];rfl)
theorem axN m a:e9 jn m [] [] ⟨[.dat 49 (.lst a),.fn 64 []],[],0⟩=i9 (m+1) a:=
 tq (g:=fun J=>jj J 0 2 0 (Ec a (a.length:Int) 0) (e9 J m [1,0,1] [])) (by simp only[au,aki m];rfl)
noncomputable def e8(J:Q0)(m:Nat):=evAt Tryz.prog env (ct m) J (m+1) 63 9 Tryz.f63 d33
theorem axO m a:e8 jn m [] [] ⟨[.dat 49 (.lst a),.fn 64 []],[],0⟩=i8 (m+1) a:=
 tq (g:=fun J=>(i9 m a).bind fun b=>some (decide (0<=b))) (by rfl)
noncomputable def e62(J:Q1)(m:Nat):=evAt Tryz.prog env (ct m) J (m+1) 239 10 Tryz.f239 d62
theorem axP m a:e62 jn m [] [] ⟨[.dat 3 (.int a)],[],0⟩=yF (m+1) a:=
 tq (g:=fun J=>some (xorI IntKind.u64 (shlI IntKind.u64 (wrap IntKind.u64 a) 1) (wrap IntKind.u64 (shrI IntKind.i64 a 63)))) (by rfl)
def arf:List Nat:=[1,1,0,0,0,1]
noncomputable def e61(J:Q24)(m:Nat):=evAt Tryz.prog env (ct m) J (m+1) 226 23 Tryz.f226 d61
noncomputable def l61(J:Q24)(m:Nat):=loopAt Tryz.prog env (ct m) J (m+1) 226 23 Tryz.f226 d61
noncomputable def oZ(a:Int)(b:List Dt):St:=⟨tsOf [(0,.row 1),(5,.dat 215 (.int a))],[.gone,.row 193 b],1⟩
abbrev axQ(m d:Nat)(a:Q76):Prop:=∀b c,l61 jn m [1,1,0,0] [] d (oZ b c)=a b c
theorem YU m b a(e:axQ m b a) c d:e61 jn m arf [b] (oZ c d)=PE m a c d:=
 tq (g:=fun J=>(app d [int (orI IntKind.u8 (wrap IntKind.u8 c) 128)]).bind fun f=>jj J 1 2 b (oZ (shrI IntKind.u64 c 7) f) (l61 J m [1,1,0,0] [] b)) (by simp only[au,e];rfl)
theorem YV m a b:e61 jn m [1,1,1] [] (oZ a b)=PG m a b:=
 tq (g:=fun J=>(app b [int (wrap IntKind.u8 a)]).bind fun c=>some c) (by rfl)
theorem GJ m:∀a b c,l61 jn m [1,1,0,0] [] a (oZ b c)=uh m a b c
 |0,_,_=>rfl
 |a+1,b,c=>
  tl (g:=fun J=>cond (128<=b) (jj J 0 3 0 (oZ b c) (e61 J m arf [a])) (jj J 0 5 0 (oZ b c) (e61 J m [1,1,1] []))) (by simp only[au,YU m a (uh m a) (GJ m a),YV m];rfl)
theorem YW m a b:e61 jn m [1,1] [] (oZ a b)=aaF m a b:=
 tq (g:=fun J=>jj J 1 2 (succ m) (oZ a b) (l61 J m [1,1,0,0] [] (succ m))) (by simp only[au,GJ m];rfl)
theorem auv m a b:e61 jn m [] [] ⟨[.row 0,.dat 3 (.int a)],[.row 193 b],1⟩=i61 (m+1) a b:=
 tq (g:=fun J=>(yF m a).bind fun c=>jj J 0 2 0 (oZ c b) (e61 J m [1,1] [])) (by simp only[au,YW m];rfl)
noncomputable def e63(J:Q24)(m:Nat):=evAt Tryz.prog env (ct m) J (m+1) 227 11 Tryz.f227 d61
theorem auw m a b:e63 jn m [] [] ⟨[.row 0,.dat 9 (.str a)],[.row 193 b],1⟩=i63 (m+1) a b:=
 tq (g:=fun J=>(i61 m (a.size:Int) b).bind fun c=>(app c (bytesD a)).bind fun d=>some d) (by rfl)
def VI:List Nat:=[1,1,0,1,0,1]
def Oe:List Nat:=VI++[1,1,1,1]
def akj:List Nat:=Oe++[1,1,1,1,0,1,1]
def Og:List Nat:=akj++[0]
def akk:List Nat:=Oe++[1,1,1,1,1,1,0,1,1]
def Oh:List Nat:=akk++[0]
def akl:List Nat:=Og++[0,1,1]
def arh:List Nat:=akl++[1]
def akm:List Nat:=Oh++[0,1,1]
def ari:List Nat:=akm++[1]
noncomputable def e60(J:Q24)(m:Nat):=evAt Tryz.prog env (ct m) J (m+1) 192 86 Tryz.f192 d61
noncomputable def l60(J:Q24)(m:Nat):=loopAt Tryz.prog env (ct m) J (m+1) 192 86 Tryz.f192 d61
noncomputable def xw(a:List Dt):St:=⟨tsOf [(0,.row 1)],[.gone,.row 193 a],1⟩
noncomputable def o7(a:List Dt)(b c:Int)(d:List Dt):St:=⟨tsOf [(0,.row 1),(53,.dat 23 (.lst a)),(54,.dat 3 (.int b)),(55,.dat 3 (.int c))],[.gone,.row 193 d],1⟩
noncomputable def jP(a:List Dt)(b c:Int)(d:List Dt):St:=⟨tsOf [(0,.row 1),(71,.dat 24 (.lst a)),(72,.dat 3 (.int b)),(73,.dat 3 (.int c))],[.gone,.row 193 d],1⟩
noncomputable def akn(a:Int)(b:Bool)(c:List Dt)(d:Dt):St:=⟨tsOf [(0,.row 1),(3,.ptr 2 [] 0),(16,.dat 3 (.int a)),(32,.dat 4 (.bool b))],[.gone,.row 193 c,.box 26 (.dat 26 d)],1⟩
noncomputable def ako(a:Int)(b:Bool)(c:List Dt)(d:Dt):St:=⟨tsOf [(0,.row 1),(3,.ptr 2 [] 0),(16,.dat 3 (.int a)),(17,.dat 4 (.bool b))],[.gone,.row 193 c,.box 26 (.dat 26 d)],1⟩
theorem nE m a:e60 jn m [1,1,1] [] (xw a)=jF m (i60 m) a:=
 tq (g:=fun J=>some a) (by rfl)
abbrev arj(m f:Nat)(a:Q31):Prop:=∀b c d e,l60 jn m Og [] f (o7 b c d e)=a b c d e
theorem YX m b a(h:arj m b a) c d e f:e60 jn m arh [b] (o7 c d e f)=PI m (i60 m) a c d e f:=
 tq (g:=fun J=>jj J 1 16 b (o7 c d (wrap .i64 (e+1)) f) (l60 J m Og [] b)) (by simp only[au,h];rfl)
theorem YZ m b a(h:arj m b a) c e d f:e60 jn m akl [b] (o7 c e d f)=PK m (i60 m) a c e d f:=
 tq (g:=fun J=>(idx c d).bind fun i=>(i60 m i f).bind fun j=>jj J 0 19 0 (o7 c e d j) (e60 J m arh [b])) (by simp only[au,YX m b a h];rfl)
theorem GK m:∀a e b c d,l60 jn m Og [] a (o7 e b c d)=uj m (i60 m) a e b c d
 |0,_,_,_,_=>rfl
 |a+1,e,b,c,d=>
  tl (g:=fun J=>cond (c<b) (jj J 0 17 0 (o7 e b c d) (e60 J m akl [a])) (jj J 0 27 0 (xw d) (e60 J m [1,1,1] []))) (by simp only[au,YZ m a (uj m (i60 m) a) (GK m a),nE m];rfl)
theorem Y0 m a b c d:e60 jn m akj [] (o7 a b c d)=aaG m (i60 m) a b c d:=
 tq (g:=fun J=>jj J 1 16 (succ m) (o7 a b c d) (l60 J m Og [] (succ m))) (by simp only[au,GK m];rfl)
abbrev ark(m f:Nat)(a:Q31):Prop:=∀b c d e,l60 jn m Oh [] f (jP b c d e)=a b c d e
theorem RN m b a(h:ark m b a) c d e f:e60 jn m ari [b] (jP c d e f)=HV m (i60 m) a c d e f:=
 tq (g:=fun J=>jj J 1 23 b (jP c d (wrap .i64 (e+1)) f) (l60 J m Oh [] b)) (by simp only[au,h];rfl)
theorem Y1 m b a(k:ark m b a) c e d f:e60 jn m akm [b] (jP c e d f)=PL m (i60 m) a c e d f:=
 tq (g:=fun J=>(idx c d).bind fun j=>(i63 m (S j 0) f).bind fun h=>(i60 m (fld j 1) h).bind fun i=>jj J 0 26 0 (jP c e d i) (e60 J m ari [b])) (by simp only[au,RN m b a k];rfl)
theorem GL m:∀a e b c d,l60 jn m Oh [] a (jP e b c d)=um m (i60 m) a e b c d
 |0,_,_,_,_=>rfl
 |a+1,e,b,c,d=>
  tl (g:=fun J=>cond (c<b) (jj J 0 24 0 (jP e b c d) (e60 J m akm [a])) (jj J 0 27 0 (xw d) (e60 J m [1,1,1] []))) (by simp only[au,Y1 m a (um m (i60 m) a) (GL m a),nE m];rfl)
theorem Y2 m a b c d:e60 jn m akk [] (jP a b c d)=aaH m (i60 m) a b c d:=
 tq (g:=fun J=>jj J 1 23 (succ m) (jP a b c d) (l60 J m Oh [] (succ m))) (by simp only[au,GL m];rfl)
theorem Y3 m c d b a:e60 jn m Oe [] (akn c d b a)=PN m (i60 m) c d b a:=
 tq (g:=fun J=>cond d ((i63 m (S a 2) b).bind fun e=>jj J 0 27 0 (xw e) (e60 J m [1,1,1] [])) (cond (c==8) ((app b (bytesD (S a 2))).bind fun f=>jj J 0 27 0 (xw f) (e60 J m [1,1,1] [])) (cond (c==6) ((i61 m ((L a 3).length:Int) b).bind fun h=>jj J 0 16 0 (o7 (L a 3) ((L a 3).length:Int) 0 h) (e60 J m akj [])) (cond (c==5) ((i61 m ((L a 4).length:Int) b).bind fun i=>jj J 0 23 0 (jP (L a 4) ((L a 4).length:Int) 0 i) (e60 J m akk [])) (jj J 0 27 0 (xw b) (e60 J m [1,1,1] [])))))) (by simp only[au,nE m,Y0 m,Y2 m];rfl)
theorem Y4 m a d b c:e60 jn m VI [] (ako a d b c)=PO m (i60 m) a d b c:=
 tq (g:=fun J=>cond d ((i61 m (I c 1) b).bind fun e=>jj J 0 27 0 (xw e) (e60 J m [1,1,1] [])) (cond (a==9) ((app b [int (wrap IntKind.u8 (I c 1))]).bind fun f=>jj J 0 27 0 (xw f) (e60 J m [1,1,1] [])) (cond (a==4) (jj J 0 10 0 (akn a (a==4) b c) (e60 J m Oe [])) (jj J 0 10 0 (akn a (a==7) b c) (e60 J m Oe []))))) (by simp only[au,nE m,Y3 m];rfl)
theorem auy m a b:e60 jn m [] [] ⟨[.row 0,.dat 26 a],[.row 193 b],1⟩=i60 (m+1) a b:=
 tq (g:=fun J=>(app b [int (wrap IntKind.u8 (I a 0))]).bind fun c=>cond (I a 0==3) (jj J 0 5 0 (ako (I a 0) (I a 0==3) c a) (e60 J m VI [])) (jj J 0 5 0 (ako (I a 0) (I a 0==10) c a) (e60 J m VI []))) (by simp only[au,Y4 m];rfl)
def arl:List Nat:=[1,1,1,0,1]
def Oi:List Nat:=[1,1,1,0,1,0]
def Oj:List Nat:=Oi++[0,1]
def arn:List Nat:=Oj++[1]
def aro:List Nat:=Oj++[0,0,1]
def akp:List Nat:=Oj++[0,0,0,1]
noncomputable def e71(J:Q49)(m:Nat):=evAt Tryz.prog env (ct m) J (m+1) 196 49 Tryz.f196 d41
noncomputable def l71(J:Q49)(m:Nat):=loopAt Tryz.prog env (ct m) J (m+1) 196 49 Tryz.f196 d41
noncomputable def kZ(a:ByteArray)(b c:Int):St:=⟨tsOf [(0,.dat 9 (.str a)),(4,.dat 3 (.int b)),(5,.dat 3 (.int c))],[],0⟩
noncomputable def akq(a:ByteArray)(b c:Int)(d:Bool):St:=⟨tsOf [(0,.dat 9 (.str a)),(4,.dat 3 (.int b)),(5,.dat 3 (.int c)),(39,.dat 4 (.bool d))],[],0⟩
noncomputable def arp(a:Int):St:=⟨tsOf [(4,.dat 3 (.int a))],[],0⟩
noncomputable def arq(a:ByteArray):St:=⟨tsOf [(0,.dat 9 (.str a))],[],0⟩
noncomputable def Ol(a:ByteArray)(b:Bool):St:=⟨tsOf [(0,.dat 9 (.str a)),(23,.dat 4 (.bool b))],[],0⟩
abbrev VJ(m e:Nat)(a:Q39):Prop:=∀b c d,l71 jn m Oi [] e (kZ b c d)=a b c d
theorem akr m b a(f:VJ m b a) c d e:e71 jn m arn [b] (kZ c d e)=aaI m a c d e:=
 tq (g:=fun J=>jj J 1 5 b (kZ c d (wrap .i64 (e+1))) (l71 J m Oi [] b)) (by simp only[au,f];rfl)
theorem aks m b a(f:VJ m b a) c e d:e71 jn m aro [b] (kZ c e d)=aaJ m a c e d:=
 tq (g:=fun J=>(idxS c d).bind fun h=>jj J 0 6 0 (kZ c (wrap .i64 (wrap .i64 (e*10)+wrap .i64 (wrap IntKind.u8 (h-48)))) d) (e71 J m arn [b])) (by simp only[au,akr m b a f];rfl)
theorem akt m b a(h:VJ m b a) c d e f:e71 jn m akp [b] (akq c d e f)=Sd m a c d e f:=
 tq (g:=fun J=>cond f (some (0,false)) (jj J 0 9 0 (kZ c d e) (e71 J m aro [b]))) (by simp only[au,aks m b a h];rfl)
theorem aku m d a(f:VJ m d a) b e c:e71 jn m Oj [d] (kZ b e c)=aaK m a b e c:=
 tq (g:=fun J=>(idxS b c).bind fun h=>cond (h<48) (jj J 0 8 0 (akq b e c true) (e71 J m akp [d])) ((idxS b c).bind fun i=>jj J 0 8 0 (akq b e c (decide (57<i))) (e71 J m akp [d]))) (by simp only[au,akt m d a f];rfl)
theorem akv m a:e71 jn m [1,1,1,1] [] (arp a)=aoo m a:=
 tq (g:=fun J=>some (a,true)) (by rfl)
theorem Om m:∀a b c d,l71 jn m Oi [] a (kZ b c d)=Ez m a b c d
 |0,_,_,_=>rfl
 |a+1,b,c,d=>
  tl (g:=fun J=>cond (d<(b.size:Int)) (jj J 0 7 0 (kZ b c d) (e71 J m Oj [a])) (jj J 0 10 0 (arp c) (e71 J m [1,1,1,1] []))) (by simp only[au,aku m a (Ez m a) (Om m a),akv m];rfl)
theorem akw m a b c:e71 jn m arl [] (kZ a b c)=aop m a b c:=
 tq (g:=fun J=>jj J 1 5 (succ m) (kZ a b c) (l71 J m Oi [] (succ m))) (by simp only[au,Om m];rfl)
theorem akx m a:e71 jn m [1,1] [] (arq a)=aoq m a:=
 tq (g:=fun J=>jj J 0 5 0 (kZ a 0 0) (e71 J m arl [])) (by simp only[au,akw m];rfl)
theorem aky m a b:e71 jn m [1,0,1] [] (Ol a b)=EA m a b:=
 tq (g:=fun J=>cond b (some (0,false)) (jj J 0 3 0 (arq a) (e71 J m [1,1] []))) (by simp only[au,akx m];rfl)
theorem axR m a:e71 jn m [] [] ⟨[.dat 9 (.str a)],[],0⟩=qY (m+1) a:=
 tq (g:=fun J=>cond ((a.size:Int)<1) (jj J 0 2 0 (Ol a true) (e71 J m [1,0,1] [])) (bif 4<(a.size:Int)then jj J 0 2 0 (Ol a true) (e71 J m [1,0,1] [])else(idxS a 0).bind fun b=>cond (b==48) (jj J 0 2 0 (Ol a (decide (1<(a.size:Int)))) (e71 J m [1,0,1] [])) (jj J 0 2 0 (Ol a false) (e71 J m [1,0,1] [])))) (by simp only[au,aky m];rfl)
def VK:List Nat:=[1,1,0,1,0]
def akz:List Nat:=[1,1,0,1,0,0,1]
def ars:List Nat:=akz++[1]
noncomputable def e72(J:Q1)(m:Nat):=evAt Tryz.prog env (ct m) J (m+1) 62 25 Tryz.f62 d40
noncomputable def l72(J:Q1)(m:Nat):=loopAt Tryz.prog env (ct m) J (m+1) 62 25 Tryz.f62 d40
noncomputable def o8(a:ByteArray)(b:Int)(c:Dt):St:=⟨tsOf [(1,.dat 9 (.str a)),(2,.ptr 0 [] 0),(5,.dat 3 (.int b))],[.box 26 (.dat 26 c)],0⟩
noncomputable def aru:St:=⟨tsOf [],[],0⟩
noncomputable def arv(a:ByteArray)(b:Dt):St:=⟨tsOf [(1,.dat 9 (.str a)),(2,.ptr 0 [] 0)],[.box 26 (.dat 26 b)],0⟩
abbrev arw(m e:Nat)(a:Q64):Prop:=∀b c d,l72 jn m VK [] e (o8 b c d)=a b c d
theorem akA m b a(f:arw m b a) c d e:e72 jn m ars [b] (o8 c d e)=aaL m a c d e:=
 tq (g:=fun J=>jj J 1 4 b (o8 c (wrap .i64 (d+1)) e) (l72 J m VK [] b)) (by simp only[au,f];rfl)
theorem akB m c a(f:arw m c a) d b e:e72 jn m akz [c] (o8 d b e)=aaM m a d b e:=
 tq (g:=fun J=>(idx (L e 4) b).bind fun h=>cond ((S h 0).toList==d.toList) (some b) (jj J 0 5 0 (o8 d b e) (e72 J m ars [c]))) (by simp only[au,akA m c a f];rfl)
theorem akC m:e72 jn m [1,1,1] [] aru=aaN m:=
 tq (g:=fun J=>some (-1)) (by rfl)
theorem Oo m:∀a d b c,l72 jn m VK [] a (o8 d b c)=EB m a d b c
 |0,_,_,_=>rfl
 |a+1,d,b,c=>
  tl (g:=fun J=>cond (b<((L c 4).length:Int)) (jj J 0 6 0 (o8 d b c) (e72 J m akz [a])) (jj J 0 8 0 aru (e72 J m [1,1,1] []))) (by simp only[au,akB m a (EB m a) (Oo m a),akC m];rfl)
theorem akD m a b c:e72 jn m [1,1,0,1] [] (o8 a b c)=aor m a b c:=
 tq (g:=fun J=>jj J 1 4 (succ m) (o8 a b c) (l72 J m VK [] (succ m))) (by simp only[au,Oo m];rfl)
theorem akE m a b:e72 jn m [1,1] [] (arv a b)=aos m a b:=
 tq (g:=fun J=>jj J 0 4 0 (o8 a 0 b) (e72 J m [1,1,0,1] [])) (by simp only[au,akD m];rfl)
theorem axS m a b:e72 jn m [] [] ⟨[.dat 26 a,.dat 9 (.str b)],[],0⟩=zR (m+1) a b:=
 tq (g:=fun J=>cond (I a 0 !=5) (some (-1)) (jj J 0 3 0 (arv b a) (e72 J m [1,1] []))) (by simp only[au,akE m];rfl)
def arx:List Nat:=[1,1,1,1,1]
def akF:List Nat:=[1,1,1,1,1,1]
def akG:List Nat:=[1,1,1,1,0,1]
def Oq:List Nat:=akG++[0]
def VL:List Nat:=Oq++[0,1]
def arz:List Nat:=VL++[1]
def akH:List Nat:=VL++[0,0,1,1]
noncomputable def e54(J:Q6)(m:Nat):=evAt Tryz.prog env (ct m) J (m+1) 105 50 Tryz.f105 d11
noncomputable def l54(J:Q6)(m:Nat):=loopAt Tryz.prog env (ct m) J (m+1) 105 50 Tryz.f105 d11
noncomputable def o9(a:ByteArray)(b c:Int)(d e f:Dt)(g:List Dt):St:=⟨tsOf [(1,.dat 9 (.str a)),(3,.ptr 0 [] 0),(5,.ptr 1 [] 0),(6,.ptr 2 [] 0),(7,.dat 3 (.int b)),(8,.row 3),(9,.dat 3 (.int c))],[.box 26 (.dat 26 d),.box 26 (.dat 26 e),.box 26 (.dat 26 f),.row 24 g],0⟩
noncomputable def akI(a:ByteArray)(b c:Int)(d e f:Dt)(g:List Dt)(h:Dt):St:=⟨tsOf [(1,.dat 9 (.str a)),(3,.ptr 0 [] 0),(5,.ptr 1 [] 0),(6,.ptr 2 [] 0),(7,.dat 3 (.int b)),(8,.row 3),(9,.dat 3 (.int c)),(10,.ptr 4 [] 0)],[.box 26 (.dat 26 d),.box 26 (.dat 26 e),.box 26 (.dat 26 f),.row 24 g,.box 48 (.dat 48 h)],0⟩
noncomputable def akJ(a b:Dt)(c:List Dt):St:=⟨tsOf [(3,.ptr 0 [] 0),(6,.ptr 1 [] 0),(8,.row 2)],[.box 26 (.dat 26 a),.box 26 (.dat 26 b),.row 24 c],0⟩
noncomputable def arA(a:ByteArray)(b:Int)(c d e:Dt)(f:List Dt):St:=⟨tsOf [(1,.dat 9 (.str a)),(3,.ptr 0 [] 0),(5,.ptr 1 [] 0),(6,.ptr 2 [] 0),(7,.dat 3 (.int b)),(8,.row 3)],[.box 26 (.dat 26 c),.box 26 (.dat 26 d),.box 26 (.dat 26 e),.row 24 f],0⟩
noncomputable def arC(a:ByteArray)(b c d:Dt):St:=⟨tsOf [(1,.dat 9 (.str a)),(3,.ptr 0 [] 0),(5,.ptr 1 [] 0),(6,.ptr 2 [] 0)],[.box 26 (.dat 26 b),.box 26 (.dat 26 c),.box 26 (.dat 26 d)],0⟩
abbrev akK(m i:Nat)(a:Q42):Prop:=∀b c d e f g h,l54 jn m Oq [] i (o9 b c d e f g h)=a b c d e f g h
theorem akL m b a(k:akK m b a) c d e f h i j:e54 jn m arz [b] (o9 c d e f h i j)=Sg m a c d e f h i j:=
 tq (g:=fun J=>jj J 1 6 b (o9 c d (wrap .i64 (e+1)) f h i j) (l54 J m Oq [] b)) (by simp only[au,k];rfl)
theorem akM m b a(l:akK m b a) c d e f h i j k:e54 jn m akH [b] (akI c d e f h i j k)=JM m a c d e f h i j k:=
 tq (g:=fun J=>(app j [k]).bind fun n=>jj J 0 7 0 (o9 c d e f h i n) (e54 J m arz [b])) (by simp only[au,akL m b a l];rfl)
theorem akN m c a(l:akK m c a) h d b e f i j:e54 jn m VL [c] (o9 h d b e f i j)=Si m a h d b e f i j:=
 tq (g:=fun J=>(idx (L e 4) b).bind fun k=>cond (b==d) (jj J 0 11 0 (akI h d b e f i j (agg [str (S k 0),f])) (e54 J m akH [c])) (jj J 0 11 0 (akI h d b e f i j k) (e54 J m akH [c]))) (by simp only[au,akM m c a l];rfl)
theorem akO m a c b:e54 jn m akF [] (akJ a c b)=JN m a c b:=
 tq (g:=fun J=>some (agg [int (I a 0),int (I a 1),str (S a 2),lst (L a 3),lst b])) (by rfl)
theorem akP m d e a f b c:e54 jn m arx [] (arA d e a f b c)=Sj m d e a f b c:=
 tq (g:=fun J=>cond (e<0) ((app c [agg [str d,f]]).bind fun h=>jj J 0 14 0 (akJ a b h) (e54 J m akF [])) (jj J 0 14 0 (akJ a b c) (e54 J m akF []))) (by simp only[au,akO m];rfl)
theorem Ot m:∀a c d e b f h i,l54 jn m Oq [] a (o9 c d e b f h i)=wu m a c d e b f h i
 |0,_,_,_,_,_,_,_=>rfl
 |a+1,c,d,e,b,f,h,i=>
  tl (g:=fun J=>cond (e<((L b 4).length:Int)) (jj J 0 8 0 (o9 c d e b f h i) (e54 J m VL [a])) (jj J 0 12 0 (arA c d b f h i) (e54 J m arx []))) (by simp only[au,akN m a (wu m a) (Ot m a),akP m];rfl)
theorem akQ m a b c d e f h:e54 jn m akG [] (o9 a b c d e f h)=aot m a b c d e f h:=
 tq (g:=fun J=>jj J 1 6 (succ m) (o9 a b c d e f h) (l54 J m Oq [] (succ m))) (by simp only[au,Ot m];rfl)
theorem akR m a b c d:e54 jn m [1,1] [] (arC a b c d)=Sk m a b c d:=
 tq (g:=fun J=>(zR m b a).bind fun e=>jj J 0 6 0 (o9 a e 0 b c d []) (e54 J m akG [])) (by simp only[au,akQ m];rfl)
theorem axT m a b c:e54 jn m [] [] ⟨[.dat 26 a,.dat 9 (.str b),.dat 26 c],[],0⟩=zD (m+1) a b c:=
 tq (g:=fun J=>cond (I a 0 !=5) (some a) (jj J 0 3 0 (arC b a c aX) (e54 J m [1,1] []))) (by simp only[au,akR m];rfl)
def VN:List Nat:=[1,1,1,0,1]
def tO:List Nat:=[1,1,1,0,1,0]
def GN:List Nat:=tO++[0,1]
def GQ:List Nat:=GN++[1]
def VO:List Nat:=GN++[0,0,1,1]
noncomputable def e31(J:Q6)(m:Nat):=evAt Tryz.prog env (ct m) J (m+1) 71 49 Tryz.f71 d11
noncomputable def l31(J:Q6)(m:Nat):=loopAt Tryz.prog env (ct m) J (m+1) 71 49 Tryz.f71 d11
noncomputable def mO(a b:Int)(c d:Dt)(e f:Int)(g:ByteArray)(h i:List Dt):St:=⟨tsOf [(0,.dat 3 (.int a)),(5,.ptr 0 [] 0),(6,.ptr 1 [] 0),(7,.ptr 2 [] 0),(8,.dat 3 (.int b))],[.box 26 (.dat 26 c),.box 26 (.dat 26 d),.box 26 (.agg 26 [.dat 3 (.int e),.dat 3 (.int f),.dat 9 (.str g),.row 3,.row 4]),.row 23 h,.row 24 i],0⟩
noncomputable def arD(a b:Int)(c d:Dt)(e f:Int)(g:ByteArray)(h i:List Dt)(j:Dt):St:=⟨tsOf [(0,.dat 3 (.int a)),(5,.ptr 0 [] 0),(6,.ptr 1 [] 0),(7,.ptr 2 [] 0),(8,.dat 3 (.int b)),(9,.ptr 5 [] 0)],[.box 26 (.dat 26 c),.box 26 (.dat 26 d),.box 26 (.agg 26 [.dat 3 (.int e),.dat 3 (.int f),.dat 9 (.str g),.row 3,.row 4]),.row 23 h,.row 24 i,.box 48 (.dat 48 j)],0⟩
noncomputable def arE(a:Dt)(b c:Int)(d:ByteArray)(e f:List Dt):St:=⟨tsOf [(6,.ptr 0 [] 0),(7,.ptr 1 [] 0)],[.box 26 (.dat 26 a),.box 26 (.agg 26 [.dat 3 (.int b),.dat 3 (.int c),.dat 9 (.str d),.row 2,.row 3]),.row 23 e,.row 24 f],0⟩
noncomputable def arF(a:Int)(b c:Dt)(d e:Int)(f:ByteArray)(g h:List Dt):St:=⟨tsOf [(0,.dat 3 (.int a)),(5,.ptr 0 [] 0),(6,.ptr 1 [] 0),(7,.ptr 2 [] 0)],[.box 26 (.dat 26 b),.box 26 (.dat 26 c),.box 26 (.agg 26 [.dat 3 (.int d),.dat 3 (.int e),.dat 9 (.str f),.row 3,.row 4]),.row 23 g,.row 24 h],0⟩
noncomputable def iO(a b:Int)(c d e:Dt):St:=⟨tsOf [(0,.dat 3 (.int a)),(5,.ptr 0 [] 0),(6,.ptr 1 [] 0),(7,.ptr 2 [] 0),(8,.dat 3 (.int b))],[.box 26 (.dat 26 c),.box 26 (.dat 26 d),.box 26 (.dat 26 e)],0⟩
noncomputable def akS(a b:Int)(c d e f:Dt):St:=⟨tsOf [(0,.dat 3 (.int a)),(5,.ptr 0 [] 0),(6,.ptr 1 [] 0),(7,.ptr 2 [] 0),(8,.dat 3 (.int b)),(9,.ptr 3 [] 0)],[.box 26 (.dat 26 c),.box 26 (.dat 26 d),.box 26 (.dat 26 e),.box 48 (.dat 48 f)],0⟩
noncomputable def akT(a b:Dt):St:=⟨tsOf [(6,.ptr 0 [] 0),(7,.ptr 1 [] 0)],[.box 26 (.dat 26 a),.box 26 (.dat 26 b)],0⟩
noncomputable def arG(a:Int)(b c d:Dt):St:=⟨tsOf [(0,.dat 3 (.int a)),(5,.ptr 0 [] 0),(6,.ptr 1 [] 0),(7,.ptr 2 [] 0)],[.box 26 (.dat 26 b),.box 26 (.dat 26 c),.box 26 (.dat 26 d)],0⟩
abbrev akU(m k:Nat)(a:Q43):Prop:=∀b c d e f g h i j,l31 jn m tO [] k (mO b c d e f g h i j)=a b c d e f g h i j
theorem Ou m b a(n:akU m b a) c d e f h i j k l:e31 jn m GQ [b] (mO c d e f h i j k l)=JO m a c d e f h i j k l:=
 tq (g:=fun J=>jj J 1 5 b (mO c (wrap .i64 (d+1)) e f h i j k l) (l31 J m tO [] b)) (by simp only[au,n];rfl)
theorem akV m b a(o:akU m b a) c d e f h i j k l n:e31 jn m VO [b] (arD c d e f h i j k l n)=aaO m a c d e f h i j k l n:=
 tq (g:=fun J=>cond (c==1) ((app l [n]).bind fun p=>jj J 0 6 0 (mO c d e f h i j k p) (e31 J m GQ [b])) none) (by simp only[au,Ou m b a o];rfl)
theorem akW m b a(n:akU m b a) e c d f h i j k l:e31 jn m GN [b] (mO e c d f h i j k l)=aaP m a e c d f h i j k l:=
 tq (g:=fun J=>(idx (L d 4) c).bind fun o=>bif (S o 0).toList==[95,105,100]then jj J 0 6 0 (mO e c d f h i j k l) (e31 J m GQ [b])else jj J 0 9 0 (arD e c d f h i j k l o) (e31 J m VO [b])) (by simp only[au,Ou m b a n,akV m b a n];rfl)
theorem akX m f a b c d e:e31 jn m [1,1,1,1] [] (arE f a b c d e)=aou m f a b c d e:=
 tq (g:=fun J=>some (agg [int a,int b,str c,lst d,lst e])) (by rfl)
theorem Ov m:∀a k b c d e f h i j,l31 jn m tO [] a (mO k b c d e f h i j)=EC m a k b c d e f h i j
 |0,_,_,_,_,_,_,_,_,_=>rfl
 |a+1,k,b,c,d,e,f,h,i,j=>
  tl (g:=fun J=>cond (b<((L c 4).length:Int)) (jj J 0 7 0 (mO k b c d e f h i j) (e31 J m GN [a])) (jj J 0 12 0 (arE d e f h i j) (e31 J m [1,1,1,1] []))) (by simp only[au,akW m a (EC m a) (Ov m a),akX m];rfl)
theorem akY m a b c d e f h i j:e31 jn m VN [] (mO a b c d e f h i j)=aov m a b c d e f h i j:=
 tq (g:=fun J=>jj J 1 5 (succ m) (mO a b c d e f h i j) (l31 J m tO [] (succ m))) (by simp only[au,Ov m];rfl)
theorem akZ m a b c d e f h i:e31 jn m [1,1,1] [] (arF a b c d e f h i)=aow m a b c d e f h i:=
 tq (g:=fun J=>jj J 0 5 0 (mO a 0 b c d e f h i) (e31 J m VN [])) (by simp only[au,akY m];rfl)
abbrev ak0(m g:Nat)(a:Q44):Prop:=∀b c d e f,l31 jn m tO [] g (iO b c d e f)=a b c d e f
theorem GR m b a(i:ak0 m b a) c d e f h:e31 jn m GQ [b] (iO c d e f h)=y7 m a c d e f h:=
 tq (g:=fun J=>jj J 1 5 b (iO c (wrap .i64 (d+1)) e f h) (l31 J m tO [] b)) (by simp only[au,i];rfl)
theorem Y5 m b a(j:ak0 m b a) c e f h i d:e31 jn m VO [b] (akS c e f h i d)=HY m a c e f h i d:=
 tq (g:=fun J=>cond (c==1) none ((zD m i (S d 0) (fld d 1)).bind fun k=>jj J 0 6 0 (iO c e f h k) (e31 J m GQ [b]))) (by simp only[au,GR m b a j];rfl)
theorem Y6 m b a(i:ak0 m b a) e c d f h:e31 jn m GN [b] (iO e c d f h)=PS m a e c d f h:=
 tq (g:=fun J=>(idx (L d 4) c).bind fun j=>bif (S j 0).toList==[95,105,100]then jj J 0 6 0 (iO e c d f h) (e31 J m GQ [b])else jj J 0 9 0 (akS e c d f h j) (e31 J m VO [b])) (by simp only[au,GR m b a i,Y5 m b a i];rfl)
theorem Y7 m b a:e31 jn m [1,1,1,1] [] (akT b a)=aaQ m b a:=
 tq (g:=fun J=>some a) (by rfl)
theorem Ow m:∀a f b c d e,l31 jn m tO [] a (iO f b c d e)=ED m a f b c d e
 |0,_,_,_,_,_=>rfl
 |a+1,f,b,c,d,e=>
  tl (g:=fun J=>cond (b<((L c 4).length:Int)) (jj J 0 7 0 (iO f b c d e) (e31 J m GN [a])) (jj J 0 12 0 (akT d e) (e31 J m [1,1,1,1] []))) (by simp only[au,Y6 m a (ED m a) (Ow m a),Y7 m];rfl)
theorem ak1 m a b c d e:e31 jn m VN [] (iO a b c d e)=aox m a b c d e:=
 tq (g:=fun J=>jj J 1 5 (succ m) (iO a b c d e) (l31 J m tO [] (succ m))) (by simp only[au,Ow m];rfl)
theorem ak2 m a b c d:e31 jn m [1,1,1] [] (arG a b c d)=aoy m a b c d:=
 tq (g:=fun J=>jj J 0 5 0 (iO a 0 b c d) (e31 J m VN [])) (by simp only[au,ak1 m];rfl)
theorem axU m a b c:e31 jn m [] [] ⟨[.dat 3 (.int a),.dat 26 b,.dat 26 c],[],0⟩=qM (m+1) a b c:=
 tq (g:=fun J=>cond (a==1) ((idx (L b 4) 0).bind fun d=>jj J 0 4 0 (arF a c aX 5 0 (ByteArray.mk (List.toArray [])) [] [d]) (e31 J m [1,1,1] [])) (jj J 0 4 0 (arG a c aX b) (e31 J m [1,1,1] []))) (by simp only[au,akZ m,ak2 m];rfl)
noncomputable def e70(J:Q34)(m:Nat):=evAt Tryz.prog env (ct m) J (m+1) 23 19 Tryz.f23 d44
noncomputable def arH(a:Int)(b c:Dt):St:=⟨tsOf [(2,.ptr 0 [] 0),(4,.ptr 1 [] 0),(6,.dat 3 (.int a))],[.box 26 (.dat 26 b),.box 26 (.dat 26 c)],0⟩
theorem ak3 m a b c:e70 jn m [1,1,1] [] (arH a b c)=aaR m a b c:=
 tq (g:=fun J=>(idx (L b 4) a).bind fun d=>some (fld d 1,true)) (by rfl)
theorem axV m a b:e70 jn m [] [] ⟨[.dat 26 a,.dat 9 (.str b)],[],0⟩=yI (m+1) a b:=
 tq (g:=fun J=>(zR m a b).bind fun c=>cond (c<0) (some (aX,false)) (jj J 0 4 0 (arH c a aX) (e70 J m [1,1,1] []))) (by simp only[au,ak3 m];rfl)
def ak4:List Nat:=[1,1,1,0,1,0,1,1]
noncomputable def e50(J:Q6)(m:Nat):=evAt Tryz.prog env (ct m) J (m+1) 143 56 Tryz.f143 d11
noncomputable def ak5(a:Dt):St:=⟨tsOf [(4,.ptr 0 [] 0)],[.box 26 (.dat 26 a)],0⟩
noncomputable def ak6(a:List Dt)(b:Int)(c:Bool)(d e:Dt):St:=⟨tsOf [(1,.dat 22 (.lst a)),(2,.ptr 0 [] 0),(4,.ptr 1 [] 0),(7,.dat 3 (.int b)),(46,.dat 4 (.bool c))],[.box 26 (.dat 26 d),.box 26 (.dat 26 e)],0⟩
noncomputable def Ox(a:List Dt)(b c:Dt):St:=⟨tsOf [(1,.dat 22 (.lst a)),(2,.ptr 0 [] 0),(4,.ptr 1 [] 0)],[.box 26 (.dat 26 b),.box 26 (.dat 26 c)],0⟩
theorem Oy m a:e50 jn m [1,1,1,1] [] (ak5 a)=y8 m (zO m) a:=
 tq (g:=fun J=>some aX) (by rfl)
theorem ak7 m a b c d e:e50 jn m ak4 [] (ak6 a b c d e)=EF m (zO m) a b c d e:=
 tq (g:=fun J=>cond c ((idx (L d 3) b).bind fun f=>(cutL a 1 (a.length:Int)).bind fun h=>(zO m f h).bind fun i=>some i) (jj J 0 11 0 (ak5 e) (e50 J m [1,1,1,1] []))) (by simp only[au,Oy m];rfl)
theorem ak8 m b a c:e50 jn m [1,1,1] [] (Ox b a c)=wz m (zO m) b a c:=
 tq (g:=fun J=>cond (I a 0==6) ((idx b 0).bind fun e=>(qY m (toStr e)).bind fun d=>cond d.2 (jj J 0 10 0 (ak6 b d.1 (decide (d.1<((L a 3).length:Int))) a c) (e50 J m ak4 [])) (jj J 0 10 0 (ak6 b d.1 false a c) (e50 J m ak4 []))) (jj J 0 11 0 (ak5 c) (e50 J m [1,1,1,1] []))) (by simp only[au,ak7 m,Oy m];rfl)
theorem ak9 m a b c:e50 jn m [1,1] [] (Ox a b c)=aaS m (zO m) a b c:=
 tq (g:=fun J=>cond (I b 0==5) ((idx a 0).bind fun e=>(yI m b (toStr e)).bind fun d=>cond d.2 ((cutL a 1 (a.length:Int)).bind fun f=>(zO m d.1 f).bind fun h=>some h) (jj J 0 7 0 (Ox a b c) (e50 J m [1,1,1] []))) (jj J 0 7 0 (Ox a b c) (e50 J m [1,1,1] []))) (by simp only[au,ak8 m];rfl)
theorem axW m a b:e50 jn m [] [] ⟨[.dat 26 a,.dat 22 (.lst b)],[],0⟩=zO (m+1) a b:=
 tq (g:=fun J=>cond ((b.length:Int)==0) (some a) (jj J 0 3 0 (Ox b a aX) (e50 J m [1,1] []))) (by simp only[au,ak9 m];rfl)
noncomputable def e29(J:Q6)(m:Nat):=evAt Tryz.prog env (ct m) J (m+1) 104 14 Tryz.f104 d11
noncomputable def arI(a b:Dt):St:=⟨tsOf [(4,.ptr 0 [] 0),(5,.ptr 1 [] 0)],[.box 26 (.dat 26 a),.box 26 (.dat 26 b)],0⟩
theorem ala m b a:e29 jn m [1,1,1] [] (arI b a)=aoz m b a:=
 tq (g:=fun J=>some a) (by rfl)
theorem axX m a b:e29 jn m [] [] ⟨[.dat 26 a,.dat 22 (.lst b)],[],0⟩=yA (m+1) a b:=
 tq (g:=fun J=>(zO m a b).bind fun c=>cond (I c 0==0) ((yQ m).bind fun d=>some d) (jj J 0 4 0 (arI aX c) (e29 J m [1,1,1] []))) (by simp only[au,ala m];rfl)
def VP:List Nat:=[1,1,0,1,0]
def Oz:List Nat:=[1,1,0,1,0,0,1]
def alb:List Nat:=Oz++[1]
def arJ:List Nat:=Oz++[0,0,1,1]
def alc:List Nat:=Oz++[0,0,1,0,1]
def OA:List Nat:=alc++[0]
def ald:List Nat:=OA++[0,1]
def ale:List Nat:=ald++[1]
noncomputable def e28(J:Q82)(m:Nat):=evAt Tryz.prog env (ct m) J (m+1) 70 49 Tryz.f70 d28
noncomputable def l28(J:Q82)(m:Nat):=loopAt Tryz.prog env (ct m) J (m+1) 70 49 Tryz.f70 d28
noncomputable def mP(a:List Dt)(b:Int)(c:Bool)(d:Int)(e:List Dt)(f:Dt)(g:List Dt):St:=⟨tsOf [(0,.dat 49 (.lst a)),(1,.row 0),(5,.ptr 1 [] 0),(7,.row 2),(8,.dat 3 (.int b)),(9,.dat 4 (.bool c)),(10,.dat 3 (.int d))],[.row 23 e,.box 26 (.dat 26 f),.row 75 g],1⟩
noncomputable def mQ(a:List Dt)(b:Int)(c:List Dt)(d:Dt)(e:List Dt):St:=⟨tsOf [(0,.dat 49 (.lst a)),(1,.row 0),(5,.ptr 1 [] 0),(7,.row 2),(8,.dat 3 (.int b))],[.row 23 c,.box 26 (.dat 26 d),.row 75 e],1⟩
noncomputable def arK(a:List Dt)(b:Int)(c:Bool)(d:List Dt)(e:Dt)(f:List Dt):St:=⟨tsOf [(0,.dat 49 (.lst a)),(1,.row 0),(5,.ptr 1 [] 0),(7,.row 2),(8,.dat 3 (.int b)),(9,.dat 4 (.bool c))],[.row 23 d,.box 26 (.dat 26 e),.row 75 f],1⟩
noncomputable def arL(a b:List Dt):St:=⟨tsOf [(7,.row 1)],[.row 23 a,.row 75 b],1⟩
abbrev Dm(m g:Nat)(a:Q23):Prop:=∀b c d e f,l28 jn m VP [] g (mQ b c d e f)=a b c d e f
abbrev arM(m i j:Nat)(a:Q65):Prop:=∀b c d e f g h,l28 jn m OA [i] j (mP b c d e f g h)=a b c d e f g h
theorem Y8 m c a(o:Dm m c a) d b(n:arM m c d b) e f h i j k l:e28 jn m ale [c,d] (mP e f h i j k l)=y9 m a b e f h i j k l:=
 tq (g:=fun J=>jj J 1 7 d (mP e f h (wrap .i64 (i+1)) j k l) (l28 J m OA [c] d)) (by simp only[au,n];rfl)
theorem Y9 m c a(n:Dm m c a) i b(o:arM m c i b) d e l f h j k:e28 jn m ald [c,i] (mP d e l f h j k)=PU m a b d e l f h j k:=
 tq (g:=fun J=>cond l ((inL h e).bind fun v=>(h[e.toNat]?).bind fun p=>(idx d f).bind fun q=>(yA m p (toLst q)).bind fun r=>(idx d f).bind fun s=>(yA m j (toLst s)).bind fun t=>(qA m r t).bind fun u=>jj J 0 8 0 (mP d e (u==0) f h j k) (e28 J m ale [c,i])) (jj J 0 8 0 (mP d e false f h j k) (e28 J m ale [c,i]))) (by simp only[au,Y8 m c a n i b o];rfl)
theorem Za m b a(i:Dm m b a) c d e f h:e28 jn m alb [b] (mQ c d e f h)=ze m a c d e f h:=
 tq (g:=fun J=>jj J 1 3 b (mQ c (wrap .i64 (d+1)) e f h) (l28 J m VP [] b)) (by simp only[au,i];rfl)
theorem Zb m b a(j:Dm m b a) d c i e f h:e28 jn m arJ [b] (arK d c i e f h)=HZ m a d c i e f h:=
 tq (g:=fun J=>cond i ((app h [int c]).bind fun k=>jj J 0 4 0 (mQ d c e f k) (e28 J m alb [b])) (jj J 0 4 0 (mQ d c e f h) (e28 J m alb [b]))) (by simp only[au,Za m b a j];rfl)
theorem GU m b a(l:Dm m b a):∀c d e f h i j k,l28 jn m OA [b] c (mP d e f h i j k)=pR m a c d e f h i j k
 |0,_,_,_,_,_,_,_=>rfl
 |c+1,d,e,f,h,i,j,k=>
  tl (g:=fun J=>cond (h<(d.length:Int)) (jj J 0 9 0 (mP d e f h i j k) (e28 J m ald [b,c])) (jj J 0 10 0 (arK d e f i j k) (e28 J m arJ [b]))) (by simp only[au,Y9 m b a l c (pR m a c) (GU m b a l c),Zb m b a l];rfl)
theorem Zc m b a(k:Dm m b a) c d e f h i j:e28 jn m alc [b] (mP c d e f h i j)=aaT m a c d e f h i j:=
 tq (g:=fun J=>jj J 1 7 (succ m) (mP c d e f h i j) (l28 J m OA [b] (succ m))) (by simp only[au,GU m b a k];rfl)
theorem Zd m b a(i:Dm m b a) c d e f h:e28 jn m Oz [b] (mQ c d e f h)=aaU m a c d e f h:=
 tq (g:=fun J=>jj J 0 7 0 (mP c d true 0 e f h) (e28 J m alc [b])) (by simp only[au,Zc m b a i];rfl)
theorem Ze m a b:e28 jn m [1,1,1] [] (arL a b)=aaV m a b:=
 tq (g:=fun J=>some (b,a)) (by rfl)
theorem GV m:∀a e c b f d,l28 jn m VP [] a (mQ e c b f d)=pU m a e c b f d
 |0,_,_,_,_,_=>rfl
 |a+1,e,c,b,f,d=>
  tl (g:=fun J=>cond (c<(b.length:Int)) (jj J 0 5 0 (mQ e c b f d) (e28 J m Oz [a])) (jj J 0 12 0 (arL b d) (e28 J m [1,1,1] []))) (by simp only[au,Zd m a (pU m a) (GV m a),Ze m];rfl)
theorem Zf m a b c d e:e28 jn m [1,1,0,1] [] (mQ a b c d e)=aaW m a b c d e:=
 tq (g:=fun J=>jj J 1 3 (succ m) (mQ a b c d e) (l28 J m VP [] (succ m))) (by simp only[au,GV m];rfl)
theorem auz m a b c:e28 jn m [] [] ⟨[.dat 49 (.lst a),.row 0,.dat 26 b],[.row 23 c],1⟩=i28 (m+1) a b c:=
 tq (g:=fun J=>jj J 0 3 0 (mQ a 0 c b []) (e28 J m [1,1,0,1] [])) (by simp only[au,Zf m];rfl)
noncomputable def e78(J:Q1)(m:Nat):=evAt Tryz.prog env (ct m) J (m+1) 218 14 Tryz.f218 d40
noncomputable def arN(a:Dt)(b c:Int):St:=⟨tsOf [(2,.ptr 0 [] 0),(3,.ptr 1 [] 0),(5,.ptr 2 [] 0)],[.box 26 (.dat 26 a),.box 3 (.dat 3 (.int b)),.box 3 (.dat 3 (.int c))],0⟩
theorem alf m a b c:e78 jn m [1,1,1] [] (arN a b c)=aaX m (i89 m) a b c:=
 tq (g:=fun J=>(i89 m a c b).bind fun d=>some d.1) (by rfl)
theorem axY m b a:e78 jn m [] [] ⟨[.dat 26 b,.dat 3 (.int a)],[],0⟩=z7 (m+1) b a:=
 tq (g:=fun J=>cond (1==a) (some 1) (jj J 0 4 0 (arN b a 1) (e78 J m [1,1,1] []))) (by simp only[au,alf m];rfl)
def alg:List Nat:=[1,1,0,1,0,1]
def OB:List Nat:=alg++[0]
def alh:List Nat:=[1,1,0,1,1,1,0,1]
def OC:List Nat:=alh++[0]
def ali:List Nat:=OB++[0,1,1]
def arO:List Nat:=ali++[1]
def alj:List Nat:=OC++[0,1,1]
def arP:List Nat:=alj++[1]
noncomputable def e89(J:Q25)(m:Nat):=evAt Tryz.prog env (ct m) J (m+1) 234 39 Tryz.f234 d89
noncomputable def l89(J:Q25)(m:Nat):=loopAt Tryz.prog env (ct m) J (m+1) 234 39 Tryz.f234 d89
noncomputable def pq(a:List Dt)(b c d e:Int):St:=⟨tsOf [(1,(.fn 235 [.ptr 0 [] 0,.ptr 1 [] 0])),(13,.dat 23 (.lst a)),(14,.dat 3 (.int b)),(15,.dat 3 (.int c))],[.box 3 (.dat 3 (.int d)),.box 3 (.dat 3 (.int e))],2⟩
noncomputable def pz(a:List Dt)(b c d e:Int):St:=⟨tsOf [(1,(.fn 235 [.ptr 0 [] 0,.ptr 1 [] 0])),(27,.dat 24 (.lst a)),(28,.dat 3 (.int b)),(29,.dat 3 (.int c))],[.box 3 (.dat 3 (.int d)),.box 3 (.dat 3 (.int e))],2⟩
abbrev arQ(m g:Nat)(a:Q11):Prop:=∀b c d e f,l89 jn m OB [] g (pq b c d e f)=a b c d e f
theorem Zg m b a(i:arQ m b a) c d e f h:e89 jn m arO [b] (pq c d e f h)=uo m (i90 m) a c d e f h:=
 tq (g:=fun J=>jj J 1 4 b (pq c d (wrap .i64 (e+1)) f h) (l89 J m OB [] b)) (by simp only[au,i];rfl)
theorem Zh m c a(j:arQ m c a) d f e h i:e89 jn m ali [c] (pq d f e h i)=uq m (i90 m) a d f e h i:=
 tq (g:=fun J=>(idx d e).bind fun k=>(i90 m k h i).bind fun b=>cond (!b.1) (some (b.2.1,b.2.2)) (jj J 0 7 0 (pq d f e b.2.1 b.2.2) (e89 J m arO [c]))) (by simp only[au,Zg m c a j];rfl)
theorem GX m:∀a f b c d e,l89 jn m OB [] a (pq f b c d e)=pV m (i90 m) a f b c d e
 |0,_,_,_,_,_=>rfl
 |a+1,f,b,c,d,e=>
  tl (g:=fun J=>cond (c<b) (jj J 0 5 0 (pq f b c d e) (e89 J m ali [a])) (some (d,e))) (by simp only[au,Zh m a (pV m (i90 m) a) (GX m a)];rfl)
theorem Zi m a b c d e:e89 jn m alg [] (pq a b c d e)=uw m (i90 m) a b c d e:=
 tq (g:=fun J=>jj J 1 4 (succ m) (pq a b c d e) (l89 J m OB [] (succ m))) (by simp only[au,GX m];rfl)
abbrev arR(m g:Nat)(a:Q11):Prop:=∀b c d e f,l89 jn m OC [] g (pz b c d e f)=a b c d e f
theorem Zj m b a(i:arR m b a) c d e f h:e89 jn m arP [b] (pz c d e f h)=uy m (i90 m) a c d e f h:=
 tq (g:=fun J=>jj J 1 10 b (pz c d (wrap .i64 (e+1)) f h) (l89 J m OC [] b)) (by simp only[au,i];rfl)
theorem Zk m c a(j:arR m c a) d f e h i:e89 jn m alj [c] (pz d f e h i)=uz m (i90 m) a d f e h i:=
 tq (g:=fun J=>(idx d e).bind fun k=>(i90 m (fld k 1) h i).bind fun b=>cond (!b.1) (some (b.2.1,b.2.2)) (jj J 0 13 0 (pz d f e b.2.1 b.2.2) (e89 J m arP [c]))) (by simp only[au,Zj m c a j];rfl)
theorem GY m:∀a f b c d e,l89 jn m OC [] a (pz f b c d e)=pW m (i90 m) a f b c d e
 |0,_,_,_,_,_=>rfl
 |a+1,f,b,c,d,e=>
  tl (g:=fun J=>cond (c<b) (jj J 0 11 0 (pz f b c d e) (e89 J m alj [a])) (some (d,e))) (by simp only[au,Zk m a (pW m (i90 m) a) (GY m a)];rfl)
theorem Zl m a b c d e:e89 jn m alh [] (pz a b c d e)=uD m (i90 m) a b c d e:=
 tq (g:=fun J=>jj J 1 10 (succ m) (pz a b c d e) (l89 J m OC [] (succ m))) (by simp only[au,GY m];rfl)
theorem auA m a b c:e89 jn m [] [] ⟨[.dat 26 a,(.fn 235 [.ptr 0 [] 0,.ptr 1 [] 0])],[.box 3 (.dat 3 (.int b)),.box 3 (.dat 3 (.int c))],2⟩=i89 (m+1) a b c:=
 tq (g:=fun J=>cond (I a 0==6) (jj J 0 4 0 (pq (L a 3) ((L a 3).length:Int) 0 b c) (e89 J m alg [])) (cond (I a 0==5) (jj J 0 10 0 (pz (L a 4) ((L a 4).length:Int) 0 b c) (e89 J m alh [])) (some (b,c)))) (by simp only[au,Zi m,Zl m];rfl)
noncomputable def e90(J:Q50)(m:Nat):=evAt Tryz.prog env (ct m) J (m+1) 235 15 Tryz.f235 d90
theorem auB m c a b:e90 jn m [] [] ⟨[.dat 26 c,.ptr 0 [] 0,.ptr 1 [] 0],[.box 3 (.dat 3 (.int a)),.box 3 (.dat 3 (.int b))],2⟩=i90 (m+1) c a b:=
 tq (g:=fun J=>(z7 m c (wrap .i64 (b-a))).bind fun d=>some (decide (wrap .i64 (a+d)<b),wrap .i64 (a+d),b)) (by rfl)
noncomputable def e64(J:Q1)(m:Nat):=evAt Tryz.prog env (ct m) J (m+1) 169 5 Tryz.f169 d40
theorem axZ m a:e64 jn m [] [] ⟨[.dat 26 a],[],0⟩=yK (m+1) a:=
 tq (g:=fun J=>(z7 m a 1025).bind fun b=>some b) (by rfl)
noncomputable def e79(J:Q1)(m:Nat):=evAt Tryz.prog env (ct m) J (m+1) 219 13 Tryz.f219 d40
noncomputable def arS(a:Dt)(b:Int):St:=⟨tsOf [(2,.ptr 0 [] 0),(3,.ptr 1 [] 0)],[.box 26 (.dat 26 a),.box 3 (.dat 3 (.int b))],0⟩
theorem alk m a b:e79 jn m [1,1] [] (arS a b)=aaY m (i91 m) a b:=
 tq (g:=fun J=>(i91 m a 0 b).bind fun c=>some (wrap .i64 (1+c.1))) (by rfl)
theorem ax0 m b a:e79 jn m [] [] ⟨[.dat 26 b,.dat 3 (.int a)],[],0⟩=z8 (m+1) b a:=
 tq (g:=fun J=>cond (a==1) (some 1) (jj J 0 3 0 (arS b a) (e79 J m [1,1] []))) (by simp only[au,alk m];rfl)
def alm:List Nat:=[1,1,0,1,0,1]
def OD:List Nat:=alm++[0]
def aln:List Nat:=[1,1,0,1,1,1,0,1]
def OE:List Nat:=aln++[0]
def alo:List Nat:=OD++[0,1,1]
def arT:List Nat:=alo++[1]
def alp:List Nat:=OE++[0,1,1]
def arU:List Nat:=alp++[1]
noncomputable def e91(J:Q25)(m:Nat):=evAt Tryz.prog env (ct m) J (m+1) 234 39 Tryz.f234 d89
noncomputable def l91(J:Q25)(m:Nat):=loopAt Tryz.prog env (ct m) J (m+1) 234 39 Tryz.f234 d89
noncomputable def pE(a:List Dt)(b c d e:Int):St:=⟨tsOf [(1,(.fn 236 [.ptr 0 [] 0,.ptr 1 [] 0])),(13,.dat 23 (.lst a)),(14,.dat 3 (.int b)),(15,.dat 3 (.int c))],[.box 3 (.dat 3 (.int d)),.box 3 (.dat 3 (.int e))],2⟩
noncomputable def pF(a:List Dt)(b c d e:Int):St:=⟨tsOf [(1,(.fn 236 [.ptr 0 [] 0,.ptr 1 [] 0])),(27,.dat 24 (.lst a)),(28,.dat 3 (.int b)),(29,.dat 3 (.int c))],[.box 3 (.dat 3 (.int d)),.box 3 (.dat 3 (.int e))],2⟩
abbrev arV(m g:Nat)(a:Q11):Prop:=∀b c d e f,l91 jn m OD [] g (pE b c d e f)=a b c d e f
theorem Zm m b a(i:arV m b a) c d e f h:e91 jn m arT [b] (pE c d e f h)=uE m (i92 m) a c d e f h:=
 tq (g:=fun J=>jj J 1 4 b (pE c d (wrap .i64 (e+1)) f h) (l91 J m OD [] b)) (by simp only[au,i];rfl)
theorem Zn m c a(j:arV m c a) d f e h i:e91 jn m alo [c] (pE d f e h i)=uF m (i92 m) a d f e h i:=
 tq (g:=fun J=>(idx d e).bind fun k=>(i92 m k h i).bind fun b=>cond (!b.1) (some (b.2.1,b.2.2)) (jj J 0 7 0 (pE d f e b.2.1 b.2.2) (e91 J m arT [c]))) (by simp only[au,Zm m c a j];rfl)
theorem GZ m:∀a f b c d e,l91 jn m OD [] a (pE f b c d e)=pX m (i92 m) a f b c d e
 |0,_,_,_,_,_=>rfl
 |a+1,f,b,c,d,e=>
  tl (g:=fun J=>cond (c<b) (jj J 0 5 0 (pE f b c d e) (e91 J m alo [a])) (some (d,e))) (by simp only[au,Zn m a (pX m (i92 m) a) (GZ m a)];rfl)
theorem Zo m a b c d e:e91 jn m alm [] (pE a b c d e)=uG m (i92 m) a b c d e:=
 tq (g:=fun J=>jj J 1 4 (succ m) (pE a b c d e) (l91 J m OD [] (succ m))) (by simp only[au,GZ m];rfl)
abbrev arW(m g:Nat)(a:Q11):Prop:=∀b c d e f,l91 jn m OE [] g (pF b c d e f)=a b c d e f
theorem Zp m b a(i:arW m b a) c d e f h:e91 jn m arU [b] (pF c d e f h)=uI m (i92 m) a c d e f h:=
 tq (g:=fun J=>jj J 1 10 b (pF c d (wrap .i64 (e+1)) f h) (l91 J m OE [] b)) (by simp only[au,i];rfl)
theorem Zq m c a(j:arW m c a) d f e h i:e91 jn m alp [c] (pF d f e h i)=uJ m (i92 m) a d f e h i:=
 tq (g:=fun J=>(idx d e).bind fun k=>(i92 m (fld k 1) h i).bind fun b=>cond (!b.1) (some (b.2.1,b.2.2)) (jj J 0 13 0 (pF d f e b.2.1 b.2.2) (e91 J m arU [c]))) (by simp only[au,Zp m c a j];rfl)
theorem G5 m:∀a f b c d e,l91 jn m OE [] a (pF f b c d e)=pY m (i92 m) a f b c d e
 |0,_,_,_,_,_=>rfl
 |a+1,f,b,c,d,e=>
  tl (g:=fun J=>cond (c<b) (jj J 0 11 0 (pF f b c d e) (e91 J m alp [a])) (some (d,e))) (by simp only[au,Zq m a (pY m (i92 m) a) (G5 m a)];rfl)
theorem Zr m a b c d e:e91 jn m aln [] (pF a b c d e)=uK m (i92 m) a b c d e:=
 tq (g:=fun J=>jj J 1 10 (succ m) (pF a b c d e) (l91 J m OE [] (succ m))) (by simp only[au,G5 m];rfl)
theorem auC m a b c:e91 jn m [] [] ⟨[.dat 26 a,(.fn 236 [.ptr 0 [] 0,.ptr 1 [] 0])],[.box 3 (.dat 3 (.int b)),.box 3 (.dat 3 (.int c))],2⟩=i91 (m+1) a b c:=
 tq (g:=fun J=>cond (I a 0==6) (jj J 0 4 0 (pE (L a 3) ((L a 3).length:Int) 0 b c) (e91 J m alm [])) (cond (I a 0==5) (jj J 0 10 0 (pF (L a 4) ((L a 4).length:Int) 0 b c) (e91 J m aln [])) (some (b,c)))) (by simp only[au,Zo m,Zr m];rfl)
noncomputable def e92(J:Q50)(m:Nat):=evAt Tryz.prog env (ct m) J (m+1) 236 15 Tryz.f236 d90
theorem auD m d a b:e92 jn m [] [] ⟨[.dat 26 d,.ptr 0 [] 0,.ptr 1 [] 0],[.box 3 (.dat 3 (.int a)),.box 3 (.dat 3 (.int b))],2⟩=i92 (m+1) d a b:=
 tq (g:=fun J=>(z8 m d (wrap .i64 (b-1))).bind fun c=>some (decide (cond (a<c) c a<wrap .i64 (b-1)),cond (a<c) c a,b)) (by rfl)
noncomputable def e65(J:Q1)(m:Nat):=evAt Tryz.prog env (ct m) J (m+1) 170 5 Tryz.f170 d40
theorem ax1 m a:e65 jn m [] [] ⟨[.dat 26 a],[],0⟩=yM (m+1) a:=
 tq (g:=fun J=>(z8 m a 17).bind fun b=>some b) (by rfl)
def VQ:List Nat:=[1,1,0,1,0]
def alq:List Nat:=[1,1,0,1,0,0,1]
def arX:List Nat:=alq++[1]
noncomputable def e82(J:Q1)(m:Nat):=evAt Tryz.prog env (ct m) J (m+1) 240 14 Tryz.f240 d40
noncomputable def l82(J:Q1)(m:Nat):=loopAt Tryz.prog env (ct m) J (m+1) 240 14 Tryz.f240 d40
noncomputable def pG(a b:Int):St:=⟨tsOf [(3,.dat 3 (.int a)),(4,.dat 215 (.int b))],[],0⟩
noncomputable def arY(a:Int):St:=⟨tsOf [(3,.dat 3 (.int a))],[],0⟩
abbrev arZ(m d:Nat)(a:Q66):Prop:=∀b c,l82 jn m VQ [] d (pG b c)=a b c
theorem alr m b a(e:arZ m b a) c d:e82 jn m arX [b] (pG c d)=aaZ m a c d:=
 tq (g:=fun J=>jj J 1 3 b (pG c (shrI IntKind.u64 d 7)) (l82 J m VQ [] b)) (by simp only[au,e];rfl)
theorem als m b a(e:arZ m b a) c d:e82 jn m alq [b] (pG c d)=aa0 m a c d:=
 tq (g:=fun J=>jj J 0 4 0 (pG (wrap .i64 (c+1)) d) (e82 J m arX [b])) (by simp only[au,alr m b a e];rfl)
theorem alu m a:e82 jn m [1,1,1] [] (arY a)=aoA m a:=
 tq (g:=fun J=>some a) (by rfl)
theorem OG m:∀a b c,l82 jn m VQ [] a (pG b c)=zf m a b c
 |0,_,_=>rfl
 |a+1,b,c=>
  tl (g:=fun J=>cond (128<=c) (jj J 0 5 0 (pG b c) (e82 J m alq [a])) (jj J 0 6 0 (arY b) (e82 J m [1,1,1] []))) (by simp only[au,als m a (zf m a) (OG m a),alu m];rfl)
theorem alv m a b:e82 jn m [1,1,0,1] [] (pG a b)=aa1 m a b:=
 tq (g:=fun J=>jj J 1 3 (succ m) (pG a b) (l82 J m VQ [] (succ m))) (by simp only[au,OG m];rfl)
theorem ax2 m a:e82 jn m [] [] ⟨[.dat 3 (.int a)],[],0⟩=qZ (m+1) a:=
 tq (g:=fun J=>(yF m a).bind fun b=>jj J 0 3 0 (pG 1 b) (e82 J m [1,1,0,1] [])) (by simp only[au,alv m];rfl)
def VR:List Nat:=[1,1,0,1,0,1]
def OH:List Nat:=VR++[1,1,1,1]
def alx:List Nat:=OH++[1,1,1,1,0,1,1]
def OI:List Nat:=alx++[0]
def aly:List Nat:=OH++[1,1,1,1,1,1,0,1,1]
def OJ:List Nat:=aly++[0]
def alz:List Nat:=OI++[0,1,1]
def ar0:List Nat:=alz++[1]
def alA:List Nat:=OJ++[0,1,1]
def ar1:List Nat:=alA++[1]
noncomputable def e67(J:Q1)(m:Nat):=evAt Tryz.prog env (ct m) J (m+1) 228 93 Tryz.f228 d40
noncomputable def l67(J:Q1)(m:Nat):=loopAt Tryz.prog env (ct m) J (m+1) 228 93 Tryz.f228 d40
noncomputable def xA(a:Int):St:=⟨tsOf [(3,.dat 3 (.int a))],[],0⟩
noncomputable def pI(a:Int)(b:List Dt)(c d:Int):St:=⟨tsOf [(3,.dat 3 (.int a)),(51,.dat 23 (.lst b)),(52,.dat 3 (.int c)),(53,.dat 3 (.int d))],[],0⟩
noncomputable def jQ(a:Int)(b:List Dt)(c d:Int):St:=⟨tsOf [(3,.dat 3 (.int a)),(71,.dat 24 (.lst b)),(72,.dat 3 (.int c)),(73,.dat 3 (.int d))],[],0⟩
noncomputable def alB(a b:Int)(c:Bool)(d:Dt):St:=⟨tsOf [(1,.ptr 0 [] 0),(3,.dat 3 (.int a)),(9,.dat 3 (.int b)),(22,.dat 4 (.bool c))],[.box 26 (.dat 26 d)],0⟩
noncomputable def alC(a b:Int)(c:Bool)(d:Dt):St:=⟨tsOf [(1,.ptr 0 [] 0),(3,.dat 3 (.int a)),(9,.dat 3 (.int b)),(10,.dat 4 (.bool c))],[.box 26 (.dat 26 d)],0⟩
theorem tQ m a:e67 jn m [1,1,1] [] (xA a)=jS m (qF m) a:=
 tq (g:=fun J=>some a) (by rfl)
abbrev ar3(m f:Nat)(a:Q21):Prop:=∀b c d e,l67 jn m OI [] f (pI b c d e)=a b c d e
theorem alD m b a(h:ar3 m b a) c d e f:e67 jn m ar0 [b] (pI c d e f)=zh m (qF m) a c d e f:=
 tq (g:=fun J=>jj J 1 16 b (pI c d e (wrap .i64 (f+1))) (l67 J m OI [] b)) (by simp only[au,h];rfl)
theorem alE m b a(h:ar3 m b a) e c f d:e67 jn m alz [b] (pI e c f d)=zk m (qF m) a e c f d:=
 tq (g:=fun J=>(idx c d).bind fun i=>(qF m i).bind fun j=>jj J 0 19 0 (pI (wrap .i64 (e+j)) c f d) (e67 J m ar0 [b])) (by simp only[au,alD m b a h];rfl)
theorem OL m:∀a b e c d,l67 jn m OI [] a (pI b e c d)=EG m (qF m) a b e c d
 |0,_,_,_,_=>rfl
 |a+1,b,e,c,d=>
  tl (g:=fun J=>cond (d<c) (jj J 0 17 0 (pI b e c d) (e67 J m alz [a])) (jj J 0 27 0 (xA b) (e67 J m [1,1,1] []))) (by simp only[au,alE m a (EG m (qF m) a) (OL m a),tQ m];rfl)
theorem alF m a b c d:e67 jn m alx [] (pI a b c d)=zl m (qF m) a b c d:=
 tq (g:=fun J=>jj J 1 16 (succ m) (pI a b c d) (l67 J m OI [] (succ m))) (by simp only[au,OL m];rfl)
abbrev ar4(m f:Nat)(a:Q21):Prop:=∀b c d e,l67 jn m OJ [] f (jQ b c d e)=a b c d e
theorem Zt m b a(h:ar4 m b a) c d e f:e67 jn m ar1 [b] (jQ c d e f)=p8 m (qF m) a c d e f:=
 tq (g:=fun J=>jj J 1 23 b (jQ c d e (wrap .i64 (f+1))) (l67 J m OJ [] b)) (by simp only[au,h];rfl)
theorem alG m b a(i:ar4 m b a) e c f d:e67 jn m alA [b] (jQ e c f d)=zn m (qF m) a e c f d:=
 tq (g:=fun J=>(idx c d).bind fun h=>(qZ m ((S h 0).size:Int)).bind fun j=>(qF m (fld h 1)).bind fun k=>jj J 0 26 0 (jQ (wrap .i64 (e+wrap .i64 (wrap .i64 (j+((S h 0).size:Int))+k))) c f d) (e67 J m ar1 [b])) (by simp only[au,Zt m b a i];rfl)
theorem OM m:∀a b e c d,l67 jn m OJ [] a (jQ b e c d)=EH m (qF m) a b e c d
 |0,_,_,_,_=>rfl
 |a+1,b,e,c,d=>
  tl (g:=fun J=>cond (d<c) (jj J 0 24 0 (jQ b e c d) (e67 J m alA [a])) (jj J 0 27 0 (xA b) (e67 J m [1,1,1] []))) (by simp only[au,alG m a (EH m (qF m) a) (OM m a),tQ m];rfl)
theorem alH m a b c d:e67 jn m aly [] (jQ a b c d)=zo m (qF m) a b c d:=
 tq (g:=fun J=>jj J 1 23 (succ m) (jQ a b c d) (l67 J m OJ [] (succ m))) (by simp only[au,OM m];rfl)
theorem alI m b c d a:e67 jn m OH [] (alB b c d a)=wB m (qF m) b c d a:=
 tq (g:=fun J=>cond d ((qZ m ((S a 2).size:Int)).bind fun e=>jj J 0 27 0 (xA (wrap .i64 (b+wrap .i64 (e+((S a 2).size:Int))))) (e67 J m [1,1,1] [])) (cond (c==8) (jj J 0 27 0 (xA (wrap .i64 (b+((S a 2).size:Int)))) (e67 J m [1,1,1] [])) (cond (c==6) ((qZ m ((L a 3).length:Int)).bind fun f=>jj J 0 16 0 (pI (wrap .i64 (b+f)) (L a 3) ((L a 3).length:Int) 0) (e67 J m alx [])) (cond (c==5) ((qZ m ((L a 4).length:Int)).bind fun h=>jj J 0 23 0 (jQ (wrap .i64 (b+h)) (L a 4) ((L a 4).length:Int) 0) (e67 J m aly [])) (jj J 0 27 0 (xA b) (e67 J m [1,1,1] [])))))) (by simp only[au,tQ m,alF m,alH m];rfl)
theorem alJ m b a d c:e67 jn m VR [] (alC b a d c)=wC m (qF m) b a d c:=
 tq (g:=fun J=>cond d ((qZ m (I c 1)).bind fun e=>jj J 0 27 0 (xA (wrap .i64 (b+e))) (e67 J m [1,1,1] [])) (cond (a==9) (jj J 0 27 0 (xA (wrap .i64 (b+1))) (e67 J m [1,1,1] [])) (cond (a==4) (jj J 0 10 0 (alB b a (a==4) c) (e67 J m OH [])) (jj J 0 10 0 (alB b a (a==7) c) (e67 J m OH []))))) (by simp only[au,tQ m,alI m];rfl)
theorem ax3 m a:e67 jn m [] [] ⟨[.dat 26 a],[],0⟩=qF (m+1) a:=
 tq (g:=fun J=>cond (I a 0==3) (jj J 0 5 0 (alC 1 (I a 0) (I a 0==3) a) (e67 J m VR [])) (jj J 0 5 0 (alC 1 (I a 0) (I a 0==10) a) (e67 J m VR []))) (by simp only[au,alJ m];rfl)
noncomputable def e83(J:Q0)(m:Nat):=evAt Tryz.prog env (ct m) J (m+1) 128 6 Tryz.f128 d33
theorem ax4 m a:e83 jn m [] [] ⟨[.dat 3 (.int a)],[],0⟩=yP (m+1) a:=
 tq (g:=fun J=>some (a !=a)) (by rfl)
def ar5:List Nat:=[1,1,1,1,1]
def alK:List Nat:=[1,1,1,1,1,1]
def ar6:List Nat:=[1,1,1,0,1,0,1]
def ar7:List Nat:=alK++[1]
noncomputable def e68(J:Q1)(m:Nat):=evAt Tryz.prog env (ct m) J (m+1) 86 20 Tryz.f86 d40
noncomputable def VU:St:=⟨tsOf [],[],0⟩
noncomputable def VW(a b:Int):St:=⟨tsOf [(0,.dat 3 (.int a)),(1,.dat 3 (.int b))],[],0⟩
noncomputable def ar8(a b:Int)(c:Bool):St:=⟨tsOf [(0,.dat 3 (.int a)),(1,.dat 3 (.int b)),(6,.dat 4 (.bool c))],[],0⟩
theorem alL m:e68 jn m ar6 [] VU=aa2 m:=
 tq (g:=fun J=>some (-1)) (by rfl)
theorem alM m:e68 jn m ar7 [] VU=aa3 m:=
 tq (g:=fun J=>some 0) (by rfl)
theorem alN m a b:e68 jn m alK [] (VW a b)=aa4 m a b:=
 tq (g:=fun J=>cond (b<a) (some 1) (jj J 0 13 0 VU (e68 J m ar7 []))) (by simp only[au,alM m];rfl)
theorem alO m a b:e68 jn m ar5 [] (VW a b)=aa5 m a b:=
 tq (g:=fun J=>cond (a<b) (some (-1)) (jj J 0 11 0 (VW a b) (e68 J m alK []))) (by simp only[au,alN m];rfl)
theorem alP m a b c:e68 jn m [1,1,1,1] [] (ar8 a b c)=aa6 m a b c:=
 tq (g:=fun J=>cond c (some 1) (jj J 0 9 0 (VW a b) (e68 J m ar5 []))) (by simp only[au,alO m];rfl)
theorem ax5 m a b:e68 jn m [] [] ⟨[.dat 3 (.int a),.dat 3 (.int b)],[],0⟩=zJ (m+1) a b:=
 tq (g:=fun J=>(yP m a).bind fun d=>(yP m b).bind fun c=>cond d (cond c (some 0) (jj J 0 6 0 VU (e68 J m ar6 []))) (jj J 0 7 0 (ar8 a b c) (e68 J m [1,1,1,1] []))) (by simp only[au,alL m,alP m];rfl)
def Dn:List Nat:=[1,1,0,1,0,1]
def mR:List Nat:=Dn++[1,1]
def ar9:List Nat:=mR++[1,1,0,1]
def alQ:List Nat:=mR++[1,1,0,0,1]
def OO:List Nat:=alQ++[0]
def asa:List Nat:=mR++[1,1,1,1,0,1]
def RO:List Nat:=mR++[1,1,1,1,0,0,1]
def OP:List Nat:=RO++[0]
def alR:List Nat:=OO++[0,1,1]
def asb:List Nat:=alR++[1]
def VX:List Nat:=OP++[0,1,1]
def asc:List Nat:=VX++[1]
def ase:List Nat:=VX++[0,0,1,1]
noncomputable def e47(J:Q1)(m:Nat):=evAt Tryz.prog env (ct m) J (m+1) 45 126 Tryz.f45 d40
noncomputable def l47(J:Q1)(m:Nat):=loopAt Tryz.prog env (ct m) J (m+1) 45 126 Tryz.f45 d40
noncomputable def pJ(a b:Int)(c d:Dt):St:=⟨tsOf [(2,.ptr 0 [] 0),(3,.ptr 1 [] 0),(48,.dat 3 (.int a)),(49,.dat 3 (.int b))],[.box 26 (.dat 26 c),.box 26 (.dat 26 d)],0⟩
noncomputable def G6(a b:Dt):St:=⟨tsOf [(2,.ptr 0 [] 0),(3,.ptr 1 [] 0)],[.box 26 (.dat 26 a),.box 26 (.dat 26 b)],0⟩
noncomputable def jR(a b:Int)(c d:Dt):St:=⟨tsOf [(2,.ptr 0 [] 0),(3,.ptr 1 [] 0),(82,.dat 3 (.int a)),(83,.dat 3 (.int b))],[.box 26 (.dat 26 c),.box 26 (.dat 26 d)],0⟩
noncomputable def alS(a b c:Int)(d e:Dt):St:=⟨tsOf [(2,.ptr 0 [] 0),(3,.ptr 1 [] 0),(7,.dat 3 (.int a)),(82,.dat 3 (.int b)),(83,.dat 3 (.int c))],[.box 26 (.dat 26 d),.box 26 (.dat 26 e)],0⟩
noncomputable def alT:St:=⟨tsOf [],[],0⟩
noncomputable def VY(a:Int)(b:Bool)(c d:Dt):St:=⟨tsOf [(2,.ptr 0 [] 0),(3,.ptr 1 [] 0),(21,.dat 3 (.int a)),(31,.dat 4 (.bool b))],[.box 26 (.dat 26 c),.box 26 (.dat 26 d)],0⟩
noncomputable def VZ(a:Int)(b:Bool)(c d:Dt):St:=⟨tsOf [(2,.ptr 0 [] 0),(3,.ptr 1 [] 0),(21,.dat 3 (.int a)),(22,.dat 4 (.bool b))],[.box 26 (.dat 26 c),.box 26 (.dat 26 d)],0⟩
abbrev asf(m f:Nat)(a:Q28):Prop:=∀b c d e,l47 jn m OO [] f (pJ b c d e)=a b c d e
theorem alU m b a(h:asf m b a) c d e f:e47 jn m asb [b] (pJ c d e f)=aa7 m (qE m) a c d e f:=
 tq (g:=fun J=>jj J 1 14 b (pJ c (wrap .i64 (d+1)) e f) (l47 J m OO [] b)) (by simp only[au,h];rfl)
theorem alV m c a(i:asf m c a) f b d e:e47 jn m alR [c] (pJ f b d e)=aa8 m (qE m) a f b d e:=
 tq (g:=fun J=>(idx (L d 3) b).bind fun j=>(idx (L e 3) b).bind fun k=>(qE m j k).bind fun h=>cond (h !=0) (some h) (jj J 0 19 0 (pJ f b d e) (e47 J m asb [c]))) (by simp only[au,alU m c a i];rfl)
theorem alW m a b:e47 jn m ar9 [] (G6 a b)=aa9 m (qE m) a b:=
 tq (g:=fun J=>(zJ m ((L a 3).length:Int) ((L b 3).length:Int)).bind fun c=>some c) (by rfl)
theorem OQ m:∀a b c d e,l47 jn m OO [] a (pJ b c d e)=EI m (qE m) a b c d e
 |0,_,_,_,_=>rfl
 |a+1,b,c,d,e=>
  tl (g:=fun J=>cond (c<b) (jj J 0 15 0 (pJ b c d e) (e47 J m alR [a])) (jj J 0 20 0 (G6 d e) (e47 J m ar9 []))) (by simp only[au,alV m a (EI m (qE m) a) (OQ m a),alW m];rfl)
theorem alX m a b c d:e47 jn m alQ [] (pJ a b c d)=Sl m (qE m) a b c d:=
 tq (g:=fun J=>jj J 1 14 (succ m) (pJ a b c d) (l47 J m OO [] (succ m))) (by simp only[au,OQ m];rfl)
abbrev alY(m f:Nat)(a:Q28):Prop:=∀b c d e,l47 jn m OP [] f (jR b c d e)=a b c d e
theorem Zu m b a(h:alY m b a) c d e f:e47 jn m asc [b] (jR c d e f)=PV m (qE m) a c d e f:=
 tq (g:=fun J=>jj J 1 23 b (jR c (wrap .i64 (d+1)) e f) (l47 J m OP [] b)) (by simp only[au,h];rfl)
theorem Zv m c a(l:alY m c a) d h i e f:e47 jn m ase [c] (alS d h i e f)=PW m (qE m) a d h i e f:=
 tq (g:=fun J=>(idx (L e 4) d).bind fun j=>(idx (L f 4) d).bind fun k=>(qE m (fld j 1) (fld k 1)).bind fun b=>cond (b !=0) (some b) (jj J 0 31 0 (jR h i e f) (e47 J m asc [c]))) (by simp only[au,Zu m c a l];rfl)
theorem Zw m c a(i:alY m c a) f b d e:e47 jn m VX [c] (jR f b d e)=PX m (qE m) a f b d e:=
 tq (g:=fun J=>(idx (L d 4) b).bind fun j=>(idx (L e 4) b).bind fun k=>(strings_Compare (S j 0) (S k 0)).bind fun h=>cond (h !=0) (some h) (jj J 0 28 0 (alS b f b d e) (e47 J m ase [c]))) (by simp only[au,Zv m c a i];rfl)
theorem Zx m a b:e47 jn m asa [] (G6 a b)=PY m (qE m) a b:=
 tq (g:=fun J=>(zJ m ((L a 4).length:Int) ((L b 4).length:Int)).bind fun c=>some c) (by rfl)
theorem OT m:∀a b c d e,l47 jn m OP [] a (jR b c d e)=EJ m (qE m) a b c d e
 |0,_,_,_,_=>rfl
 |a+1,b,c,d,e=>
  tl (g:=fun J=>cond (c<b) (jj J 0 24 0 (jR b c d e) (e47 J m VX [a])) (jj J 0 32 0 (G6 d e) (e47 J m asa []))) (by simp only[au,Zw m a (EJ m (qE m) a) (OT m a),Zx m];rfl)
theorem alZ m a b c d:e47 jn m RO [] (jR a b c d)=Sm m (qE m) a b c d:=
 tq (g:=fun J=>jj J 1 23 (succ m) (jR a b c d) (l47 J m OP [] (succ m))) (by simp only[au,OT m];rfl)
theorem Zy m:e47 jn m [1,1,1] [] alT=PZ m (qE m):=
 tq (g:=fun J=>some 0) (by rfl)
theorem al0 m c d a b:e47 jn m mR [] (VY c d a b)=JQ m (qE m) c d a b:=
 tq (g:=fun J=>cond d ((strings_Compare (S a 2) (S b 2)).bind fun e=>some e) (cond (c==6) (jj J 0 14 0 (pJ (cond (((L b 3).length:Int)<((L a 3).length:Int)) ((L b 3).length:Int) ((L a 3).length:Int)) 0 a b) (e47 J m alQ [])) (cond (c==5) (jj J 0 23 0 (jR (cond (((L b 4).length:Int)<((L a 4).length:Int)) ((L b 4).length:Int) ((L a 4).length:Int)) 0 a b) (e47 J m RO [])) (jj J 0 33 0 alT (e47 J m [1,1,1] []))))) (by simp only[au,alX m,alZ m,Zy m];rfl)
theorem al1 m a d b c:e47 jn m Dn [] (VZ a d b c)=JR m (qE m) a d b c:=
 tq (g:=fun J=>cond d ((zJ m (I b 1) (I c 1)).bind fun e=>some e) (cond (a==4) (jj J 0 11 0 (VY a (a==4) b c) (e47 J m mR [])) (cond (a==7) (jj J 0 11 0 (VY a (a==7) b c) (e47 J m mR [])) (jj J 0 11 0 (VY a (a==8) b c) (e47 J m mR []))))) (by simp only[au,al0 m];rfl)
theorem al2 m a b:e47 jn m [1,1] [] (G6 a b)=JU m (qE m) a b:=
 tq (g:=fun J=>cond (I a 0==3) (jj J 0 7 0 (VZ (I a 0) (I a 0==3) a b) (e47 J m Dn [])) (cond (I a 0==9) (jj J 0 7 0 (VZ (I a 0) (I a 0==9) a b) (e47 J m Dn [])) (jj J 0 7 0 (VZ (I a 0) (I a 0==10) a b) (e47 J m Dn [])))) (by simp only[au,al1 m];rfl)
theorem ax6 m a b:e47 jn m [] [] ⟨[.dat 26 a,.dat 26 b],[],0⟩=qE (m+1) a b:=
 tq (g:=fun J=>cond (I a 0 !=I b 0) ((zJ m (I a 0) (I b 0)).bind fun c=>some c) (jj J 0 3 0 (G6 a b) (e47 J m [1,1] []))) (by simp only[au,al2 m];rfl)
noncomputable def e22(J:Q0)(m:Nat):=evAt Tryz.prog env (ct m) J (m+1) 141 9 Tryz.f141 d33
theorem ax7 m a b:e22 jn m [] [] ⟨[.dat 26 a,.dat 26 b],[],0⟩=yL (m+1) a b:=
 tq (g:=fun J=>(qE m a b).bind fun c=>some (c==0)) (by rfl)
def V3:List Nat:=[1,1,0,1,0]
def V4:List Nat:=[1,1,0,1,0,0,1,1]
def asg:List Nat:=V4++[1]
def V6:List Nat:=V4++[0,0,1,1]
noncomputable def e93(J:Q0)(m:Nat):=evAt Tryz.prog env (ct m) J (m+1) 238 39 Tryz.f238 d33
noncomputable def l93(J:Q0)(m:Nat):=loopAt Tryz.prog env (ct m) J (m+1) 238 39 Tryz.f238 d33
noncomputable def pK(a:ByteArray)(b c:Int):St:=⟨tsOf [(0,.dat 9 (.str a)),(18,.dat 3 (.int b)),(19,.dat 3 (.int c))],[],0⟩
noncomputable def V7(a:ByteArray)(b c:Int)(d:Bool):St:=⟨tsOf [(0,.dat 9 (.str a)),(18,.dat 3 (.int b)),(19,.dat 3 (.int c)),(37,.dat 4 (.bool d))],[],0⟩
noncomputable def ash:St:=⟨tsOf [],[],0⟩
noncomputable def asi(a:ByteArray):St:=⟨tsOf [(0,.dat 9 (.str a))],[],0⟩
noncomputable def V8(a:ByteArray)(b:Bool):St:=⟨tsOf [(0,.dat 9 (.str a)),(16,.dat 4 (.bool b))],[],0⟩
abbrev al3(m e:Nat)(a:Q46):Prop:=∀b c d,l93 jn m V3 [] e (pK b c d)=a b c d
theorem al4 m b a(f:al3 m b a) c d e:e93 jn m asg [b] (pK c d e)=zq m a c d e:=
 tq (g:=fun J=>jj J 1 4 b (pK c d (wrap .i64 (e+1))) (l93 J m V3 [] b)) (by simp only[au,f];rfl)
theorem al5 m b a(h:al3 m b a) c d e f:e93 jn m V6 [b] (V7 c d e f)=rH m a c d e f:=
 tq (g:=fun J=>cond f (some false) (jj J 0 8 0 (pK c d e) (e93 J m asg [b]))) (by simp only[au,al4 m b a h];rfl)
theorem al6 m d a(f:al3 m d a) b e c:e93 jn m V4 [d] (pK b e c)=zu m a b e c:=
 tq (g:=fun J=>(idxS b c).bind fun h=>cond (h<33) (jj J 0 7 0 (V7 b e c true) (e93 J m V6 [d])) ((idxS b c).bind fun i=>cond (126<i) (jj J 0 7 0 (V7 b e c true) (e93 J m V6 [d])) ((idxS b c).bind fun j=>jj J 0 7 0 (V7 b e c (j==46)) (e93 J m V6 [d])))) (by simp only[au,al5 m d a f];rfl)
theorem al7 m:e93 jn m [1,1,1] [] ash=zw m:=
 tq (g:=fun J=>some true) (by rfl)
theorem OU m:∀a d b c,l93 jn m V3 [] a (pK d b c)=zy m a d b c
 |0,_,_,_=>rfl
 |a+1,d,b,c=>
  tl (g:=fun J=>cond (c<b) (jj J 0 5 0 (pK d b c) (e93 J m V4 [a])) (jj J 0 9 0 ash (e93 J m [1,1,1] []))) (by simp only[au,al6 m a (zy m a) (OU m a),al7 m];rfl)
theorem al8 m a b c:e93 jn m [1,1,0,1] [] (pK a b c)=Aa m a b c:=
 tq (g:=fun J=>jj J 1 4 (succ m) (pK a b c) (l93 J m V3 [] (succ m))) (by simp only[au,OU m];rfl)
theorem al9 m a:e93 jn m [1,1] [] (asi a)=Ab m a:=
 tq (g:=fun J=>jj J 0 4 0 (pK a (a.size:Int) 0) (e93 J m [1,1,0,1] [])) (by simp only[au,al8 m];rfl)
theorem ama m a b:e93 jn m [1,0,1] [] (V8 a b)=rJ m a b:=
 tq (g:=fun J=>cond b (some false) (jj J 0 3 0 (asi a) (e93 J m [1,1] []))) (by simp only[au,al9 m];rfl)
theorem ax8 m a:e93 jn m [] [] ⟨[.dat 9 (.str a)],[],0⟩=qN (m+1) a:=
 tq (g:=fun J=>cond ((a.size:Int)<1) (jj J 0 2 0 (V8 a true) (e93 J m [1,0,1] [])) (bif 32<(a.size:Int)then jj J 0 2 0 (V8 a true) (e93 J m [1,0,1] [])else(idxS a 0).bind fun b=>jj J 0 2 0 (V8 a (b==36)) (e93 J m [1,0,1] []))) (by simp only[au,ama m];rfl)
