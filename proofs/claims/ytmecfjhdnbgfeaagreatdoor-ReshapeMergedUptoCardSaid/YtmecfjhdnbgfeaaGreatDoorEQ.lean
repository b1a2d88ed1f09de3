/- Generated: the functions as contracts for their callers.
Generated:each function's run in the abstract machine is its shallow function. -/
import Derived.Test.YtmecfjhdnbgfeaaGreatDoorSh
import Derived.Test.YtmecfjhdnbgfeaaGreatDoorProg
import Derived.Test.YtmecfjhdnbgfeaaGreatDoorAmEnv
import Derived.KernelRfl
set_option linter.all false
namespace Go.Proofs.YtmecfjhdnbgfeaaGreatDoor
open Go.Am
def aj8(args:List AV)(objs:List Ob):Option (List Dt×List Dt):=match args,objs with
 | [.dat T0 a,.dat T1 b],[]=>bif (Nat.beq T0 23&&Nat.beq T1 23)then some (a.toLst,b.toLst)else none
 |_,_=>none
theorem QA{args:List AV}{objs:List Ob}{l:List Dt×List Dt}(h:aj8 args objs=some l):CnA Tryz.prog args [(.dat 23 (.lst l.1)),(.dat 23 (.lst l.2))]∧CnOL Tryz.prog objs []:=by
 unfold aj8 at h;split at h
 ·obtain⟨hc,a⟩:=aC h;cases a;have e0:=beq_eq (aF hc);have hc:=aB hc;have e1:=beq_eq hc;subst e0 e1;exact⟨(.cons (.of (.dat (.lst Tryz.underlying23)) rfl rfl) (.cons (.of (.dat (.lst Tryz.underlying23)) rfl rfl) .nil)),.nil⟩
 ·cases h
def aj9(args:List AV)(objs:List Ob):Option (Dt×List Dt×List Dt):=match args,objs with
 | [.dat T0 a,.dat T1 b,.dat T2 c],[]=>bif (Nat.beq T0 51&&(Nat.beq T1 23&&Nat.beq T2 23))then some (a,b.toLst,c.toLst)else none
 |_,_=>none
theorem QB{args:List AV}{objs:List Ob}{l:Dt×List Dt×List Dt}(h:aj9 args objs=some l):CnA Tryz.prog args [(.dat 51 l.1),(.dat 23 (.lst l.2.1)),(.dat 23 (.lst l.2.2))]∧CnOL Tryz.prog objs []:=by
 unfold aj9 at h;split at h
 ·obtain⟨hc,a⟩:=aC h;cases a;have e0:=beq_eq (aF hc);have hc:=aB hc;have e1:=beq_eq (aF hc);have hc:=aB hc;have e2:=beq_eq hc;subst e0 e1 e2;exact⟨(.cons (.of .same rfl rfl) (.cons (.of (.dat (.lst Tryz.underlying23)) rfl rfl) (.cons (.of (.dat (.lst Tryz.underlying23)) rfl rfl) .nil))),.nil⟩
 ·cases h
def aqd(args:List AV)(objs:List Ob):Option Unit:=match args,objs with
 | [],[]=>bif true then some ()else none
 |_,_=>none
theorem akb{args:List AV}{objs:List Ob}{l:Unit}(h:aqd args objs=some l):CnA Tryz.prog args []∧CnOL Tryz.prog objs []:=by
 unfold aqd at h;split at h
 ·obtain⟨hc,a⟩:=aC h;cases a;exact⟨.nil,.nil⟩
 ·cases h
def UF(args:List AV)(objs:List Ob):Option (List Dt):=match args,objs with
 | [.dat T0 a],[]=>bif Nat.beq T0 23 then some a.toLst else none
 |_,_=>none
theorem wG{args:List AV}{objs:List Ob}{l:List Dt}(h:UF args objs=some l):CnA Tryz.prog args [(.dat 23 (.lst l))]∧CnOL Tryz.prog objs []:=by
 unfold UF at h;split at h
 ·obtain⟨hc,a⟩:=aC h;cases a;have e0:=beq_eq hc;subst e0;exact⟨(.cons (.of (.dat (.lst Tryz.underlying23)) rfl rfl) .nil),.nil⟩
 ·cases h
def gL(args:List AV)(objs:List Ob):Option Dt:=match args,objs with
 | [.dat T0 a],[]=>bif Nat.beq T0 26 then some a else none
 |_,_=>none
theorem cB{args:List AV}{objs:List Ob}{l:Dt}(h:gL args objs=some l):CnA Tryz.prog args [(.dat 26 l)]∧CnOL Tryz.prog objs []:=by
 unfold gL at h;split at h
 ·obtain⟨hc,a⟩:=aC h;cases a;have e0:=beq_eq hc;subst e0;exact⟨(.cons (.of .same rfl rfl) .nil),.nil⟩
 ·cases h
def aqe(args:List AV)(objs:List Ob):Option (Dt×List Dt):=match args,objs with
 | [.row n0,.dat T1 a],[.row T2 b]=>bif (Nat.beq n0 0&&(Nat.beq T1 26&&Nat.beq T2 23))then some (a,b)else none
 |_,_=>none
theorem akc{args:List AV}{objs:List Ob}{l:Dt×List Dt}(h:aqe args objs=some l):CnA Tryz.prog args [(.row 0),(.dat 26 l.1)]∧CnOL Tryz.prog objs [(.row 23 l.2)]:=by
 unfold aqe at h;split at h
 ·obtain⟨hc,a⟩:=aC h;cases a;have e0:=beq_eq (aF hc);have hc:=aB hc;have e1:=beq_eq (aF hc);have hc:=aB hc;have e2:=beq_eq hc;subst e0 e1 e2;exact⟨(.cons (.of .same rfl rfl) (.cons (.of .same rfl rfl) .nil)),(.cons .same .nil)⟩
 ·cases h
def UG(args:List AV)(objs:List Ob):Option (Dt×Dt):=match args,objs with
 | [.dat T0 a,.dat T1 b],[]=>bif (Nat.beq T0 26&&Nat.beq T1 26)then some (a,b)else none
 |_,_=>none
theorem wH{args:List AV}{objs:List Ob}{l:Dt×Dt}(h:UG args objs=some l):CnA Tryz.prog args [(.dat 26 l.1),(.dat 26 l.2)]∧CnOL Tryz.prog objs []:=by
 unfold UG at h;split at h
 ·obtain⟨hc,a⟩:=aC h;cases a;have e0:=beq_eq (aF hc);have hc:=aB hc;have e1:=beq_eq hc;subst e0 e1;exact⟨(.cons (.of .same rfl rfl) (.cons (.of .same rfl rfl) .nil)),.nil⟩
 ·cases h
def akd(args:List AV)(objs:List Ob):Option (List Dt):=match args,objs with
 | [.dat T0 a,.fn T1 []],[]=>bif (Nat.beq T0 23&&Nat.beq T1 25)then some a.toLst else none
 |_,_=>none
theorem QC{args:List AV}{objs:List Ob}{l:List Dt}(h:akd args objs=some l):CnA Tryz.prog args [(.dat 23 (.lst l)),(.fn 25 [])]∧CnOL Tryz.prog objs []:=by
 unfold akd at h;split at h
 ·obtain⟨hc,a⟩:=aC h;cases a;have e0:=beq_eq (aF hc);have hc:=aB hc;have e1:=beq_eq hc;subst e0 e1;exact⟨(.cons (.of (.dat (.lst Tryz.underlying23)) rfl rfl) (.cons (.of (.fn .nil) rfl rfl) .nil)),.nil⟩
 ·cases h
def QD(args:List AV)(objs:List Ob):Option (List Dt):=match args,objs with
 | [.dat T0 a,.fn T1 []],[]=>bif (Nat.beq T0 49&&Nat.beq T1 64)then some a.toLst else none
 |_,_=>none
theorem JV{args:List AV}{objs:List Ob}{l:List Dt}(h:QD args objs=some l):CnA Tryz.prog args [(.dat 49 (.lst l)),(.fn 64 [])]∧CnOL Tryz.prog objs []:=by
 unfold QD at h;split at h
 ·obtain⟨hc,a⟩:=aC h;cases a;have e0:=beq_eq (aF hc);have hc:=aB hc;have e1:=beq_eq hc;subst e0 e1;exact⟨(.cons (.of (.dat (.lst Tryz.underlying49)) rfl rfl) (.cons (.of (.fn .nil) rfl rfl) .nil)),.nil⟩
 ·cases h
def QE(args:List AV)(objs:List Ob):Option (List Dt):=match args,objs with
 | [.dat T0 a],[]=>bif Nat.beq T0 22 then some a.toLst else none
 |_,_=>none
theorem JW{args:List AV}{objs:List Ob}{l:List Dt}(h:QE args objs=some l):CnA Tryz.prog args [(.dat 22 (.lst l))]∧CnOL Tryz.prog objs []:=by
 unfold QE at h;split at h
 ·obtain⟨hc,a⟩:=aC h;cases a;have e0:=beq_eq hc;subst e0;exact⟨(.cons (.of (.dat (.lst Tryz.underlying22)) rfl rfl) .nil),.nil⟩
 ·cases h
def JX(args:List AV)(objs:List Ob):Option (Dt×Dt×List Dt×List Dt×List Dt×List Dt):=match args,objs with
 | [.ptr n0 p0 o0,.dat T1 d],[.box T2 (.agg T3 [.dat T4 e,.row n5,.row n6,.row n7,.row n8]),.row T9 f,.map T10 a,.map T11 b,.row T12 c]=>bif (Nat.beq n0 0&&(natsB p0 []&&(Nat.beq o0 0&&(Nat.beq T1 26&&(Nat.beq T2 114&&(Nat.beq T3 114&&(Nat.beq T4 51&&(Nat.beq n5 1&&(Nat.beq n6 2&&(Nat.beq n7 3&&(Nat.beq n8 4&&(Nat.beq T9 112&&(Nat.beq T10 110&&(Nat.beq T11 111&&Nat.beq T12 54))))))))))))))then some (d,e,f,a,b,c)else none
 |_,_=>none
theorem Ba{args:List AV}{objs:List Ob}{l:Dt×Dt×List Dt×List Dt×List Dt×List Dt}(h:JX args objs=some l):CnA Tryz.prog args [(.ptr 0 [] 0),(.dat 26 l.1)]∧CnOL Tryz.prog objs [(.box 114 (.agg 114 [(.dat 51 l.2.1),(.row 1),(.row 2),(.row 3),(.row 4)])),(.row 112 l.2.2.1),(.map 110 l.2.2.2.1),(.map 111 l.2.2.2.2.1),(.row 54 l.2.2.2.2.2)]:=by
 unfold JX at h;split at h
 ·obtain⟨hc,a⟩:=aC h;cases a;have e0:=beq_eq (aF hc);have hc:=aB hc;have e1:=dO (aF hc);have hc:=aB hc;have e2:=beq_eq (aF hc);have hc:=aB hc;have e3:=beq_eq (aF hc);have hc:=aB hc;have e4:=beq_eq (aF hc);have hc:=aB hc;have e5:=beq_eq (aF hc);have hc:=aB hc;have e6:=beq_eq (aF hc);have hc:=aB hc;have e7:=beq_eq (aF hc);have hc:=aB hc;have e8:=beq_eq (aF hc);have hc:=aB hc;have e9:=beq_eq (aF hc);have hc:=aB hc;have e10:=beq_eq (aF hc);have hc:=aB hc;have e11:=beq_eq (aF hc);have hc:=aB hc;have e12:=beq_eq (aF hc);have hc:=aB hc;have e13:=beq_eq (aF hc);have hc:=aB hc;have e14:=beq_eq hc;subst e0 e1 e2 e3 e4 e5 e6 e7 e8 e9 e10 e11 e12 e13 e14;exact⟨(.cons (.of .same rfl rfl) (.cons (.of .same rfl rfl) .nil)),(.cons (.box (.agg (.cons .same (.cons .same (.cons .same (.cons .same (.cons .same .nil))))))) (.cons .same (.cons .same (.cons .same (.cons .same .nil)))))⟩
 ·cases h
def acW(args:List AV)(objs:List Ob):Option (Dt×Dt):=match args,objs with
 | [.rptr T0 a,.dat T1 b],[]=>bif (Nat.beq T0 114&&Nat.beq T1 26)then some (a,b)else none
 |_,_=>none
theorem acX{args:List AV}{objs:List Ob}{l:Dt×Dt}(h:acW args objs=some l):CnA Tryz.prog args [(.rptr 114 l.1),(.dat 26 l.2)]∧CnOL Tryz.prog objs []:=by
 unfold acW at h;split at h
 ·obtain⟨hc,a⟩:=aC h;cases a;have e0:=beq_eq (aF hc);have hc:=aB hc;have e1:=beq_eq hc;subst e0 e1;exact⟨(.cons (.of .same rfl rfl) (.cons (.of .same rfl rfl) .nil)),.nil⟩
 ·cases h
def acY(args:List AV)(objs:List Ob):Option (Dt×List Dt):=match args,objs with
 | [.dat T0 a,.dat T1 b],[]=>bif (Nat.beq T0 26&&Nat.beq T1 22)then some (a,b.toLst)else none
 |_,_=>none
theorem acZ{args:List AV}{objs:List Ob}{l:Dt×List Dt}(h:acY args objs=some l):CnA Tryz.prog args [(.dat 26 l.1),(.dat 22 (.lst l.2))]∧CnOL Tryz.prog objs []:=by
 unfold acY at h;split at h
 ·obtain⟨hc,a⟩:=aC h;cases a;have e0:=beq_eq (aF hc);have hc:=aB hc;have e1:=beq_eq hc;subst e0 e1;exact⟨(.cons (.of .same rfl rfl) (.cons (.of (.dat (.lst Tryz.underlying22)) rfl rfl) .nil)),.nil⟩
 ·cases h
def ac0(args:List AV)(objs:List Ob):Option (Dt×Dt×Dt×List Dt×List Dt×List Dt×List Dt):=match args,objs with
 | [.ptr n0 p0 o0,.dat T1 e,.dat T2 f],[.box T3 (.agg T4 [.dat T5 g,.row n6,.row n7,.row n8,.row n9]),.row T10 a,.map T11 b,.map T12 c,.row T13 d]=>bif (Nat.beq n0 0&&(natsB p0 []&&(Nat.beq o0 0&&(Nat.beq T1 26&&(Nat.beq T2 26&&(Nat.beq T3 114&&(Nat.beq T4 114&&(Nat.beq T5 51&&(Nat.beq n6 1&&(Nat.beq n7 2&&(Nat.beq n8 3&&(Nat.beq n9 4&&(Nat.beq T10 112&&(Nat.beq T11 110&&(Nat.beq T12 111&&Nat.beq T13 54)))))))))))))))then some (e,f,g,a,b,c,d)else none
 |_,_=>none
theorem ac1{args:List AV}{objs:List Ob}{l:Dt×Dt×Dt×List Dt×List Dt×List Dt×List Dt}(h:ac0 args objs=some l):CnA Tryz.prog args [(.ptr 0 [] 0),(.dat 26 l.1),(.dat 26 l.2.1)]∧CnOL Tryz.prog objs [(.box 114 (.agg 114 [(.dat 51 l.2.2.1),(.row 1),(.row 2),(.row 3),(.row 4)])),(.row 112 l.2.2.2.1),(.map 110 l.2.2.2.2.1),(.map 111 l.2.2.2.2.2.1),(.row 54 l.2.2.2.2.2.2)]:=by
 unfold ac0 at h;split at h
 ·obtain⟨hc,a⟩:=aC h;cases a;have e0:=beq_eq (aF hc);have hc:=aB hc;have e1:=dO (aF hc);have hc:=aB hc;have e2:=beq_eq (aF hc);have hc:=aB hc;have e3:=beq_eq (aF hc);have hc:=aB hc;have e4:=beq_eq (aF hc);have hc:=aB hc;have e5:=beq_eq (aF hc);have hc:=aB hc;have e6:=beq_eq (aF hc);have hc:=aB hc;have e7:=beq_eq (aF hc);have hc:=aB hc;have e8:=beq_eq (aF hc);have hc:=aB hc;have e9:=beq_eq (aF hc);have hc:=aB hc;have e10:=beq_eq (aF hc);have hc:=aB hc;have e11:=beq_eq (aF hc);have hc:=aB hc;have e12:=beq_eq (aF hc);have hc:=aB hc;have e13:=beq_eq (aF hc);have hc:=aB hc;have e14:=beq_eq (aF hc);have hc:=aB hc;have e15:=beq_eq hc;subst e0 e1 e2 e3 e4 e5 e6 e7 e8 e9 e10 e11 e12 e13 e14 e15;exact⟨(.cons (.of .same rfl rfl) (.cons (.of .same rfl rfl) (.cons (.of .same rfl rfl) .nil))),(.cons (.box (.agg (.cons .same (.cons .same (.cons .same (.cons .same (.cons .same .nil))))))) (.cons .same (.cons .same (.cons .same (.cons .same .nil)))))⟩
 ·cases h
def QF(args:List AV)(objs:List Ob):Option (Int×Dt×Dt×List Dt×List Dt×List Dt×List Dt):=match args,objs with
 | [.ptr n0 p0 o0,.dat T1 e,.dat T2 f],[.box T3 (.agg T4 [.dat T5 g,.row n6,.row n7,.row n8,.row n9]),.row T10 a,.map T11 b,.map T12 c,.row T13 d]=>bif (Nat.beq n0 0&&(natsB p0 []&&(Nat.beq o0 0&&(Nat.beq T1 3&&(Nat.beq T2 26&&(Nat.beq T3 114&&(Nat.beq T4 114&&(Nat.beq T5 51&&(Nat.beq n6 1&&(Nat.beq n7 2&&(Nat.beq n8 3&&(Nat.beq n9 4&&(Nat.beq T10 112&&(Nat.beq T11 110&&(Nat.beq T12 111&&Nat.beq T13 54)))))))))))))))then some (e.toInt,f,g,a,b,c,d)else none
 |_,_=>none
theorem JY{args:List AV}{objs:List Ob}{l:Int×Dt×Dt×List Dt×List Dt×List Dt×List Dt}(h:QF args objs=some l):CnA Tryz.prog args [(.ptr 0 [] 0),(.dat 3 (.int l.1)),(.dat 26 l.2.1)]∧CnOL Tryz.prog objs [(.box 114 (.agg 114 [(.dat 51 l.2.2.1),(.row 1),(.row 2),(.row 3),(.row 4)])),(.row 112 l.2.2.2.1),(.map 110 l.2.2.2.2.1),(.map 111 l.2.2.2.2.2.1),(.row 54 l.2.2.2.2.2.2)]:=by
 unfold QF at h;split at h
 ·obtain⟨hc,a⟩:=aC h;cases a;have e0:=beq_eq (aF hc);have hc:=aB hc;have e1:=dO (aF hc);have hc:=aB hc;have e2:=beq_eq (aF hc);have hc:=aB hc;have e3:=beq_eq (aF hc);have hc:=aB hc;have e4:=beq_eq (aF hc);have hc:=aB hc;have e5:=beq_eq (aF hc);have hc:=aB hc;have e6:=beq_eq (aF hc);have hc:=aB hc;have e7:=beq_eq (aF hc);have hc:=aB hc;have e8:=beq_eq (aF hc);have hc:=aB hc;have e9:=beq_eq (aF hc);have hc:=aB hc;have e10:=beq_eq (aF hc);have hc:=aB hc;have e11:=beq_eq (aF hc);have hc:=aB hc;have e12:=beq_eq (aF hc);have hc:=aB hc;have e13:=beq_eq (aF hc);have hc:=aB hc;have e14:=beq_eq (aF hc);have hc:=aB hc;have e15:=beq_eq hc;subst e0 e1 e2 e3 e4 e5 e6 e7 e8 e9 e10 e11 e12 e13 e14 e15;exact⟨(.cons (.of .same rfl rfl) (.cons (.of (.dat (.int Tryz.underlying3)) rfl rfl) (.cons (.of .same rfl rfl) .nil))),(.cons (.box (.agg (.cons .same (.cons .same (.cons .same (.cons .same (.cons .same .nil))))))) (.cons .same (.cons .same (.cons .same (.cons .same .nil)))))⟩
 ·cases h
def QG(args:List AV)(objs:List Ob):Option (List Dt×Int):=match args,objs with
 | [.dat T0 a,.fn T1 [.ptr n2 p2 o2]],[.box T3 (.dat T4 b)]=>bif (Nat.beq T0 75&&(Nat.beq T1 195&&(Nat.beq n2 0&&(natsB p2 []&&(Nat.beq o2 0&&(Nat.beq T3 3&&Nat.beq T4 3))))))then some (a.toLst,b.toInt)else none
 |_,_=>none
theorem JZ{args:List AV}{objs:List Ob}{l:List Dt×Int}(h:QG args objs=some l):CnA Tryz.prog args [(.dat 75 (.lst l.1)),(.fn 195 [(.ptr 0 [] 0)])]∧CnOL Tryz.prog objs [(.box 3 (.dat 3 (.int l.2)))]:=by
 unfold QG at h;split at h
 ·obtain⟨hc,a⟩:=aC h;cases a;have e0:=beq_eq (aF hc);have hc:=aB hc;have e1:=beq_eq (aF hc);have hc:=aB hc;have e2:=beq_eq (aF hc);have hc:=aB hc;have e3:=dO (aF hc);have hc:=aB hc;have e4:=beq_eq (aF hc);have hc:=aB hc;have e5:=beq_eq (aF hc);have hc:=aB hc;have e6:=beq_eq hc;subst e0 e1 e2 e3 e4 e5 e6;exact⟨(.cons (.of (.dat (.lst Tryz.underlying75)) rfl rfl) (.cons (.of (.fn (.cons .same .nil)) rfl rfl) .nil)),(.cons (.box (.dat (.int Tryz.underlying3))) .nil)⟩
 ·cases h
def ac2(args:List AV)(objs:List Ob):Option (Int×Int):=match args,objs with
 | [.dat T0 a,.ptr n1 p1 o1],[.box T2 (.dat T3 b)]=>bif (Nat.beq T0 3&&(Nat.beq n1 0&&(natsB p1 []&&(Nat.beq o1 0&&(Nat.beq T2 3&&Nat.beq T3 3)))))then some (a.toInt,b.toInt)else none
 |_,_=>none
theorem ac3{args:List AV}{objs:List Ob}{l:Int×Int}(h:ac2 args objs=some l):CnA Tryz.prog args [(.dat 3 (.int l.1)),(.ptr 0 [] 0)]∧CnOL Tryz.prog objs [(.box 3 (.dat 3 (.int l.2)))]:=by
 unfold ac2 at h;split at h
 ·obtain⟨hc,a⟩:=aC h;cases a;have e0:=beq_eq (aF hc);have hc:=aB hc;have e1:=beq_eq (aF hc);have hc:=aB hc;have e2:=dO (aF hc);have hc:=aB hc;have e3:=beq_eq (aF hc);have hc:=aB hc;have e4:=beq_eq (aF hc);have hc:=aB hc;have e5:=beq_eq hc;subst e0 e1 e2 e3 e4 e5;exact⟨(.cons (.of (.dat (.int Tryz.underlying3)) rfl rfl) (.cons (.of .same rfl rfl) .nil)),(.cons (.box (.dat (.int Tryz.underlying3))) .nil)⟩
 ·cases h
def ac4(args:List AV)(objs:List Ob):Option (List Dt×Int):=match args,objs with
 | [.row n0,.fn T1 [.ptr n2 p2 o2]],[.row T3 a,.box T4 (.dat T5 b)]=>bif (Nat.beq n0 0&&(Nat.beq T1 195&&(Nat.beq n2 1&&(natsB p2 []&&(Nat.beq o2 0&&(Nat.beq T3 75&&(Nat.beq T4 3&&Nat.beq T5 3)))))))then some (a,b.toInt)else none
 |_,_=>none
theorem ac5{args:List AV}{objs:List Ob}{l:List Dt×Int}(h:ac4 args objs=some l):CnA Tryz.prog args [(.row 0),(.fn 195 [(.ptr 1 [] 0)])]∧CnOL Tryz.prog objs [(.row 75 l.1),(.box 3 (.dat 3 (.int l.2)))]:=by
 unfold ac4 at h;split at h
 ·obtain⟨hc,a⟩:=aC h;cases a;have e0:=beq_eq (aF hc);have hc:=aB hc;have e1:=beq_eq (aF hc);have hc:=aB hc;have e2:=beq_eq (aF hc);have hc:=aB hc;have e3:=dO (aF hc);have hc:=aB hc;have e4:=beq_eq (aF hc);have hc:=aB hc;have e5:=beq_eq (aF hc);have hc:=aB hc;have e6:=beq_eq (aF hc);have hc:=aB hc;have e7:=beq_eq hc;subst e0 e1 e2 e3 e4 e5 e6 e7;exact⟨(.cons (.of .same rfl rfl) (.cons (.of (.fn (.cons .same .nil)) rfl rfl) .nil)),(.cons .same (.cons (.box (.dat (.int Tryz.underlying3))) .nil))⟩
 ·cases h
def ac6(args:List AV)(objs:List Ob):Option (Dt×ByteArray×Dt):=match args,objs with
 | [.dat T0 a,.dat T1 b,.dat T2 c],[]=>bif (Nat.beq T0 26&&(Nat.beq T1 9&&Nat.beq T2 26))then some (a,b.toStr,c)else none
 |_,_=>none
theorem ac7{args:List AV}{objs:List Ob}{l:Dt×ByteArray×Dt}(h:ac6 args objs=some l):CnA Tryz.prog args [(.dat 26 l.1),(.dat 9 (.str l.2.1)),(.dat 26 l.2.2)]∧CnOL Tryz.prog objs []:=by
 unfold ac6 at h;split at h
 ·obtain⟨hc,a⟩:=aC h;cases a;have e0:=beq_eq (aF hc);have hc:=aB hc;have e1:=beq_eq (aF hc);have hc:=aB hc;have e2:=beq_eq hc;subst e0 e1 e2;exact⟨(.cons (.of .same rfl rfl) (.cons (.of (.dat (.str Tryz.underlying9)) rfl rfl) (.cons (.of .same rfl rfl) .nil))),.nil⟩
 ·cases h
def QH(args:List AV)(objs:List Ob):Option (Int×Int):=match args,objs with
 | [.dat T0 a,.dat T1 b],[]=>bif (Nat.beq T0 3&&Nat.beq T1 3)then some (a.toInt,b.toInt)else none
 |_,_=>none
theorem J2{args:List AV}{objs:List Ob}{l:Int×Int}(h:QH args objs=some l):CnA Tryz.prog args [(.dat 3 (.int l.1)),(.dat 3 (.int l.2))]∧CnOL Tryz.prog objs []:=by
 unfold QH at h;split at h
 ·obtain⟨hc,a⟩:=aC h;cases a;have e0:=beq_eq (aF hc);have hc:=aB hc;have e1:=beq_eq hc;subst e0 e1;exact⟨(.cons (.of (.dat (.int Tryz.underlying3)) rfl rfl) (.cons (.of (.dat (.int Tryz.underlying3)) rfl rfl) .nil)),.nil⟩
 ·cases h
def QI(args:List AV)(objs:List Ob):Option (ByteArray×ByteArray):=match args,objs with
 | [.dat T0 a,.dat T1 b],[]=>bif (Nat.beq T0 9&&Nat.beq T1 9)then some (a.toStr,b.toStr)else none
 |_,_=>none
theorem J3{args:List AV}{objs:List Ob}{l:ByteArray×ByteArray}(h:QI args objs=some l):CnA Tryz.prog args [(.dat 9 (.str l.1)),(.dat 9 (.str l.2))]∧CnOL Tryz.prog objs []:=by
 unfold QI at h;split at h
 ·obtain⟨hc,a⟩:=aC h;cases a;have e0:=beq_eq (aF hc);have hc:=aB hc;have e1:=beq_eq hc;subst e0 e1;exact⟨(.cons (.of (.dat (.str Tryz.underlying9)) rfl rfl) (.cons (.of (.dat (.str Tryz.underlying9)) rfl rfl) .nil)),.nil⟩
 ·cases h
def QJ(args:List AV)(objs:List Ob):Option (List Dt):=match args,objs with
 | [.dat T0 a,.fn T1 []],[]=>bif (Nat.beq T0 23&&Nat.beq T1 33)then some a.toLst else none
 |_,_=>none
theorem J4{args:List AV}{objs:List Ob}{l:List Dt}(h:QJ args objs=some l):CnA Tryz.prog args [(.dat 23 (.lst l)),(.fn 33 [])]∧CnOL Tryz.prog objs []:=by
 unfold QJ at h;split at h
 ·obtain⟨hc,a⟩:=aC h;cases a;have e0:=beq_eq (aF hc);have hc:=aB hc;have e1:=beq_eq hc;subst e0 e1;exact⟨(.cons (.of (.dat (.lst Tryz.underlying23)) rfl rfl) (.cons (.of (.fn .nil) rfl rfl) .nil)),.nil⟩
 ·cases h
def ac8(args:List AV)(objs:List Ob):Option (List Dt×ByteArray):=match args,objs with
 | [.dat T0 a,.dat T1 b],[]=>bif (Nat.beq T0 24&&Nat.beq T1 9)then some (a.toLst,b.toStr)else none
 |_,_=>none
theorem ac9{args:List AV}{objs:List Ob}{l:List Dt×ByteArray}(h:ac8 args objs=some l):CnA Tryz.prog args [(.dat 24 (.lst l.1)),(.dat 9 (.str l.2))]∧CnOL Tryz.prog objs []:=by
 unfold ac8 at h;split at h
 ·obtain⟨hc,a⟩:=aC h;cases a;have e0:=beq_eq (aF hc);have hc:=aB hc;have e1:=beq_eq hc;subst e0 e1;exact⟨(.cons (.of (.dat (.lst Tryz.underlying24)) rfl rfl) (.cons (.of (.dat (.str Tryz.underlying9)) rfl rfl) .nil)),.nil⟩
 ·cases h
def vO(args:List AV)(objs:List Ob):Option ByteArray:=match args,objs with
 | [.dat T0 a],[]=>bif Nat.beq T0 9 then some a.toStr else none
 |_,_=>none
theorem jN{args:List AV}{objs:List Ob}{l:ByteArray}(h:vO args objs=some l):CnA Tryz.prog args [(.dat 9 (.str l))]∧CnOL Tryz.prog objs []:=by
 unfold vO at h;split at h
 ·obtain⟨hc,a⟩:=aC h;cases a;have e0:=beq_eq hc;subst e0;exact⟨(.cons (.of (.dat (.str Tryz.underlying9)) rfl rfl) .nil),.nil⟩
 ·cases h
def QK(args:List AV)(objs:List Ob):Option (Dt×ByteArray):=match args,objs with
 | [.dat T0 a,.dat T1 b],[]=>bif (Nat.beq T0 26&&Nat.beq T1 9)then some (a,b.toStr)else none
 |_,_=>none
theorem J5{args:List AV}{objs:List Ob}{l:Dt×ByteArray}(h:QK args objs=some l):CnA Tryz.prog args [(.dat 26 l.1),(.dat 9 (.str l.2))]∧CnOL Tryz.prog objs []:=by
 unfold QK at h;split at h
 ·obtain⟨hc,a⟩:=aC h;cases a;have e0:=beq_eq (aF hc);have hc:=aB hc;have e1:=beq_eq hc;subst e0 e1;exact⟨(.cons (.of .same rfl rfl) (.cons (.of (.dat (.str Tryz.underlying9)) rfl rfl) .nil)),.nil⟩
 ·cases h
def QL(args:List AV)(objs:List Ob):Option (Dt×Bool):=match args,objs with
 | [.dat T0 a,.dat T1 b],[]=>bif (Nat.beq T0 26&&Nat.beq T1 4)then some (a,b.toBool)else none
 |_,_=>none
theorem J6{args:List AV}{objs:List Ob}{l:Dt×Bool}(h:QL args objs=some l):CnA Tryz.prog args [(.dat 26 l.1),(.dat 4 (.bool l.2))]∧CnOL Tryz.prog objs []:=by
 unfold QL at h;split at h
 ·obtain⟨hc,a⟩:=aC h;cases a;have e0:=beq_eq (aF hc);have hc:=aB hc;have e1:=beq_eq hc;subst e0 e1;exact⟨(.cons (.of .same rfl rfl) (.cons (.of (.dat (.bool Tryz.underlying4)) rfl rfl) .nil)),.nil⟩
 ·cases h
def ada(args:List AV)(objs:List Ob):Option (Dt×List Dt):=match args,objs with
 | [.row n0,.dat T1 a],[.row T2 b]=>bif (Nat.beq n0 0&&(Nat.beq T1 26&&Nat.beq T2 193))then some (a,b)else none
 |_,_=>none
theorem adb{args:List AV}{objs:List Ob}{l:Dt×List Dt}(h:ada args objs=some l):CnA Tryz.prog args [(.row 0),(.dat 26 l.1)]∧CnOL Tryz.prog objs [(.row 193 l.2)]:=by
 unfold ada at h;split at h
 ·obtain⟨hc,a⟩:=aC h;cases a;have e0:=beq_eq (aF hc);have hc:=aB hc;have e1:=beq_eq (aF hc);have hc:=aB hc;have e2:=beq_eq hc;subst e0 e1 e2;exact⟨(.cons (.of .same rfl rfl) (.cons (.of .same rfl rfl) .nil)),(.cons .same .nil)⟩
 ·cases h
def ade(args:List AV)(objs:List Ob):Option (Int×List Dt):=match args,objs with
 | [.row n0,.dat T1 a],[.row T2 b]=>bif (Nat.beq n0 0&&(Nat.beq T1 3&&Nat.beq T2 193))then some (a.toInt,b)else none
 |_,_=>none
theorem adf{args:List AV}{objs:List Ob}{l:Int×List Dt}(h:ade args objs=some l):CnA Tryz.prog args [(.row 0),(.dat 3 (.int l.1))]∧CnOL Tryz.prog objs [(.row 193 l.2)]:=by
 unfold ade at h;split at h
 ·obtain⟨hc,a⟩:=aC h;cases a;have e0:=beq_eq (aF hc);have hc:=aB hc;have e1:=beq_eq (aF hc);have hc:=aB hc;have e2:=beq_eq hc;subst e0 e1 e2;exact⟨(.cons (.of .same rfl rfl) (.cons (.of (.dat (.int Tryz.underlying3)) rfl rfl) .nil)),(.cons .same .nil)⟩
 ·cases h
def D8(args:List AV)(objs:List Ob):Option Int:=match args,objs with
 | [.dat T0 a],[]=>bif Nat.beq T0 3 then some a.toInt else none
 |_,_=>none
theorem rQ{args:List AV}{objs:List Ob}{l:Int}(h:D8 args objs=some l):CnA Tryz.prog args [(.dat 3 (.int l))]∧CnOL Tryz.prog objs []:=by
 unfold D8 at h;split at h
 ·obtain⟨hc,a⟩:=aC h;cases a;have e0:=beq_eq hc;subst e0;exact⟨(.cons (.of (.dat (.int Tryz.underlying3)) rfl rfl) .nil),.nil⟩
 ·cases h
def adg(args:List AV)(objs:List Ob):Option (ByteArray×List Dt):=match args,objs with
 | [.row n0,.dat T1 a],[.row T2 b]=>bif (Nat.beq n0 0&&(Nat.beq T1 9&&Nat.beq T2 193))then some (a.toStr,b)else none
 |_,_=>none
theorem adh{args:List AV}{objs:List Ob}{l:ByteArray×List Dt}(h:adg args objs=some l):CnA Tryz.prog args [(.row 0),(.dat 9 (.str l.1))]∧CnOL Tryz.prog objs [(.row 193 l.2)]:=by
 unfold adg at h;split at h
 ·obtain⟨hc,a⟩:=aC h;cases a;have e0:=beq_eq (aF hc);have hc:=aB hc;have e1:=beq_eq (aF hc);have hc:=aB hc;have e2:=beq_eq hc;subst e0 e1 e2;exact⟨(.cons (.of .same rfl rfl) (.cons (.of (.dat (.str Tryz.underlying9)) rfl rfl) .nil)),(.cons .same .nil)⟩
 ·cases h
def D9(args:List AV)(objs:List Ob):Option (Dt×Int):=match args,objs with
 | [.dat T0 a,.dat T1 b],[]=>bif (Nat.beq T0 26&&Nat.beq T1 3)then some (a,b.toInt)else none
 |_,_=>none
theorem rR{args:List AV}{objs:List Ob}{l:Dt×Int}(h:D9 args objs=some l):CnA Tryz.prog args [(.dat 26 l.1),(.dat 3 (.int l.2))]∧CnOL Tryz.prog objs []:=by
 unfold D9 at h;split at h
 ·obtain⟨hc,a⟩:=aC h;cases a;have e0:=beq_eq (aF hc);have hc:=aB hc;have e1:=beq_eq hc;subst e0 e1;exact⟨(.cons (.of .same rfl rfl) (.cons (.of (.dat (.int Tryz.underlying3)) rfl rfl) .nil)),.nil⟩
 ·cases h
def adi(args:List AV)(objs:List Ob):Option (List Dt):=match args,objs with
 | [.dat T0 a],[]=>bif Nat.beq T0 24 then some a.toLst else none
 |_,_=>none
theorem adj{args:List AV}{objs:List Ob}{l:List Dt}(h:adi args objs=some l):CnA Tryz.prog args [(.dat 24 (.lst l))]∧CnOL Tryz.prog objs []:=by
 unfold adi at h;split at h
 ·obtain⟨hc,a⟩:=aC h;cases a;have e0:=beq_eq hc;subst e0;exact⟨(.cons (.of (.dat (.lst Tryz.underlying24)) rfl rfl) .nil),.nil⟩
 ·cases h
def adk(args:List AV)(objs:List Ob):Option (ByteArray×Int×Int):=match args,objs with
 | [.dat T0 a,.dat T1 b,.dat T2 c],[]=>bif (Nat.beq T0 9&&(Nat.beq T1 3&&Nat.beq T2 3))then some (a.toStr,b.toInt,c.toInt)else none
 |_,_=>none
theorem adl{args:List AV}{objs:List Ob}{l:ByteArray×Int×Int}(h:adk args objs=some l):CnA Tryz.prog args [(.dat 9 (.str l.1)),(.dat 3 (.int l.2.1)),(.dat 3 (.int l.2.2))]∧CnOL Tryz.prog objs []:=by
 unfold adk at h;split at h
 ·obtain⟨hc,a⟩:=aC h;cases a;have e0:=beq_eq (aF hc);have hc:=aB hc;have e1:=beq_eq (aF hc);have hc:=aB hc;have e2:=beq_eq hc;subst e0 e1 e2;exact⟨(.cons (.of (.dat (.str Tryz.underlying9)) rfl rfl) (.cons (.of (.dat (.int Tryz.underlying3)) rfl rfl) (.cons (.of (.dat (.int Tryz.underlying3)) rfl rfl) .nil))),.nil⟩
 ·cases h
def adn(args:List AV)(objs:List Ob):Option (Dt×Int×Int):=match args,objs with
 | [.dat T0 a,.fn T1 [.ptr n2 p2 o2,.ptr n3 p3 o3]],[.box T4 (.dat T5 b),.box T6 (.dat T7 c)]=>bif (Nat.beq T0 26&&(Nat.beq T1 235&&(Nat.beq n2 0&&(natsB p2 []&&(Nat.beq o2 0&&(Nat.beq n3 1&&(natsB p3 []&&(Nat.beq o3 0&&(Nat.beq T4 3&&(Nat.beq T5 3&&(Nat.beq T6 3&&Nat.beq T7 3)))))))))))then some (a,b.toInt,c.toInt)else none
 |_,_=>none
theorem ado{args:List AV}{objs:List Ob}{l:Dt×Int×Int}(h:adn args objs=some l):CnA Tryz.prog args [(.dat 26 l.1),(.fn 235 [(.ptr 0 [] 0),(.ptr 1 [] 0)])]∧CnOL Tryz.prog objs [(.box 3 (.dat 3 (.int l.2.1))),(.box 3 (.dat 3 (.int l.2.2)))]:=by
 unfold adn at h;split at h
 ·obtain⟨hc,a⟩:=aC h;cases a;have e0:=beq_eq (aF hc);have hc:=aB hc;have e1:=beq_eq (aF hc);have hc:=aB hc;have e2:=beq_eq (aF hc);have hc:=aB hc;have e3:=dO (aF hc);have hc:=aB hc;have e4:=beq_eq (aF hc);have hc:=aB hc;have e5:=beq_eq (aF hc);have hc:=aB hc;have e6:=dO (aF hc);have hc:=aB hc;have e7:=beq_eq (aF hc);have hc:=aB hc;have e8:=beq_eq (aF hc);have hc:=aB hc;have e9:=beq_eq (aF hc);have hc:=aB hc;have e10:=beq_eq (aF hc);have hc:=aB hc;have e11:=beq_eq hc;subst e0 e1 e2 e3 e4 e5 e6 e7 e8 e9 e10 e11;exact⟨(.cons (.of .same rfl rfl) (.cons (.of (.fn (.cons .same (.cons .same .nil))) rfl rfl) .nil)),(.cons (.box (.dat (.int Tryz.underlying3))) (.cons (.box (.dat (.int Tryz.underlying3))) .nil))⟩
 ·cases h
def QM(args:List AV)(objs:List Ob):Option (Dt×Int×Int):=match args,objs with
 | [.dat T0 a,.ptr n1 p1 o1,.ptr n2 p2 o2],[.box T3 (.dat T4 b),.box T5 (.dat T6 c)]=>bif (Nat.beq T0 26&&(Nat.beq n1 0&&(natsB p1 []&&(Nat.beq o1 0&&(Nat.beq n2 1&&(natsB p2 []&&(Nat.beq o2 0&&(Nat.beq T3 3&&(Nat.beq T4 3&&(Nat.beq T5 3&&Nat.beq T6 3))))))))))then some (a,b.toInt,c.toInt)else none
 |_,_=>none
theorem J7{args:List AV}{objs:List Ob}{l:Dt×Int×Int}(h:QM args objs=some l):CnA Tryz.prog args [(.dat 26 l.1),(.ptr 0 [] 0),(.ptr 1 [] 0)]∧CnOL Tryz.prog objs [(.box 3 (.dat 3 (.int l.2.1))),(.box 3 (.dat 3 (.int l.2.2)))]:=by
 unfold QM at h;split at h
 ·obtain⟨hc,a⟩:=aC h;cases a;have e0:=beq_eq (aF hc);have hc:=aB hc;have e1:=beq_eq (aF hc);have hc:=aB hc;have e2:=dO (aF hc);have hc:=aB hc;have e3:=beq_eq (aF hc);have hc:=aB hc;have e4:=beq_eq (aF hc);have hc:=aB hc;have e5:=dO (aF hc);have hc:=aB hc;have e6:=beq_eq (aF hc);have hc:=aB hc;have e7:=beq_eq (aF hc);have hc:=aB hc;have e8:=beq_eq (aF hc);have hc:=aB hc;have e9:=beq_eq (aF hc);have hc:=aB hc;have e10:=beq_eq hc;subst e0 e1 e2 e3 e4 e5 e6 e7 e8 e9 e10;exact⟨(.cons (.of .same rfl rfl) (.cons (.of .same rfl rfl) (.cons (.of .same rfl rfl) .nil))),(.cons (.box (.dat (.int Tryz.underlying3))) (.cons (.box (.dat (.int Tryz.underlying3))) .nil))⟩
 ·cases h
def adp(args:List AV)(objs:List Ob):Option (Dt×Int×Int):=match args,objs with
 | [.dat T0 a,.fn T1 [.ptr n2 p2 o2,.ptr n3 p3 o3]],[.box T4 (.dat T5 b),.box T6 (.dat T7 c)]=>bif (Nat.beq T0 26&&(Nat.beq T1 236&&(Nat.beq n2 0&&(natsB p2 []&&(Nat.beq o2 0&&(Nat.beq n3 1&&(natsB p3 []&&(Nat.beq o3 0&&(Nat.beq T4 3&&(Nat.beq T5 3&&(Nat.beq T6 3&&Nat.beq T7 3)))))))))))then some (a,b.toInt,c.toInt)else none
 |_,_=>none
theorem adq{args:List AV}{objs:List Ob}{l:Dt×Int×Int}(h:adp args objs=some l):CnA Tryz.prog args [(.dat 26 l.1),(.fn 236 [(.ptr 0 [] 0),(.ptr 1 [] 0)])]∧CnOL Tryz.prog objs [(.box 3 (.dat 3 (.int l.2.1))),(.box 3 (.dat 3 (.int l.2.2)))]:=by
 unfold adp at h;split at h
 ·obtain⟨hc,a⟩:=aC h;cases a;have e0:=beq_eq (aF hc);have hc:=aB hc;have e1:=beq_eq (aF hc);have hc:=aB hc;have e2:=beq_eq (aF hc);have hc:=aB hc;have e3:=dO (aF hc);have hc:=aB hc;have e4:=beq_eq (aF hc);have hc:=aB hc;have e5:=beq_eq (aF hc);have hc:=aB hc;have e6:=dO (aF hc);have hc:=aB hc;have e7:=beq_eq (aF hc);have hc:=aB hc;have e8:=beq_eq (aF hc);have hc:=aB hc;have e9:=beq_eq (aF hc);have hc:=aB hc;have e10:=beq_eq (aF hc);have hc:=aB hc;have e11:=beq_eq hc;subst e0 e1 e2 e3 e4 e5 e6 e7 e8 e9 e10 e11;exact⟨(.cons (.of .same rfl rfl) (.cons (.of (.fn (.cons .same (.cons .same .nil))) rfl rfl) .nil)),(.cons (.box (.dat (.int Tryz.underlying3))) (.cons (.box (.dat (.int Tryz.underlying3))) .nil))⟩
 ·cases h
noncomputable def ct6{R:Type}(m:Nat)(args:List AV)(objs:List Ob)(K:Res->Option R):Option R:=match aj8 args objs with
 |some l=>(qA m l.1 l.2).bind fun r=>K ((.dat 4 (.bool r)),[])
 |none=>none
noncomputable def aqf{R:Type}(m:Nat)(args:List AV)(objs:List Ob)(K:Res->Option R):Option R:=match aj9 args objs with
 |some l=>(zG m l.1 l.2.1 l.2.2).bind fun r=>K ((.dat 4 (.bool r)),[])
 |none=>none
noncomputable def aqg{R:Type}(m:Nat)(args:List AV)(objs:List Ob)(K:Res->Option R):Option R:=match aqd args objs with
 |some l=>(o9).bind fun r=>K ((.dat 4 (.bool r)),[])
 |none=>none
noncomputable def aqh{R:Type}(m:Nat)(args:List AV)(objs:List Ob)(K:Res->Option R):Option R:=match aj9 args objs with
 |some l=>(qP m l.1 l.2.1 l.2.2).bind fun r=>K ((.tup [(.dat 54 (.lst r.1)),(.dat 31 (.int r.2))]),[])
 |none=>none
noncomputable def aqi{R:Type}(m:Nat)(args:List AV)(objs:List Ob)(K:Res->Option R):Option R:=match UF args objs with
 |some l=>(slices_Clone l).bind fun r=>K ((.row 0),[(.row 23 r)])
 |none=>none
noncomputable def aqj{R:Type}(m:Nat)(args:List AV)(objs:List Ob)(K:Res->Option R):Option R:=match gL args objs with
 |some l=>(zN m l).bind fun r=>K ((.tup [(.dat 26 r.1),(.dat 4 (.bool r.2))]),[])
 |none=>none
noncomputable def aqk{R:Type}(m:Nat)(args:List AV)(objs:List Ob)(K:Res->Option R):Option R:=match aqe args objs with
 |some l=>(i6 m l.1 l.2).bind fun r=>K ((.row 1),[.gone,(.row 23 r)])
 |none=>none
noncomputable def aql{R:Type}(m:Nat)(args:List AV)(objs:List Ob)(K:Res->Option R):Option R:=match UG args objs with
 |some l=>(qC m l.1 l.2).bind fun r=>K ((.dat 3 (.int r)),[])
 |none=>none
noncomputable def aqm{R:Type}(m:Nat)(args:List AV)(objs:List Ob)(K:Res->Option R):Option R:=match aj8 args objs with
 |some l=>(qR m l.1 l.2).bind fun r=>K ((.dat 4 (.bool r)),[])
 |none=>none
noncomputable def aqn{R:Type}(m:Nat)(args:List AV)(objs:List Ob)(K:Res->Option R):Option R:=match akd args objs with
 |some l=>(i9 m l).bind fun r=>K ((.dat 4 (.bool r)),[])
 |none=>match QJ args objs with
 |some l=>(i40 m l).bind fun r=>K ((.dat 4 (.bool r)),[])
 |none=>none
noncomputable def aqo{R:Type}(m:Nat)(args:List AV)(objs:List Ob)(K:Res->Option R):Option R:=match akd args objs with
 |some l=>(i10 m l).bind fun r=>K ((.dat 3 (.int r)),[])
 |none=>match QJ args objs with
 |some l=>(i41 m l).bind fun r=>K ((.dat 3 (.int r)),[])
 |none=>none
noncomputable def aqp{R:Type}(m:Nat)(args:List AV)(objs:List Ob)(K:Res->Option R):Option R:=match gL args objs with
 |some l=>(zO m l).bind fun r=>K ((.dat 4 (.bool r)),[])
 |none=>none
noncomputable def ct8{R:Type}(m:Nat)(args:List AV)(objs:List Ob)(K:Res->Option R):Option R:=match UF args objs with
 |some l=>(z6 m l).bind fun r=>K ((.dat 4 (.bool r)),[])
 |none=>none
noncomputable def aqr{R:Type}(m:Nat)(args:List AV)(objs:List Ob)(K:Res->Option R):Option R:=match UF args objs with
 |some l=>(qV m l).bind fun r=>K ((.dat 4 (.bool r)),[])
 |none=>none
noncomputable def aqs{R:Type}(m:Nat)(args:List AV)(objs:List Ob)(K:Res->Option R):Option R:=match QD args objs with
 |some l=>(i14 m l).bind fun r=>K ((.dat 4 (.bool r)),[])
 |none=>none
noncomputable def aqt{R:Type}(m:Nat)(args:List AV)(objs:List Ob)(K:Res->Option R):Option R:=match QD args objs with
 |some l=>(i15 m l).bind fun r=>K ((.dat 3 (.int r)),[])
 |none=>none
noncomputable def aqu{R:Type}(m:Nat)(args:List AV)(objs:List Ob)(K:Res->Option R):Option R:=match QE args objs with
 |some l=>(zQ m l).bind fun r=>K ((.dat 4 (.bool r)),[])
 |none=>none
noncomputable def aqv{R:Type}(m:Nat)(args:List AV)(objs:List Ob)(K:Res->Option R):Option R:=match gL args objs with
 |some l=>(qB m l).bind fun r=>K ((.dat 26 r),[])
 |none=>none
noncomputable def aqw{R:Type}(m:Nat)(args:List AV)(objs:List Ob)(K:Res->Option R):Option R:=match JX args objs with
 |some l=>(i18 m l.1 l.2.1 l.2.2.1 l.2.2.2.1 l.2.2.2.2.1 l.2.2.2.2.2).bind fun r=>K ((.tup []),[(.box 114 (.agg 114 [(.dat 51 r.1),(.row 5),(.row 2),(.row 3),(.row 6)])),.gone,(.map 110 r.2.1),(.map 111 r.2.2.1),.gone,(.row 112 r.2.2.2.1),(.row 54 r.2.2.2.2)])
 |none=>none
noncomputable def aqx{R:Type}(m:Nat)(args:List AV)(objs:List Ob)(K:Res->Option R):Option R:=match acW args objs with
 |some l=>(i19 m l.1 l.2).bind fun r=>K ((.dat 9 (.str r)),[])
 |none=>none
noncomputable def adr{R:Type}(m:Nat)(args:List AV)(objs:List Ob)(K:Res->Option R):Option R:=match acY args objs with
 |some l=>(zJ m l.1 l.2).bind fun r=>K ((.dat 26 r),[])
 |none=>none
noncomputable def ads{R:Type}(m:Nat)(args:List AV)(objs:List Ob)(K:Res->Option R):Option R:=match UF args objs with
 |some l=>(qY m l).bind fun r=>K ((.dat 9 (.str r)),[])
 |none=>none
noncomputable def adt{R:Type}(m:Nat)(args:List AV)(objs:List Ob)(K:Res->Option R):Option R:=match gL args objs with
 |some l=>(zL m l).bind fun r=>K ((.dat 26 r),[])
 |none=>none
noncomputable def aqy{R:Type}(m:Nat)(args:List AV)(objs:List Ob)(K:Res->Option R):Option R:=match JX args objs with
 |some l=>(i23 m l.1 l.2.1 l.2.2.1 l.2.2.2.1 l.2.2.2.2.1 l.2.2.2.2.2).bind fun r=>K ((.dat 31 (.int r.1)),[(.box 114 (.agg 114 [(.dat 51 r.2.1),(.row 5),(.row 2),(.row 3),(.row 6)])),.gone,(.map 110 r.2.2.1),(.map 111 r.2.2.2.1),.gone,(.row 112 r.2.2.2.2.1),(.row 54 r.2.2.2.2.2)])
 |none=>none
noncomputable def adu{R:Type}(m:Nat)(args:List AV)(objs:List Ob)(K:Res->Option R):Option R:=match JX args objs with
 |some l=>(i24 m l.1 l.2.1 l.2.2.1 l.2.2.2.1 l.2.2.2.2.1 l.2.2.2.2.2).bind fun r=>K ((.dat 31 (.int r.1)),[(.box 114 (.agg 114 [(.dat 51 r.2.1),(.row 5),(.row 2),(.row 3),(.row 6)])),.gone,(.map 110 r.2.2.1),(.map 111 r.2.2.2.1),.gone,(.row 112 r.2.2.2.2.1),(.row 54 r.2.2.2.2.2)])
 |none=>none
noncomputable def adv{R:Type}(m:Nat)(args:List AV)(objs:List Ob)(K:Res->Option R):Option R:=match gL args objs with
 |some l=>(qT m l).bind fun r=>K ((.dat 31 (.int r)),[])
 |none=>none
noncomputable def adw{R:Type}(m:Nat)(args:List AV)(objs:List Ob)(K:Res->Option R):Option R:=match ac0 args objs with
 |some l=>(i26 m l.1 l.2.1 l.2.2.1 l.2.2.2.1 l.2.2.2.2.1 l.2.2.2.2.2.1 l.2.2.2.2.2.2).bind fun r=>K ((.tup []),[(.box 114 (.agg 114 [(.dat 51 r.1),(.row 5),(.row 2),(.row 3),(.row 6)])),.gone,(.map 110 r.2.1),(.map 111 r.2.2.1),.gone,(.row 112 r.2.2.2.1),(.row 54 r.2.2.2.2)])
 |none=>none
noncomputable def adx{R:Type}(m:Nat)(args:List AV)(objs:List Ob)(K:Res->Option R):Option R:=match QF args objs with
 |some l=>(i27 m l.1 l.2.1 l.2.2.1 l.2.2.2.1 l.2.2.2.2.1 l.2.2.2.2.2.1 l.2.2.2.2.2.2).bind fun r=>K ((.dat 31 (.int r.1)),[(.box 114 (.agg 114 [(.dat 51 r.2.1),(.row 5),(.row 2),(.row 3),(.row 6)])),.gone,(.map 110 r.2.2.1),(.map 111 r.2.2.2.1),.gone,(.row 112 r.2.2.2.2.1),(.row 54 r.2.2.2.2.2)])
 |none=>none
noncomputable def ady{R:Type}(m:Nat)(args:List AV)(objs:List Ob)(K:Res->Option R):Option R:=match UG args objs with
 |some l=>(yB m l.1 l.2).bind fun r=>K ((.dat 4 (.bool r)),[])
 |none=>none
noncomputable def adz{R:Type}(m:Nat)(args:List AV)(objs:List Ob)(K:Res->Option R):Option R:=match QF args objs with
 |some l=>(i29 m l.1 l.2.1 l.2.2.1 l.2.2.2.1 l.2.2.2.2.1 l.2.2.2.2.2.1 l.2.2.2.2.2.2).bind fun r=>K ((.tup []),[(.box 114 (.agg 114 [(.dat 51 r.1),(.row 5),(.row 2),(.row 3),(.row 6)])),.gone,(.map 110 r.2.1),(.map 111 r.2.2.1),.gone,(.row 112 r.2.2.2.1),(.row 54 r.2.2.2.2)])
 |none=>none
noncomputable def adA{R:Type}(m:Nat)(args:List AV)(objs:List Ob)(K:Res->Option R):Option R:=match QG args objs with
 |some l=>(i30 m l.1 l.2).bind fun r=>K ((.dat 75 (.lst r.1)),[(.box 3 (.dat 3 (.int r.2)))])
 |none=>match ac4 args objs with
 |some l=>(i33 m l.1 l.2).bind fun r=>K ((.row 0),[(.frz 75 r.1),(.box 3 (.dat 3 (.int r.2)))])
 |none=>none
noncomputable def adB{R:Type}(m:Nat)(args:List AV)(objs:List Ob)(K:Res->Option R):Option R:=match QG args objs with
 |some l=>(i31 m l.1 l.2).bind fun r=>K ((.dat 3 (.int r.1)),[(.box 3 (.dat 3 (.int r.2)))])
 |none=>none
noncomputable def adC{R:Type}(m:Nat)(args:List AV)(objs:List Ob)(K:Res->Option R):Option R:=match ac2 args objs with
 |some l=>(i32 m l.1 l.2).bind fun r=>K ((.dat 4 (.bool r.1)),[(.box 3 (.dat 3 (.int r.2)))])
 |none=>none
noncomputable def adD{R:Type}(m:Nat)(args:List AV)(objs:List Ob)(K:Res->Option R):Option R:=match ac6 args objs with
 |some l=>(zY m l.1 l.2.1 l.2.2).bind fun r=>K ((.dat 26 r),[])
 |none=>none
noncomputable def aqz{R:Type}(m:Nat)(args:List AV)(objs:List Ob)(K:Res->Option R):Option R:=match gL args objs with
 |some l=>(zV m l).bind fun r=>K ((.dat 4 (.bool r)),[])
 |none=>none
noncomputable def aqA{R:Type}(m:Nat)(args:List AV)(objs:List Ob)(K:Res->Option R):Option R:=match QH args objs with
 |some l=>(zM m l.1 l.2).bind fun r=>K ((.dat 3 (.int r)),[])
 |none=>none
noncomputable def aqB{R:Type}(m:Nat)(args:List AV)(objs:List Ob)(K:Res->Option R):Option R:=match QI args objs with
 |some l=>(zE m l.1 l.2).bind fun r=>K ((.dat 3 (.int r)),[])
 |none=>none
noncomputable def aqC{R:Type}(m:Nat)(args:List AV)(objs:List Ob)(K:Res->Option R):Option R:=match UG args objs with
 |some l=>(qW m l.1 l.2).bind fun r=>K ((.dat 4 (.bool r)),[])
 |none=>none
noncomputable def aqD{R:Type}(m:Nat)(args:List AV)(objs:List Ob)(K:Res->Option R):Option R:=match gL args objs with
 |some l=>(zK m l).bind fun r=>K ((.dat 31 (.int r)),[])
 |none=>none
noncomputable def aqE{R:Type}(m:Nat)(args:List AV)(objs:List Ob)(K:Res->Option R):Option R:=match gL args objs with
 |some l=>(zZ m l).bind fun r=>K ((.dat 4 (.bool r)),[])
 |none=>none
noncomputable def aqF{R:Type}(m:Nat)(args:List AV)(objs:List Ob)(K:Res->Option R):Option R:=match QE args objs with
 |some l=>(zD m l).bind fun r=>K ((.dat 4 (.bool r)),[])
 |none=>none
noncomputable def adE{R:Type}(m:Nat)(args:List AV)(objs:List Ob)(K:Res->Option R):Option R:=match ac8 args objs with
 |some l=>(zH m l.1 l.2).bind fun r=>K ((.dat 3 (.int r)),[])
 |none=>none
noncomputable def adF{R:Type}(m:Nat)(args:List AV)(objs:List Ob)(K:Res->Option R):Option R:=match vO args objs with
 |some l=>(zA m l).bind fun r=>K ((.tup [(.dat 3 (.int r.1)),(.dat 4 (.bool r.2))]),[])
 |none=>none
noncomputable def adG{R:Type}(m:Nat)(args:List AV)(objs:List Ob)(K:Res->Option R):Option R:=match gL args objs with
 |some l=>(qG m l).bind fun r=>K ((.dat 26 r),[])
 |none=>none
noncomputable def adH{R:Type}(m:Nat)(args:List AV)(objs:List Ob)(K:Res->Option R):Option R:=match gL args objs with
 |some l=>(zP m l).bind fun r=>K ((.tup [(.dat 9 (.str r.1)),(.dat 31 (.int r.2))]),[])
 |none=>none
noncomputable def adI{R:Type}(m:Nat)(args:List AV)(objs:List Ob)(K:Res->Option R):Option R:=match QK args objs with
 |some l=>(z8 m l.1 l.2).bind fun r=>K ((.tup [(.dat 26 r.1),(.dat 4 (.bool r.2))]),[])
 |none=>none
noncomputable def adJ{R:Type}(m:Nat)(args:List AV)(objs:List Ob)(K:Res->Option R):Option R:=match gL args objs with
 |some l=>(zW m l).bind fun r=>K ((.dat 4 (.bool r)),[])
 |none=>none
noncomputable def adK{R:Type}(m:Nat)(args:List AV)(objs:List Ob)(K:Res->Option R):Option R:=match gL args objs with
 |some l=>(zR m l).bind fun r=>K ((.tup [(.dat 3 (.int r.1)),(.dat 31 (.int r.2))]),[])
 |none=>none
noncomputable def aqG{R:Type}(m:Nat)(args:List AV)(objs:List Ob)(K:Res->Option R):Option R:=match UG args objs with
 |some l=>(qF m l.1 l.2).bind fun r=>K ((.dat 3 (.int r)),[])
 |none=>none
noncomputable def adL{R:Type}(m:Nat)(args:List AV)(objs:List Ob)(K:Res->Option R):Option R:=match gL args objs with
 |some l=>(qJ m l).bind fun r=>K ((.agg 26 [(.dat 3 (.int r.1)),(.dat 3 (.int r.2.1)),(.dat 9 (.str r.2.2.1)),(.row 0),(.row 1)]),[(.row 23 r.2.2.2.1),(.row 24 r.2.2.2.2)])
 |none=>none
noncomputable def adM{R:Type}(m:Nat)(args:List AV)(objs:List Ob)(K:Res->Option R):Option R:=match QK args objs with
 |some l=>(zI m l.1 l.2).bind fun r=>K ((.dat 3 (.int r)),[])
 |none=>none
noncomputable def aqH{R:Type}(m:Nat)(args:List AV)(objs:List Ob)(K:Res->Option R):Option R:=match gL args objs with
 |some l=>(yA m l).bind fun r=>K ((.dat 3 (.int r)),[])
 |none=>none
noncomputable def aqI{R:Type}(m:Nat)(args:List AV)(objs:List Ob)(K:Res->Option R):Option R:=match gL args objs with
 |some l=>(yE m l).bind fun r=>K ((.dat 3 (.int r)),[])
 |none=>none
noncomputable def aqJ{R:Type}(m:Nat)(args:List AV)(objs:List Ob)(K:Res->Option R):Option R:=match QL args objs with
 |some l=>(qE m l.1 l.2).bind fun r=>K ((.dat 4 (.bool r)),[])
 |none=>none
noncomputable def aqK{R:Type}(m:Nat)(args:List AV)(objs:List Ob)(K:Res->Option R):Option R:=match gL args objs with
 |some l=>(z7 m l).bind fun r=>K ((.tup [(.dat 3 (.int r.1)),(.dat 31 (.int r.2))]),[])
 |none=>none
noncomputable def aqL{R:Type}(m:Nat)(args:List AV)(objs:List Ob)(K:Res->Option R):Option R:=match vO args objs with
 |some l=>(qS m l).bind fun r=>K ((.dat 4 (.bool r)),[])
 |none=>none
noncomputable def adN{R:Type}(m:Nat)(args:List AV)(objs:List Ob)(K:Res->Option R):Option R:=match ada args objs with
 |some l=>(i59 m l.1 l.2).bind fun r=>K ((.row 1),[.gone,(.row 193 r)])
 |none=>none
noncomputable def adO{R:Type}(m:Nat)(args:List AV)(objs:List Ob)(K:Res->Option R):Option R:=match ade args objs with
 |some l=>(i60 m l.1 l.2).bind fun r=>K ((.row 1),[.gone,(.row 193 r)])
 |none=>none
noncomputable def adP{R:Type}(m:Nat)(args:List AV)(objs:List Ob)(K:Res->Option R):Option R:=match D8 args objs with
 |some l=>(zX m l).bind fun r=>K ((.dat 215 (.int r)),[])
 |none=>none
noncomputable def adQ{R:Type}(m:Nat)(args:List AV)(objs:List Ob)(K:Res->Option R):Option R:=match adg args objs with
 |some l=>(i62 m l.1 l.2).bind fun r=>K ((.row 1),[.gone,(.row 193 r)])
 |none=>none
noncomputable def adR{R:Type}(m:Nat)(args:List AV)(objs:List Ob)(K:Res->Option R):Option R:=match gL args objs with
 |some l=>(yC m l).bind fun r=>K ((.dat 3 (.int r)),[])
 |none=>none
noncomputable def adS{R:Type}(m:Nat)(args:List AV)(objs:List Ob)(K:Res->Option R):Option R:=match gL args objs with
 |some l=>(yD m l).bind fun r=>K ((.dat 3 (.int r)),[])
 |none=>none
noncomputable def adT{R:Type}(m:Nat)(args:List AV)(objs:List Ob)(K:Res->Option R):Option R:=match gL args objs with
 |some l=>(qD m l).bind fun r=>K ((.dat 4 (.bool r)),[])
 |none=>none
noncomputable def adU{R:Type}(m:Nat)(args:List AV)(objs:List Ob)(K:Res->Option R):Option R:=match gL args objs with
 |some l=>(qH m l).bind fun r=>K ((.dat 3 (.int r)),[])
 |none=>none
noncomputable def aqM{R:Type}(m:Nat)(args:List AV)(objs:List Ob)(K:Res->Option R):Option R:=match QH args objs with
 |some l=>(zF m l.1 l.2).bind fun r=>K ((.dat 3 (.int r)),[])
 |none=>none
noncomputable def aqN{R:Type}(m:Nat)(args:List AV)(objs:List Ob)(K:Res->Option R):Option R:=match QI args objs with
 |some l=>(strings_Compare l.1 l.2).bind fun r=>K ((.dat 3 (.int r)),[])
 |none=>none
noncomputable def aqO{R:Type}(m:Nat)(args:List AV)(objs:List Ob)(K:Res->Option R):Option R:=match D9 args objs with
 |some l=>(qN m l.1 l.2).bind fun r=>K ((.dat 3 (.int r)),[])
 |none=>none
noncomputable def aqP{R:Type}(m:Nat)(args:List AV)(objs:List Ob)(K:Res->Option R):Option R:=match D9 args objs with
 |some l=>(zB m l.1 l.2).bind fun r=>K ((.dat 3 (.int r)),[])
 |none=>none
noncomputable def aqQ{R:Type}(m:Nat)(args:List AV)(objs:List Ob)(K:Res->Option R):Option R:=match vO args objs with
 |some l=>(qO m l).bind fun r=>K ((.dat 4 (.bool r)),[])
 |none=>none
noncomputable def aqR{R:Type}(m:Nat)(args:List AV)(objs:List Ob)(K:Res->Option R):Option R:=match QL args objs with
 |some l=>(qI m l.1 l.2).bind fun r=>K ((.dat 4 (.bool r)),[])
 |none=>none
noncomputable def aqS{R:Type}(m:Nat)(args:List AV)(objs:List Ob)(K:Res->Option R):Option R:=match gL args objs with
 |some l=>(zU m l).bind fun r=>K ((.tup [(.dat 9 (.str r.1)),(.dat 31 (.int r.2))]),[])
 |none=>none
noncomputable def adV{R:Type}(m:Nat)(args:List AV)(objs:List Ob)(K:Res->Option R):Option R:=match D9 args objs with
 |some l=>(zS m l.1 l.2).bind fun r=>K ((.dat 3 (.int r)),[])
 |none=>none
noncomputable def adW{R:Type}(m:Nat)(args:List AV)(objs:List Ob)(K:Res->Option R):Option R:=match D9 args objs with
 |some l=>(zT m l.1 l.2).bind fun r=>K ((.dat 3 (.int r)),[])
 |none=>none
noncomputable def adX{R:Type}(m:Nat)(args:List AV)(objs:List Ob)(K:Res->Option R):Option R:=match vO args objs with
 |some l=>(utf8_ValidString l).bind fun r=>K ((.dat 4 (.bool r)),[])
 |none=>none
noncomputable def adY{R:Type}(m:Nat)(args:List AV)(objs:List Ob)(K:Res->Option R):Option R:=match adi args objs with
 |some l=>(qK m l).bind fun r=>K ((.dat 4 (.bool r)),[])
 |none=>none
noncomputable def adZ{R:Type}(m:Nat)(args:List AV)(objs:List Ob)(K:Res->Option R):Option R:=match D8 args objs with
 |some l=>(qX m l).bind fun r=>K ((.dat 3 (.int r)),[])
 |none=>none
noncomputable def ad1{R:Type}(m:Nat)(args:List AV)(objs:List Ob)(K:Res->Option R):Option R:=match D8 args objs with
 |some l=>(yF m l).bind fun r=>K ((.dat 4 (.bool r)),[])
 |none=>none
noncomputable def ad2{R:Type}(m:Nat)(args:List AV)(objs:List Ob)(K:Res->Option R):Option R:=match gL args objs with
 |some l=>(qQ m l).bind fun r=>K ((.dat 23 (.lst r)),[])
 |none=>none
noncomputable def ad3{R:Type}(m:Nat)(args:List AV)(objs:List Ob)(K:Res->Option R):Option R:=match adk args objs with
 |some l=>(qZ m l.1 l.2.1 l.2.2).bind fun r=>K ((.dat 4 (.bool r)),[])
 |none=>none
noncomputable def ad4{R:Type}(m:Nat)(args:List AV)(objs:List Ob)(K:Res->Option R):Option R:=match vO args objs with
 |some l=>(qU m l).bind fun r=>K ((.dat 4 (.bool r)),[])
 |none=>none
noncomputable def ad5{R:Type}(m:Nat)(args:List AV)(objs:List Ob)(K:Res->Option R):Option R:=match gL args objs with
 |some l=>(qL m l).bind fun r=>K ((.dat 9 (.str r)),[])
 |none=>none
noncomputable def ad6{R:Type}(m:Nat)(args:List AV)(objs:List Ob)(K:Res->Option R):Option R:=match adn args objs with
 |some l=>(i84 m l.1 l.2.1 l.2.2).bind fun r=>K ((.tup []),[(.box 3 (.dat 3 (.int r.1))),(.box 3 (.dat 3 (.int r.2)))])
 |none=>match adp args objs with
 |some l=>(i86 m l.1 l.2.1 l.2.2).bind fun r=>K ((.tup []),[(.box 3 (.dat 3 (.int r.1))),(.box 3 (.dat 3 (.int r.2)))])
 |none=>none
noncomputable def ad7{R:Type}(m:Nat)(args:List AV)(objs:List Ob)(K:Res->Option R):Option R:=match QM args objs with
 |some l=>(i85 m l.1 l.2.1 l.2.2).bind fun r=>K ((.dat 4 (.bool r.1)),[(.box 3 (.dat 3 (.int r.2.1))),(.box 3 (.dat 3 (.int r.2.2)))])
 |none=>none
noncomputable def ad8{R:Type}(m:Nat)(args:List AV)(objs:List Ob)(K:Res->Option R):Option R:=match QM args objs with
 |some l=>(i87 m l.1 l.2.1 l.2.2).bind fun r=>K ((.dat 4 (.bool r.1)),[(.box 3 (.dat 3 (.int r.2.1))),(.box 3 (.dat 3 (.int r.2.2)))])
 |none=>none
noncomputable def ad9{R:Type}(m:Nat)(args:List AV)(objs:List Ob)(K:Res->Option R):Option R:=match vO args objs with
 |some l=>(qM m l).bind fun r=>K ((.dat 4 (.bool r)),[])
 |none=>none
noncomputable def aea{R:Type}(m:Nat)(args:List AV)(objs:List Ob)(K:Res->Option R):Option R:=match D8 args objs with
 |some l=>(zC m l).bind fun r=>K ((.dat 9 (.str r)),[])
 |none=>none
noncomputable def d8(q:Res):Option Bool:=match q with
 |(.dat T0 a,[])=>bif Nat.beq T0 4 then some a.toBool else none
 |_=>none
theorem dh{b:Res}{r:Bool}(h:d8 b=some r):Sim Tryz.prog b ((.dat 4 (.bool r)),[]):=by
 unfold d8 at h;split at h
 ·obtain⟨hc,a⟩:=aC h;cases a;have e0:=beq_eq hc;subst e0;exact Sim.of (.of (.dat (.bool Tryz.underlying4)) rfl rfl) .nil
 ·cases h
noncomputable def d17(q:Res):Option Dt:=match q with
 |(.dat T0 a,[])=>bif Nat.beq T0 26 then some a else none
 |_=>none
theorem rT{b:Res}{r:Dt}(h:d17 b=some r):Sim Tryz.prog b ((.dat 26 r),[]):=by
 unfold d17 at h;split at h
 ·obtain⟨hc,a⟩:=aC h;cases a;have e0:=beq_eq hc;subst e0;exact Sim.of (.of .same rfl rfl) .nil
 ·cases h
noncomputable def d32(q:Res):Option (Bool×Int):=match q with
 |(.dat T0 a,[.box T1 (.dat T2 b)])=>bif (Nat.beq T0 4&&(Nat.beq T1 3&&Nat.beq T2 3))then some (a.toBool,b.toInt)else none
 |_=>none
theorem ake{b:Res}{r:Bool×Int}(h:d32 b=some r):Sim Tryz.prog b ((.dat 4 (.bool r.1)),[(.box 3 (.dat 3 (.int r.2)))]):=by
 unfold d32 at h;split at h
 ·obtain⟨hc,a⟩:=aC h;cases a;have e0:=beq_eq (aF hc);have hc:=aB hc;have e1:=beq_eq (aF hc);have hc:=aB hc;have e2:=beq_eq hc;subst e0 e1 e2;exact Sim.of (.of (.dat (.bool Tryz.underlying4)) rfl rfl) (.cons (.box (.dat (.int Tryz.underlying3))) .nil)
 ·cases h
noncomputable def d31(q:Res):Option (Int×Int):=match q with
 |(.dat T0 a,[.box T1 (.dat T2 b)])=>bif (Nat.beq T0 3&&(Nat.beq T1 3&&Nat.beq T2 3))then some (a.toInt,b.toInt)else none
 |_=>none
theorem akf{b:Res}{r:Int×Int}(h:d31 b=some r):Sim Tryz.prog b ((.dat 3 (.int r.1)),[(.box 3 (.dat 3 (.int r.2)))]):=by
 unfold d31 at h;split at h
 ·obtain⟨hc,a⟩:=aC h;cases a;have e0:=beq_eq (aF hc);have hc:=aB hc;have e1:=beq_eq (aF hc);have hc:=aB hc;have e2:=beq_eq hc;subst e0 e1 e2;exact Sim.of (.of (.dat (.int Tryz.underlying3)) rfl rfl) (.cons (.box (.dat (.int Tryz.underlying3))) .nil)
 ·cases h
noncomputable def d30(q:Res):Option (List Dt×Int):=match q with
 |(.dat T0 a,[.box T1 (.dat T2 b)])=>bif (Nat.beq T0 75&&(Nat.beq T1 3&&Nat.beq T2 3))then some (a.toLst,b.toInt)else none
 |_=>none
theorem akg{b:Res}{r:List Dt×Int}(h:d30 b=some r):Sim Tryz.prog b ((.dat 75 (.lst r.1)),[(.box 3 (.dat 3 (.int r.2)))]):=by
 unfold d30 at h;split at h
 ·obtain⟨hc,a⟩:=aC h;cases a;have e0:=beq_eq (aF hc);have hc:=aB hc;have e1:=beq_eq (aF hc);have hc:=aB hc;have e2:=beq_eq hc;subst e0 e1 e2;exact Sim.of (.of (.dat (.lst Tryz.underlying75)) rfl rfl) (.cons (.box (.dat (.int Tryz.underlying3))) .nil)
 ·cases h
noncomputable def d33(q:Res):Option (List Dt×Int):=match q with
 |(.row n0,[.frz T1 a,.box T2 (.dat T3 b)])=>bif (Nat.beq n0 0&&(Nat.beq T1 75&&(Nat.beq T2 3&&Nat.beq T3 3)))then some (a,b.toInt)else none
 |_=>none
theorem akh{b:Res}{r:List Dt×Int}(h:d33 b=some r):Sim Tryz.prog b ((.row 0),[(.frz 75 r.1),(.box 3 (.dat 3 (.int r.2)))]):=by
 unfold d33 at h;split at h
 ·obtain⟨hc,a⟩:=aC h;cases a;have e0:=beq_eq (aF hc);have hc:=aB hc;have e1:=beq_eq (aF hc);have hc:=aB hc;have e2:=beq_eq (aF hc);have hc:=aB hc;have e3:=beq_eq hc;subst e0 e1 e2 e3;exact Sim.of (.of .same rfl rfl) (.cons .same (.cons (.box (.dat (.int Tryz.underlying3))) .nil))
 ·cases h
noncomputable def d36(q:Res):Option Int:=match q with
 |(.dat T0 a,[])=>bif Nat.beq T0 3 then some a.toInt else none
 |_=>none
theorem dz{b:Res}{r:Int}(h:d36 b=some r):Sim Tryz.prog b ((.dat 3 (.int r)),[]):=by
 unfold d36 at h;split at h
 ·obtain⟨hc,a⟩:=aC h;cases a;have e0:=beq_eq hc;subst e0;exact Sim.of (.of (.dat (.int Tryz.underlying3)) rfl rfl) .nil
 ·cases h
noncomputable def d6(q:Res):Option (List Dt):=match q with
 |(.row n0,[.gone,.row T1 a])=>bif (Nat.beq n0 1&&Nat.beq T1 23)then some a else none
 |_=>none
theorem aqT{b:Res}{r:List Dt}(h:d6 b=some r):Sim Tryz.prog b ((.row 1),[.gone,(.row 23 r)]):=by
 unfold d6 at h;split at h
 ·obtain⟨hc,a⟩:=aC h;cases a;have e0:=beq_eq (aF hc);have hc:=aB hc;have e1:=beq_eq hc;subst e0 e1;exact Sim.of (.of .same rfl rfl) (.cons .same (.cons .same .nil))
 ·cases h
noncomputable def d45(q:Res):Option (Int×Bool):=match q with
 |(.tup [.dat T0 a,.dat T1 b],[])=>bif (Nat.beq T0 3&&Nat.beq T1 4)then some (a.toInt,b.toBool)else none
 |_=>none
theorem aki{b:Res}{r:Int×Bool}(h:d45 b=some r):Sim Tryz.prog b ((.tup [(.dat 3 (.int r.1)),(.dat 4 (.bool r.2))]),[]):=by
 unfold d45 at h;split at h
 ·obtain⟨hc,a⟩:=aC h;cases a;have e0:=beq_eq (aF hc);have hc:=aB hc;have e1:=beq_eq hc;subst e0 e1;exact Sim.of (.tup (.cons (.dat (.int Tryz.underlying3)) (.cons (.dat (.bool Tryz.underlying4)) .nil))) .nil
 ·cases h
noncomputable def d52(q:Res):Option (Int×Int×ByteArray×List Dt×List Dt):=match q with
 |(.agg T0 [.dat T1 a,.dat T2 b,.dat T3 c,.row n4,.row n5],[.row T6 d,.row T7 e])=>bif (Nat.beq T0 26&&(Nat.beq T1 3&&(Nat.beq T2 3&&(Nat.beq T3 9&&(Nat.beq n4 0&&(Nat.beq n5 1&&(Nat.beq T6 23&&Nat.beq T7 24)))))))then some (a.toInt,b.toInt,c.toStr,d,e)else none
 |_=>none
theorem akj{b:Res}{r:Int×Int×ByteArray×List Dt×List Dt}(h:d52 b=some r):Sim Tryz.prog b ((.agg 26 [(.dat 3 (.int r.1)),(.dat 3 (.int r.2.1)),(.dat 9 (.str r.2.2.1)),(.row 0),(.row 1)]),[(.row 23 r.2.2.2.1),(.row 24 r.2.2.2.2)]):=by
 unfold d52 at h;split at h
 ·obtain⟨hc,a⟩:=aC h;cases a;have e0:=beq_eq (aF hc);have hc:=aB hc;have e1:=beq_eq (aF hc);have hc:=aB hc;have e2:=beq_eq (aF hc);have hc:=aB hc;have e3:=beq_eq (aF hc);have hc:=aB hc;have e4:=beq_eq (aF hc);have hc:=aB hc;have e5:=beq_eq (aF hc);have hc:=aB hc;have e6:=beq_eq (aF hc);have hc:=aB hc;have e7:=beq_eq hc;subst e0 e1 e2 e3 e4 e5 e6 e7;exact Sim.of (.of (.agg (.cons (.dat (.int Tryz.underlying3)) (.cons (.dat (.int Tryz.underlying3)) (.cons (.dat (.str Tryz.underlying9)) (.cons .same (.cons .same .nil)))))) rfl rfl) (.cons .same (.cons .same .nil))
 ·cases h
noncomputable def d48(q:Res):Option (Dt×Bool):=match q with
 |(.tup [.dat T0 a,.dat T1 b],[])=>bif (Nat.beq T0 26&&Nat.beq T1 4)then some (a,b.toBool)else none
 |_=>none
theorem QN{b:Res}{r:Dt×Bool}(h:d48 b=some r):Sim Tryz.prog b ((.tup [(.dat 26 r.1),(.dat 4 (.bool r.2))]),[]):=by
 unfold d48 at h;split at h
 ·obtain⟨hc,a⟩:=aC h;cases a;have e0:=beq_eq (aF hc);have hc:=aB hc;have e1:=beq_eq hc;subst e0 e1;exact Sim.of (.tup (.cons .same (.cons (.dat (.bool Tryz.underlying4)) .nil))) .nil
 ·cases h
noncomputable def d26(q:Res):Option (Dt×List Dt×List Dt×List Dt×List Dt):=match q with
 |(.tup [],[.box T0 (.agg T1 [.dat T2 b,.row n3,.row n4,.row n5,.row n6]),.gone,.map T7 c,.map T8 d,.gone,.row T9 e,.row T10 a])=>bif (Nat.beq T0 114&&(Nat.beq T1 114&&(Nat.beq T2 51&&(Nat.beq n3 5&&(Nat.beq n4 2&&(Nat.beq n5 3&&(Nat.beq n6 6&&(Nat.beq T7 110&&(Nat.beq T8 111&&(Nat.beq T9 112&&Nat.beq T10 54))))))))))then some (b,c,d,e,a)else none
 |_=>none
theorem Gm{b:Res}{r:Dt×List Dt×List Dt×List Dt×List Dt}(h:d26 b=some r):Sim Tryz.prog b ((.tup []),[(.box 114 (.agg 114 [(.dat 51 r.1),(.row 5),(.row 2),(.row 3),(.row 6)])),.gone,(.map 110 r.2.1),(.map 111 r.2.2.1),.gone,(.row 112 r.2.2.2.1),(.row 54 r.2.2.2.2)]):=by
 unfold d26 at h;split at h
 ·obtain⟨hc,a⟩:=aC h;cases a;have e0:=beq_eq (aF hc);have hc:=aB hc;have e1:=beq_eq (aF hc);have hc:=aB hc;have e2:=beq_eq (aF hc);have hc:=aB hc;have e3:=beq_eq (aF hc);have hc:=aB hc;have e4:=beq_eq (aF hc);have hc:=aB hc;have e5:=beq_eq (aF hc);have hc:=aB hc;have e6:=beq_eq (aF hc);have hc:=aB hc;have e7:=beq_eq (aF hc);have hc:=aB hc;have e8:=beq_eq (aF hc);have hc:=aB hc;have e9:=beq_eq (aF hc);have hc:=aB hc;have e10:=beq_eq hc;subst e0 e1 e2 e3 e4 e5 e6 e7 e8 e9 e10;exact Sim.of (.tup .nil) (.cons (.box (.agg (.cons .same (.cons .same (.cons .same (.cons .same (.cons .same .nil))))))) (.cons .same (.cons .same (.cons .same (.cons .same (.cons .same (.cons .same .nil)))))))
 ·cases h
noncomputable def d61(q:Res):Option Int:=match q with
 |(.dat T0 a,[])=>bif Nat.beq T0 215 then some a.toInt else none
 |_=>none
theorem akk{b:Res}{r:Int}(h:d61 b=some r):Sim Tryz.prog b ((.dat 215 (.int r)),[]):=by
 unfold d61 at h;split at h
 ·obtain⟨hc,a⟩:=aC h;cases a;have e0:=beq_eq hc;subst e0;exact Sim.of (.of (.dat (.int Tryz.underlying215)) rfl rfl) .nil
 ·cases h
noncomputable def d60(q:Res):Option (List Dt):=match q with
 |(.row n0,[.gone,.row T1 a])=>bif (Nat.beq n0 1&&Nat.beq T1 193)then some a else none
 |_=>none
theorem Gn{b:Res}{r:List Dt}(h:d60 b=some r):Sim Tryz.prog b ((.row 1),[.gone,(.row 193 r)]):=by
 unfold d60 at h;split at h
 ·obtain⟨hc,a⟩:=aC h;cases a;have e0:=beq_eq (aF hc);have hc:=aB hc;have e1:=beq_eq hc;subst e0 e1;exact Sim.of (.of .same rfl rfl) (.cons .same (.cons .same .nil))
 ·cases h
noncomputable def d84(q:Res):Option (Int×Int):=match q with
 |(.tup [],[.box T0 (.dat T1 a),.box T2 (.dat T3 b)])=>bif (Nat.beq T0 3&&(Nat.beq T1 3&&(Nat.beq T2 3&&Nat.beq T3 3)))then some (a.toInt,b.toInt)else none
 |_=>none
theorem QO{b:Res}{r:Int×Int}(h:d84 b=some r):Sim Tryz.prog b ((.tup []),[(.box 3 (.dat 3 (.int r.1))),(.box 3 (.dat 3 (.int r.2)))]):=by
 unfold d84 at h;split at h
 ·obtain⟨hc,a⟩:=aC h;cases a;have e0:=beq_eq (aF hc);have hc:=aB hc;have e1:=beq_eq (aF hc);have hc:=aB hc;have e2:=beq_eq (aF hc);have hc:=aB hc;have e3:=beq_eq hc;subst e0 e1 e2 e3;exact Sim.of (.tup .nil) (.cons (.box (.dat (.int Tryz.underlying3))) (.cons (.box (.dat (.int Tryz.underlying3))) .nil))
 ·cases h
noncomputable def d85(q:Res):Option (Bool×Int×Int):=match q with
 |(.dat T0 a,[.box T1 (.dat T2 b),.box T3 (.dat T4 c)])=>bif (Nat.beq T0 4&&(Nat.beq T1 3&&(Nat.beq T2 3&&(Nat.beq T3 3&&Nat.beq T4 3))))then some (a.toBool,b.toInt,c.toInt)else none
 |_=>none
theorem QS{b:Res}{r:Bool×Int×Int}(h:d85 b=some r):Sim Tryz.prog b ((.dat 4 (.bool r.1)),[(.box 3 (.dat 3 (.int r.2.1))),(.box 3 (.dat 3 (.int r.2.2)))]):=by
 unfold d85 at h;split at h
 ·obtain⟨hc,a⟩:=aC h;cases a;have e0:=beq_eq (aF hc);have hc:=aB hc;have e1:=beq_eq (aF hc);have hc:=aB hc;have e2:=beq_eq (aF hc);have hc:=aB hc;have e3:=beq_eq (aF hc);have hc:=aB hc;have e4:=beq_eq hc;subst e0 e1 e2 e3 e4;exact Sim.of (.of (.dat (.bool Tryz.underlying4)) rfl rfl) (.cons (.box (.dat (.int Tryz.underlying3))) (.cons (.box (.dat (.int Tryz.underlying3))) .nil))
 ·cases h
noncomputable def d80(q:Res):Option (List Dt):=match q with
 |(.dat T0 a,[])=>bif Nat.beq T0 23 then some a.toLst else none
 |_=>none
theorem akl{b:Res}{r:List Dt}(h:d80 b=some r):Sim Tryz.prog b ((.dat 23 (.lst r)),[]):=by
 unfold d80 at h;split at h
 ·obtain⟨hc,a⟩:=aC h;cases a;have e0:=beq_eq hc;subst e0;exact Sim.of (.of (.dat (.lst Tryz.underlying23)) rfl rfl) .nil
 ·cases h
noncomputable def d47(q:Res):Option (ByteArray×Int):=match q with
 |(.tup [.dat T0 a,.dat T1 b],[])=>bif (Nat.beq T0 9&&Nat.beq T1 31)then some (a.toStr,b.toInt)else none
 |_=>none
theorem QT{b:Res}{r:ByteArray×Int}(h:d47 b=some r):Sim Tryz.prog b ((.tup [(.dat 9 (.str r.1)),(.dat 31 (.int r.2))]),[]):=by
 unfold d47 at h;split at h
 ·obtain⟨hc,a⟩:=aC h;cases a;have e0:=beq_eq (aF hc);have hc:=aB hc;have e1:=beq_eq hc;subst e0 e1;exact Sim.of (.tup (.cons (.dat (.str Tryz.underlying9)) (.cons (.dat (.int Tryz.underlying31)) .nil))) .nil
 ·cases h
noncomputable def d21(q:Res):Option ByteArray:=match q with
 |(.dat T0 a,[])=>bif Nat.beq T0 9 then some a.toStr else none
 |_=>none
theorem wI{b:Res}{r:ByteArray}(h:d21 b=some r):Sim Tryz.prog b ((.dat 9 (.str r)),[]):=by
 unfold d21 at h;split at h
 ·obtain⟨hc,a⟩:=aC h;cases a;have e0:=beq_eq hc;subst e0;exact Sim.of (.of (.dat (.str Tryz.underlying9)) rfl rfl) .nil
 ·cases h
noncomputable def d50(q:Res):Option (Int×Int):=match q with
 |(.tup [.dat T0 a,.dat T1 b],[])=>bif (Nat.beq T0 3&&Nat.beq T1 31)then some (a.toInt,b.toInt)else none
 |_=>none
theorem QU{b:Res}{r:Int×Int}(h:d50 b=some r):Sim Tryz.prog b ((.tup [(.dat 3 (.int r.1)),(.dat 31 (.int r.2))]),[]):=by
 unfold d50 at h;split at h
 ·obtain⟨hc,a⟩:=aC h;cases a;have e0:=beq_eq (aF hc);have hc:=aB hc;have e1:=beq_eq hc;subst e0 e1;exact Sim.of (.tup (.cons (.dat (.int Tryz.underlying3)) (.cons (.dat (.int Tryz.underlying31)) .nil))) .nil
 ·cases h
noncomputable def d25(q:Res):Option Int:=match q with
 |(.dat T0 a,[])=>bif Nat.beq T0 31 then some a.toInt else none
 |_=>none
theorem QV{b:Res}{r:Int}(h:d25 b=some r):Sim Tryz.prog b ((.dat 31 (.int r)),[]):=by
 unfold d25 at h;split at h
 ·obtain⟨hc,a⟩:=aC h;cases a;have e0:=beq_eq hc;subst e0;exact Sim.of (.of (.dat (.int Tryz.underlying31)) rfl rfl) .nil
 ·cases h
noncomputable def d24(q:Res):Option (Int×Dt×List Dt×List Dt×List Dt×List Dt):=match q with
 |(.dat T0 c,[.box T1 (.agg T2 [.dat T3 d,.row n4,.row n5,.row n6,.row n7]),.gone,.map T8 e,.map T9 f,.gone,.row T10 a,.row T11 b])=>bif (Nat.beq T0 31&&(Nat.beq T1 114&&(Nat.beq T2 114&&(Nat.beq T3 51&&(Nat.beq n4 5&&(Nat.beq n5 2&&(Nat.beq n6 3&&(Nat.beq n7 6&&(Nat.beq T8 110&&(Nat.beq T9 111&&(Nat.beq T10 112&&Nat.beq T11 54)))))))))))then some (c.toInt,d,e,f,a,b)else none
 |_=>none
theorem Gp{b:Res}{r:Int×Dt×List Dt×List Dt×List Dt×List Dt}(h:d24 b=some r):Sim Tryz.prog b ((.dat 31 (.int r.1)),[(.box 114 (.agg 114 [(.dat 51 r.2.1),(.row 5),(.row 2),(.row 3),(.row 6)])),.gone,(.map 110 r.2.2.1),(.map 111 r.2.2.2.1),.gone,(.row 112 r.2.2.2.2.1),(.row 54 r.2.2.2.2.2)]):=by
 unfold d24 at h;split at h
 ·obtain⟨hc,a⟩:=aC h;cases a;have e0:=beq_eq (aF hc);have hc:=aB hc;have e1:=beq_eq (aF hc);have hc:=aB hc;have e2:=beq_eq (aF hc);have hc:=aB hc;have e3:=beq_eq (aF hc);have hc:=aB hc;have e4:=beq_eq (aF hc);have hc:=aB hc;have e5:=beq_eq (aF hc);have hc:=aB hc;have e6:=beq_eq (aF hc);have hc:=aB hc;have e7:=beq_eq (aF hc);have hc:=aB hc;have e8:=beq_eq (aF hc);have hc:=aB hc;have e9:=beq_eq (aF hc);have hc:=aB hc;have e10:=beq_eq (aF hc);have hc:=aB hc;have e11:=beq_eq hc;subst e0 e1 e2 e3 e4 e5 e6 e7 e8 e9 e10 e11;exact Sim.of (.of (.dat (.int Tryz.underlying31)) rfl rfl) (.cons (.box (.agg (.cons .same (.cons .same (.cons .same (.cons .same (.cons .same .nil))))))) (.cons .same (.cons .same (.cons .same (.cons .same (.cons .same (.cons .same .nil)))))))
 ·cases h
noncomputable def d3(q:Res):Option (List Dt×Int):=match q with
 |(.tup [.dat T0 a,.dat T1 b],[])=>bif (Nat.beq T0 54&&Nat.beq T1 31)then some (a.toLst,b.toInt)else none
 |_=>none
theorem aqU{b:Res}{r:List Dt×Int}(h:d3 b=some r):Sim Tryz.prog b ((.tup [(.dat 54 (.lst r.1)),(.dat 31 (.int r.2))]),[]):=by
 unfold d3 at h;split at h
 ·obtain⟨hc,a⟩:=aC h;cases a;have e0:=beq_eq (aF hc);have hc:=aB hc;have e1:=beq_eq hc;subst e0 e1;exact Sim.of (.tup (.cons (.dat (.lst Tryz.underlying54)) (.cons (.dat (.int Tryz.underlying31)) .nil))) .nil
 ·cases h
noncomputable def ct{R:Type}(m:Nat)(f:FuncId)(args:List AV)(objs:List Ob)(K:Res->Option R):Option R:=
 bif Nat.beq f 6 then ct6 m args objs K else
 bif Nat.beq f 24 then aqf m args objs K else
 bif Nat.beq f 10 then aqg m args objs K else
 bif Nat.beq f 27 then aqh m args objs K else
 bif Nat.beq f 28 then aqi m args objs K else
 bif Nat.beq f 30 then aqj m args objs K else
 bif Nat.beq f 29 then aqk m args objs K else
 bif Nat.beq f 21 then aql m args objs K else
 bif Nat.beq f 13 then aqm m args objs K else
 bif Nat.beq f 16 then aqn m args objs K else
 bif Nat.beq f 53 then aqo m args objs K else
 bif Nat.beq f 25 then aqp m args objs K else
 bif Nat.beq f 8 then ct8 m args objs K else
 bif Nat.beq f 66 then aqr m args objs K else
 bif Nat.beq f 63 then aqs m args objs K else
 bif Nat.beq f 96 then aqt m args objs K else
 bif Nat.beq f 64 then aqu m args objs K else
 bif Nat.beq f 58 then aqv m args objs K else
 bif Nat.beq f 68 then aqw m args objs K else
 bif Nat.beq f 99 then aqx m args objs K else
 bif Nat.beq f 109 then adr m args objs K else
 bif Nat.beq f 100 then ads m args objs K else
 bif Nat.beq f 101 then adt m args objs K else
 bif Nat.beq f 69 then aqy m args objs K else
 bif Nat.beq f 102 then adu m args objs K else
 bif Nat.beq f 139 then adv m args objs K else
 bif Nat.beq f 140 then adw m args objs K else
 bif Nat.beq f 103 then adx m args objs K else
 bif Nat.beq f 141 then ady m args objs K else
 bif Nat.beq f 142 then adz m args objs K else
 bif Nat.beq f 194 then adA m args objs K else
 bif Nat.beq f 229 then adB m args objs K else
 bif Nat.beq f 195 then adC m args objs K else
 bif Nat.beq f 119 then adD m args objs K else
 bif Nat.beq f 18 then aqz m args objs K else
 bif Nat.beq f 60 then aqA m args objs K else
 bif Nat.beq f 61 then aqB m args objs K else
 bif Nat.beq f 42 then aqC m args objs K else
 bif Nat.beq f 26 then aqD m args objs K else
 bif Nat.beq f 33 then aqE m args objs K else
 bif Nat.beq f 65 then aqF m args objs K else
 bif Nat.beq f 144 then adE m args objs K else
 bif Nat.beq f 145 then adF m args objs K else
 bif Nat.beq f 146 then adG m args objs K else
 bif Nat.beq f 137 then adH m args objs K else
 bif Nat.beq f 138 then adI m args objs K else
 bif Nat.beq f 122 then adJ m args objs K else
 bif Nat.beq f 193 then adK m args objs K else
 bif Nat.beq f 45 then aqG m args objs K else
 bif Nat.beq f 156 then adL m args objs K else
 bif Nat.beq f 157 then adM m args objs K else
 bif Nat.beq f 54 then aqH m args objs K else
 bif Nat.beq f 55 then aqI m args objs K else
 bif Nat.beq f 56 then aqJ m args objs K else
 bif Nat.beq f 67 then aqK m args objs K else
 bif Nat.beq f 97 then aqL m args objs K else
 bif Nat.beq f 192 then adN m args objs K else
 bif Nat.beq f 226 then adO m args objs K else
 bif Nat.beq f 239 then adP m args objs K else
 bif Nat.beq f 227 then adQ m args objs K else
 bif Nat.beq f 169 then adR m args objs K else
 bif Nat.beq f 170 then adS m args objs K else
 bif Nat.beq f 171 then adT m args objs K else
 bif Nat.beq f 228 then adU m args objs K else
 bif Nat.beq f 86 then aqM m args objs K else
 bif Nat.beq f 87 then aqN m args objs K else
 bif Nat.beq f 92 then aqO m args objs K else
 bif Nat.beq f 93 then aqP m args objs K else
 bif Nat.beq f 94 then aqQ m args objs K else
 bif Nat.beq f 95 then aqR m args objs K else
 bif Nat.beq f 98 then aqS m args objs K else
 bif Nat.beq f 218 then adV m args objs K else
 bif Nat.beq f 219 then adW m args objs K else
 bif Nat.beq f 220 then adX m args objs K else
 bif Nat.beq f 221 then adY m args objs K else
 bif Nat.beq f 240 then adZ m args objs K else
 bif Nat.beq f 128 then ad1 m args objs K else
 bif Nat.beq f 133 then ad2 m args objs K else
 bif Nat.beq f 134 then ad3 m args objs K else
 bif Nat.beq f 135 then ad4 m args objs K else
 bif Nat.beq f 136 then ad5 m args objs K else
 bif Nat.beq f 234 then ad6 m args objs K else
 bif Nat.beq f 235 then ad7 m args objs K else
 bif Nat.beq f 236 then ad8 m args objs K else
 bif Nat.beq f 238 then ad9 m args objs K else
 bif Nat.beq f 191 then aea m args objs K else
 none
end Go.Proofs.YtmecfjhdnbgfeaaGreatDoor
namespace Go.Proofs.YtmecfjhdnbgfeaaGreatDoor
open Nat (succ)
open IntKind (wrap)
open Go.Am Dt
set_option maxRecDepth 100000
def akm:List Nat:=[1,1,0,1,0]
def aqV:List Nat:=[1,1,0,1,0,0,1,1]
def at1:List Nat:=aqV++[1]
noncomputable def e8(J:Nat->Nat->Nat->St->Option Bool->Option Bool)(m:Nat)(p ms:List Nat)(σ:St):=evAt Tryz.prog env (ct m) J (m+1) 13 27 Tryz.f13 d8 p ms σ
noncomputable def l8(J:Nat->Nat->Nat->St->Option Bool->Option Bool)(m:Nat)(p ms:List Nat)(M:Nat)(σ:St):=loopAt Tryz.prog env (ct m) J (m+1) 13 27 Tryz.f13 d8 p ms M σ
noncomputable def BN(a b:List Dt)(c d:Int):St:=⟨tsOf [(0,(.dat 23 (.lst a))),(1,(.dat 23 (.lst b))),(12,(.dat 3 (.int c))),(13,(.dat 3 (.int d)))],[],0⟩
noncomputable def at5:St:=⟨tsOf [],[],0⟩
noncomputable def at6(a b:List Dt):St:=⟨tsOf [(0,(.dat 23 (.lst a))),(1,(.dat 23 (.lst b)))],[],0⟩
abbrev at7(m f:Nat)(a:List Dt->List Dt->Int->Int->Option Bool):Prop:=∀b c d e,l8 jn m akm [] f (BN b c d e)=a b c d e
theorem aeb m b a(h:at7 m b a) c d e f:e8 jn m at1 [b] (BN c d e f)=V6 m (qW m) a c d e f:=
 tre (g:=fun J=>jj J 1 4 b (BN c d e (wrap .i64 (f+1))) (l8 J m akm [] b)) (fun J=>by kernel_rfl) (by simp only[ay,h];rfl)
theorem aec m c a(h:at7 m c a) d e f b:e8 jn m aqV [c] (BN d e f b)=V7 m (qW m) a d e f b:=
 tre (g:=fun J=>(idx d b).bind fun i=>(idx e b).bind fun j=>(qW m i j).bind fun k=>cond (!k) (some false) (jj J 0 8 0 (BN d e f b) (e8 J m at1 [c]))) (fun J=>by kernel_rfl) (by simp only[ay,aeb m c a h];rfl)
theorem aed m:e8 jn m [1,1,1] [] at5=V8 m (qW m):=
 tre (g:=fun J=>some true) (fun J=>by kernel_rfl) (by rfl)
theorem J8 m:∀a d e b c,l8 jn m akm [] a (BN d e b c)=BR m (qW m) a d e b c
 |0,_,_,_,_=>rfl
 |a+1,d,e,b,c=>
  trl (g:=fun J=>cond (c<b) (jj J 0 5 0 (BN d e b c) (e8 J m aqV [a])) (jj J 0 9 0 at5 (e8 J m [1,1,1] []))) (fun J=>by kernel_rfl) (by simp only[ay,aec m a (BR m (qW m) a) (J8 m a),aed m];rfl)
theorem aee m a b c d:e8 jn m [1,1,0,1] [] (BN a b c d)=akA m (qW m) a b c d:=
 tre (g:=fun J=>jj J 1 4 (succ m) (BN a b c d) (l8 J m akm [] (succ m))) (fun J=>by kernel_rfl) (by simp only[ay,J8 m];rfl)
theorem aef m a b:e8 jn m [1,1] [] (at6 a b)=V9 m (qW m) a b:=
 tre (g:=fun J=>jj J 0 4 0 (BN a b (a.length:Int) 0) (e8 J m [1,1,0,1] [])) (fun J=>by kernel_rfl) (by simp only[ay,aee m];rfl)
theorem aua m a b:e8 jn m [] [] ⟨[(.dat 23 (.lst a)),(.dat 23 (.lst b))],[],0⟩=qR (m+1) a b:=
 tre (g:=fun J=>cond ((a.length:Int) !=(b.length:Int)) (some false) (jj J 0 3 0 (at6 a b) (e8 J m [1,1] []))) (fun J=>by kernel_rfl) (by simp only[ay,aef m];rfl)
def QW:List Nat:=[1,1,0,1,0]
def QX:List Nat:=[1,1,0,1,0,0,1,1]
def amu:List Nat:=QX++[1]
def aeg:List Nat:=QX++[0,0,1,1]
noncomputable def e38(J:Nat->Nat->Nat->St->Option Bool->Option Bool)(m:Nat)(p ms:List Nat)(σ:St):=evAt Tryz.prog env (ct m) J (m+1) 42 75 Tryz.f42 d8 p ms σ
noncomputable def l38(J:Nat->Nat->Nat->St->Option Bool->Option Bool)(m:Nat)(p ms:List Nat)(M:Nat)(σ:St):=loopAt Tryz.prog env (ct m) J (m+1) 42 75 Tryz.f42 d8 p ms M σ
noncomputable def ny(a b:Int)(c d:Dt):St:=⟨tsOf [(2,(.ptr 0 [] 0)),(3,(.ptr 1 [] 0)),(36,(.dat 3 (.int a))),(37,(.dat 3 (.int b)))],[(.box 26 (.dat 26 c)),(.box 26 (.dat 26 d))],0⟩
noncomputable def aeh(a b:Int)(c:Bool)(d e:Dt):St:=⟨tsOf [(2,(.ptr 0 [] 0)),(3,(.ptr 1 [] 0)),(36,(.dat 3 (.int a))),(37,(.dat 3 (.int b))),(68,(.dat 4 (.bool c)))],[(.box 26 (.dat 26 d)),(.box 26 (.dat 26 e))],0⟩
noncomputable def QY(a b:Dt):St:=⟨tsOf [(2,(.ptr 0 [] 0)),(3,(.ptr 1 [] 0))],[(.box 26 (.dat 26 a)),(.box 26 (.dat 26 b))],0⟩
noncomputable def J9(a:Bool)(b c:Dt):St:=⟨tsOf [(2,(.ptr 0 [] 0)),(3,(.ptr 1 [] 0)),(33,(.dat 4 (.bool a)))],[(.box 26 (.dat 26 b)),(.box 26 (.dat 26 c))],0⟩
abbrev aei(m f:Nat)(a:Int->Int->Dt->Dt->Option Bool):Prop:=∀b c d e,l38 jn m QW [] f (ny b c d e)=a b c d e
theorem aej m b a(h:aei m b a) c d e f:e38 jn m amu [b] (ny c d e f)=Wd m (qR m) (qW m) a c d e f:=
 tre (g:=fun J=>jj J 1 4 b (ny c (wrap .i64 (d+1)) e f) (l38 J m QW [] b)) (fun J=>by kernel_rfl) (by simp only[ay,h];rfl)
theorem aek m b a(i:aei m b a) c d e f h:e38 jn m aeg [b] (aeh c d e f h)=Oo m (qR m) (qW m) a c d e f h:=
 tre (g:=fun J=>cond e (some false) (jj J 0 8 0 (ny c d f h) (e38 J m amu [b]))) (fun J=>by kernel_rfl) (by simp only[ay,aej m b a i];rfl)
theorem ael m e a(h:aei m e a) f b c d:e38 jn m QX [e] (ny f b c d)=Wh m (qR m) (qW m) a f b c d:=
 tre (g:=fun J=>(idx (L c 4) b).bind fun i=>(idx (L d 4) b).bind fun j=>cond (!(S i 0).toList==(S j 0).toList) (jj J 0 7 0 (aeh f b true c d) (e38 J m aeg [e])) ((idx (L c 4) b).bind fun k=>(idx (L d 4) b).bind fun l=>(qW m (fld k 1) (fld l 1)).bind fun n=>jj J 0 7 0 (aeh f b (!n) c d) (e38 J m aeg [e]))) (fun J=>by kernel_rfl) (by simp only[ay,aek m e a h];rfl)
theorem aem m a b:e38 jn m [1,1,1] [] (QY a b)=Wi m (qR m) (qW m) a b:=
 tre (g:=fun J=>(qR m (L a 3) (L b 3)).bind fun c=>some c) (fun J=>by kernel_rfl) (by rfl)
theorem Ka m:∀a b c d e,l38 jn m QW [] a (ny b c d e)=BS m (qR m) (qW m) a b c d e
 |0,_,_,_,_=>rfl
 |a+1,b,c,d,e=>
  trl (g:=fun J=>cond (c<b) (jj J 0 5 0 (ny b c d e) (e38 J m QX [a])) (jj J 0 9 0 (QY d e) (e38 J m [1,1,1] []))) (fun J=>by kernel_rfl) (by simp only[ay,ael m a (BS m (qR m) (qW m) a) (Ka m a),aem m];rfl)
theorem aen m a b c d:e38 jn m [1,1,0,1] [] (ny a b c d)=akB m (qR m) (qW m) a b c d:=
 tre (g:=fun J=>jj J 1 4 (succ m) (ny a b c d) (l38 J m QW [] (succ m))) (fun J=>by kernel_rfl) (by simp only[ay,Ka m];rfl)
theorem aeo m a b:e38 jn m [1,1] [] (QY a b)=akC m (qR m) (qW m) a b:=
 tre (g:=fun J=>jj J 0 4 0 (ny ((L a 4).length:Int) 0 a b) (e38 J m [1,1,0,1] [])) (fun J=>by kernel_rfl) (by simp only[ay,aen m];rfl)
theorem aep m a b c:e38 jn m [1,0,1] [] (J9 a b c)=BU m (qR m) (qW m) a b c:=
 tre (g:=fun J=>cond a (some false) (jj J 0 3 0 (QY b c) (e38 J m [1,1] []))) (fun J=>by kernel_rfl) (by simp only[ay,aeo m];rfl)
theorem aub m a b:e38 jn m [] [] ⟨[(.dat 26 a),(.dat 26 b)],[],0⟩=qW (m+1) a b:=
 tre (g:=fun J=>cond (I a 0 !=I b 0) (jj J 0 2 0 (J9 true a b) (e38 J m [1,0,1] [])) (cond (I a 1 !=I b 1) (jj J 0 2 0 (J9 true a b) (e38 J m [1,0,1] [])) (cond (!(S a 2).toList==(S b 2).toList) (jj J 0 2 0 (J9 true a b) (e38 J m [1,0,1] [])) (jj J 0 2 0 (J9 (((L a 4).length:Int) !=((L b 4).length:Int)) a b) (e38 J m [1,0,1] []))))) (fun J=>by kernel_rfl) (by simp only[ay,aep m];rfl)
def amv:List Nat:=[1,1,1,1,1]
def amw:List Nat:=[1,1,1,0,1]
def Kc:List Nat:=[1,1,1,0,1,0]
def aer:List Nat:=[1,1,1,1,0,1]
def Ke:List Nat:=aer++[0]
def aes:List Nat:=Kc++[0,1,1]
def amx:List Nat:=aes++[1]
def aeu:List Nat:=Ke++[0,1,1]
def amy:List Nat:=aeu++[1]
noncomputable def e17(J:Nat->Nat->Nat->St->Option Dt->Option Dt)(m:Nat)(p ms:List Nat)(σ:St):=evAt Tryz.prog env (ct m) J (m+1) 58 46 Tryz.f58 d17 p ms σ
noncomputable def l17(J:Nat->Nat->Nat->St->Option Dt->Option Dt)(m:Nat)(p ms:List Nat)(M:Nat)(σ:St):=loopAt Tryz.prog env (ct m) J (m+1) 58 46 Tryz.f58 d17 p ms M σ
noncomputable def nA(a:List Dt)(b c:Int)(d e:Dt)(f g:Int)(h:ByteArray)(i j:List Dt):St:=⟨tsOf [(1,(.ptr 0 [] 0)),(2,(.ptr 1 [] 0)),(3,(.ptr 2 [] 0)),(12,(.dat 23 (.lst a))),(13,(.dat 3 (.int b))),(14,(.dat 3 (.int c)))],[(.box 26 (.dat 26 d)),(.box 26 (.dat 26 e)),(.box 26 (.agg 26 [(.dat 3 (.int f)),(.dat 3 (.int g)),(.dat 9 (.str h)),(.row 3),(.row 4)])),(.row 23 i),(.row 24 j)],0⟩
noncomputable def nC(a:List Dt)(b c:Int)(d:Dt)(e f:Int)(g:ByteArray)(h i:List Dt):St:=⟨tsOf [(2,(.ptr 0 [] 0)),(3,(.ptr 1 [] 0)),(27,(.dat 24 (.lst a))),(28,(.dat 3 (.int b))),(29,(.dat 3 (.int c)))],[(.box 26 (.dat 26 d)),(.box 26 (.agg 26 [(.dat 3 (.int e)),(.dat 3 (.int f)),(.dat 9 (.str g)),(.row 2),(.row 3)])),(.row 23 h),(.row 24 i)],0⟩
noncomputable def amz(a:Dt)(b c:Int)(d:ByteArray)(e f:List Dt):St:=⟨tsOf [(2,(.ptr 0 [] 0)),(3,(.ptr 1 [] 0))],[(.box 26 (.dat 26 a)),(.box 26 (.agg 26 [(.dat 3 (.int b)),(.dat 3 (.int c)),(.dat 9 (.str d)),(.row 2),(.row 3)])),(.row 23 e),(.row 24 f)],0⟩
noncomputable def amA(a b:Dt)(c d:Int)(e:ByteArray)(f g:List Dt):St:=⟨tsOf [(1,(.ptr 0 [] 0)),(2,(.ptr 1 [] 0)),(3,(.ptr 2 [] 0))],[(.box 26 (.dat 26 a)),(.box 26 (.dat 26 b)),(.box 26 (.agg 26 [(.dat 3 (.int c)),(.dat 3 (.int d)),(.dat 9 (.str e)),(.row 3),(.row 4)])),(.row 23 f),(.row 24 g)],0⟩
abbrev amB(m l:Nat)(a:List Dt->Int->Int->Dt->Dt->Int->Int->ByteArray->List Dt->List Dt->Option Dt):Prop:=∀b c d e f g h i j k,l17 jn m Kc [] l (nA b c d e f g h i j k)=a b c d e f g h i j k
theorem aev m b a(o:amB m b a) c d e f h i j k l n:e17 jn m amx [b] (nA c d e f h i j k l n)=Wj m (qB m) a c d e f h i j k l n:=
 tre (g:=fun J=>jj J 1 4 b (nA c d (wrap .i64 (e+1)) f h i j k l n) (l17 J m Kc [] b)) (fun J=>by kernel_rfl) (by simp only[ay,o];rfl)
theorem aew m b a(o:amB m b a) c e d f h i j k l n:e17 jn m aes [b] (nA c e d f h i j k l n)=Wl m (qB m) a c e d f h i j k l n:=
 tre (g:=fun J=>(idx c d).bind fun p=>(qB m p).bind fun q=>(app l [q]).bind fun r=>jj J 0 7 0 (nA c e d f h i j k r n) (e17 J m amx [b])) (fun J=>by kernel_rfl) (by simp only[ay,aev m b a o];rfl)
abbrev amC(m k:Nat)(a:List Dt->Int->Int->Dt->Int->Int->ByteArray->List Dt->List Dt->Option Dt):Prop:=∀b c d e f g h i j,l17 jn m Ke [] k (nC b c d e f g h i j)=a b c d e f g h i j
theorem aex m b a(n:amC m b a) c d e f h i j k l:e17 jn m amy [b] (nC c d e f h i j k l)=Wm m (qB m) a c d e f h i j k l:=
 tre (g:=fun J=>jj J 1 9 b (nC c d (wrap .i64 (e+1)) f h i j k l) (l17 J m Ke [] b)) (fun J=>by kernel_rfl) (by simp only[ay,n];rfl)
theorem aey m b a(o:amC m b a) c e d f h i j k l:e17 jn m aeu [b] (nC c e d f h i j k l)=Wn m (qB m) a c e d f h i j k l:=
 tre (g:=fun J=>(idx c d).bind fun n=>(qB m (fld n 1)).bind fun p=>(app l [agg [str (S n 0),p]]).bind fun q=>jj J 0 12 0 (nC c e d f h i j k q) (e17 J m amy [b])) (fun J=>by kernel_rfl) (by simp only[ay,aex m b a o];rfl)
theorem aez m f a b c d e:e17 jn m amv [] (amz f a b c d e)=Wo m (qB m) f a b c d e:=
 tre (g:=fun J=>some (agg [int a,int b,str c,lst d,lst e])) (fun J=>by kernel_rfl) (by rfl)
theorem Kg m:∀a k b c d e f h i j,l17 jn m Ke [] a (nC k b c d e f h i j)=BX m (qB m) a k b c d e f h i j
 |0,_,_,_,_,_,_,_,_,_=>rfl
 |a+1,k,b,c,d,e,f,h,i,j=>
  trl (g:=fun J=>cond (c<b) (jj J 0 10 0 (nC k b c d e f h i j) (e17 J m aeu [a])) (jj J 0 13 0 (amz d e f h i j) (e17 J m amv []))) (fun J=>by kernel_rfl) (by simp only[ay,aey m a (BX m (qB m) a) (Kg m a),aez m];rfl)
theorem aeA m a b c d e f h i j:e17 jn m aer [] (nC a b c d e f h i j)=akD m (qB m) a b c d e f h i j:=
 tre (g:=fun J=>jj J 1 9 (succ m) (nC a b c d e f h i j) (l17 J m Ke [] (succ m))) (fun J=>by kernel_rfl) (by simp only[ay,Kg m];rfl)
theorem aeB m a b c d e f h:e17 jn m [1,1,1,1] [] (amA a b c d e f h)=Wp m (qB m) a b c d e f h:=
 tre (g:=fun J=>jj J 0 9 0 (nC (L a 4) ((L a 4).length:Int) 0 b c d e f h) (e17 J m aer [])) (fun J=>by kernel_rfl) (by simp only[ay,aeA m];rfl)
theorem Kh m:∀a l b c d e f h i j k,l17 jn m Kc [] a (nA l b c d e f h i j k)=wN m (qB m) a l b c d e f h i j k
 |0,_,_,_,_,_,_,_,_,_,_=>rfl
 |a+1,l,b,c,d,e,f,h,i,j,k=>
  trl (g:=fun J=>cond (c<b) (jj J 0 5 0 (nA l b c d e f h i j k) (e17 J m aes [a])) (jj J 0 8 0 (amA d e f h i j k) (e17 J m [1,1,1,1] []))) (fun J=>by kernel_rfl) (by simp only[ay,aew m a (wN m (qB m) a) (Kh m a),aeB m];rfl)
theorem aeC m a b c d e f h i j k:e17 jn m amw [] (nA a b c d e f h i j k)=akE m (qB m) a b c d e f h i j k:=
 tre (g:=fun J=>jj J 1 4 (succ m) (nA a b c d e f h i j k) (l17 J m Kc [] (succ m))) (fun J=>by kernel_rfl) (by simp only[ay,Kh m];rfl)
theorem auc m a:e17 jn m [] [] ⟨[(.dat 26 a)],[],0⟩=qB (m+1) a:=
 tre (g:=fun J=>jj J 0 4 0 (nA (L a 3) ((L a 3).length:Int) 0 a bg (I a 0) (I a 1) (S a 2) [] []) (e17 J m amw [])) (fun J=>by kernel_rfl) (by simp only[ay,aeC m];rfl)
noncomputable def e32(J:Nat->Nat->Nat->St->Option (Bool×Int)->Option (Bool×Int))(m:Nat)(p ms:List Nat)(σ:St):=evAt Tryz.prog env (ct m) J (m+1) 195 7 Tryz.f195 d32 p ms σ
theorem aqW m b a:e32 jn m [] [] ⟨[(.dat 3 (.int b)),(.ptr 0 [] 0)],[(.box 3 (.dat 3 (.int a)))],1⟩=i32 (m+1) b a:=
 tre (g:=fun J=>some (b==a,a)) (fun J=>by kernel_rfl) (by rfl)
def aeD:List Nat:=[1,0,1,0,0,1,1]
def amD:List Nat:=aeD++[1]
noncomputable def e31(J:Nat->Nat->Nat->St->Option (Int×Int)->Option (Int×Int))(m:Nat)(p ms:List Nat)(σ:St):=evAt Tryz.prog env (ct m) J (m+1) 229 19 Tryz.f229 d31 p ms σ
noncomputable def l31(J:Nat->Nat->Nat->St->Option (Int×Int)->Option (Int×Int))(m:Nat)(p ms:List Nat)(M:Nat)(σ:St):=loopAt Tryz.prog env (ct m) J (m+1) 229 19 Tryz.f229 d31 p ms M σ
noncomputable def nD(a:List Dt)(b c d:Int):St:=⟨tsOf [(0,(.dat 75 (.lst a))),(1,(.fn 195 [(.ptr 0 [] 0)])),(7,(.dat 3 (.int b))),(8,(.dat 3 (.int c)))],[(.box 3 (.dat 3 (.int d)))],1⟩
noncomputable def amE(a:Int):St:=⟨tsOf [],[(.box 3 (.dat 3 (.int a)))],1⟩
abbrev amF(m f:Nat)(a:List Dt->Int->Int->Int->Option (Int×Int)):Prop:=∀b c d e,l31 jn m [1,0,1,0] [] f (nD b c d e)=a b c d e
theorem UH m b a(h:amF m b a) c d e f:e31 jn m amD [b] (nD c d e f)=Wq m a c d e f:=
 tre (g:=fun J=>jj J 1 2 b (nD c d (wrap .i64 (e+1)) f) (l31 J m [1,0,1,0] [] b)) (fun J=>by kernel_rfl) (by simp only[ay,h];rfl)
theorem UJ m c a(i:amF m c a) d e b f:e31 jn m aeD [c] (nD d e b f)=Ws m a d e b f:=
 tre (g:=fun J=>(idx d b).bind fun j=>(i32 m (toInt j) f).bind fun h=>cond h.1 (some (b,h.2)) (jj J 0 6 0 (nD d e b h.2) (e31 J m amD [c]))) (fun J=>by kernel_rfl) (by simp only[ay,UH m c a i];rfl)
theorem UK m a:e31 jn m [1,1] [] (amE a)=Wt m a:=
 tre (g:=fun J=>some ((-1),a)) (fun J=>by kernel_rfl) (by rfl)
theorem Ea m:∀a e b c d,l31 jn m [1,0,1,0] [] a (nD e b c d)=EM m a e b c d
 |0,_,_,_,_=>rfl
 |a+1,e,b,c,d=>
  trl (g:=fun J=>cond (c<b) (jj J 0 3 0 (nD e b c d) (e31 J m aeD [a])) (jj J 0 7 0 (amE d) (e31 J m [1,1] []))) (fun J=>by kernel_rfl) (by simp only[ay,UJ m a (EM m a) (Ea m a),UK m];rfl)
theorem UL m a b c d:e31 jn m [1,0,1] [] (nD a b c d)=Wu m a b c d:=
 tre (g:=fun J=>jj J 1 2 (succ m) (nD a b c d) (l31 J m [1,0,1,0] [] (succ m))) (fun J=>by kernel_rfl) (by simp only[ay,Ea m];rfl)
theorem aqX m a b:e31 jn m [] [] ⟨[(.dat 75 (.lst a)),(.fn 195 [(.ptr 0 [] 0)])],[(.box 3 (.dat 3 (.int b)))],1⟩=i31 (m+1) a b:=
 tre (g:=fun J=>jj J 0 2 0 (nD a (a.length:Int) 0 b) (e31 J m [1,0,1] [])) (fun J=>by kernel_rfl) (by simp only[ay,UL m];rfl)
def amG:List Nat:=[1,1,1,0,1]
def Ki:List Nat:=[1,1,1,0,1,0]
def aeE:List Nat:=Ki++[0,1]
def amH:List Nat:=aeE++[1]
noncomputable def e30(J:Nat->Nat->Nat->St->Option (List Dt×Int)->Option (List Dt×Int))(m:Nat)(p ms:List Nat)(σ:St):=evAt Tryz.prog env (ct m) J (m+1) 194 42 Tryz.f194 d30 p ms σ
noncomputable def l30(J:Nat->Nat->Nat->St->Option (List Dt×Int)->Option (List Dt×Int))(m:Nat)(p ms:List Nat)(M:Nat)(σ:St):=loopAt Tryz.prog env (ct m) J (m+1) 194 42 Tryz.f194 d30 p ms M σ
noncomputable def nE(a:List Dt)(b c d:Int):St:=⟨tsOf [(0,(.dat 75 (.lst a))),(1,(.fn 195 [(.ptr 0 [] 0)])),(5,(.dat 3 (.int b))),(6,(.dat 3 (.int c)))],[(.box 3 (.dat 3 (.int d)))],1⟩
noncomputable def amI(a:List Dt)(b c:Int):St:=⟨tsOf [(0,(.dat 75 (.lst a))),(5,(.dat 3 (.int b)))],[(.box 3 (.dat 3 (.int c)))],1⟩
noncomputable def amJ(a:List Dt)(b c:Int):St:=⟨tsOf [(0,(.dat 75 (.lst a))),(1,(.fn 195 [(.ptr 0 [] 0)])),(5,(.dat 3 (.int b)))],[(.box 3 (.dat 3 (.int c)))],1⟩
abbrev amK(m f:Nat)(a:List Dt->Int->Int->Int->Option (List Dt×Int)):Prop:=∀b c d e,l30 jn m Ki [] f (nE b c d e)=a b c d e
theorem UM m b a(h:amK m b a) c d e f:e30 jn m amH [b] (nE c d e f)=Wv m a c d e f:=
 tre (g:=fun J=>jj J 1 5 b (nE c d (wrap .i64 (e+1)) f) (l30 J m Ki [] b)) (fun J=>by kernel_rfl) (by simp only[ay,h];rfl)
theorem UN m c a(i:amK m c a) b d e f:e30 jn m aeE [c] (nE b d e f)=Ww m a b d e f:=
 tre (g:=fun J=>(idx b e).bind fun j=>(i32 m (toInt j) f).bind fun h=>cond (!h.1) ((idx b d).bind fun k=>none) (jj J 0 6 0 (nE b d e h.2) (e30 J m amH [c]))) (fun J=>by kernel_rfl) (by simp only[ay,UM m c a i];rfl)
theorem UO m a b c:e30 jn m [1,1,1,1] [] (amI a b c)=Wx m a b c:=
 tre (g:=fun J=>(cutL a b (a.length:Int)).bind fun d=>none) (fun J=>by kernel_rfl) (by rfl)
theorem Eb m:∀a b c d e,l30 jn m Ki [] a (nE b c d e)=EN m a b c d e
 |0,_,_,_,_=>rfl
 |a+1,b,c,d,e=>
  trl (g:=fun J=>cond (d<(b.length:Int)) (jj J 0 7 0 (nE b c d e) (e30 J m aeE [a])) (jj J 0 11 0 (amI b c e) (e30 J m [1,1,1,1] []))) (fun J=>by kernel_rfl) (by simp only[ay,UN m a (EN m a) (Eb m a),UO m];rfl)
theorem UQ m a b c d:e30 jn m amG [] (nE a b c d)=Wy m a b c d:=
 tre (g:=fun J=>jj J 1 5 (succ m) (nE a b c d) (l30 J m Ki [] (succ m))) (fun J=>by kernel_rfl) (by simp only[ay,Eb m];rfl)
theorem UR m b a c:e30 jn m [1,1,1] [] (amJ b a c)=Wz m b a c:=
 tre (g:=fun J=>jj J 0 5 0 (nE b a (wrap .i64 (a+1)) c) (e30 J m amG [])) (fun J=>by kernel_rfl) (by simp only[ay,UQ m];rfl)
theorem aqY m a c:e30 jn m [] [] ⟨[(.dat 75 (.lst a)),(.fn 195 [(.ptr 0 [] 0)])],[(.box 3 (.dat 3 (.int c)))],1⟩=i30 (m+1) a c:=
 tre (g:=fun J=>(i31 m a c).bind fun b=>cond (b.1==(-1)) (some (a,b.2)) (jj J 0 4 0 (amJ a b.1 b.2) (e30 J m [1,1,1] []))) (fun J=>by kernel_rfl) (by simp only[ay,UR m];rfl)
def amL:List Nat:=[1,1,1,0,1]
def Kj:List Nat:=[1,1,1,0,1,0]
def aeF:List Nat:=Kj++[0,1]
def amM:List Nat:=aeF++[1]
noncomputable def e33(J:Nat->Nat->Nat->St->Option (List Dt×Int)->Option (List Dt×Int))(m:Nat)(p ms:List Nat)(σ:St):=evAt Tryz.prog env (ct m) J (m+1) 194 42 Tryz.f194 d33 p ms σ
noncomputable def l33(J:Nat->Nat->Nat->St->Option (List Dt×Int)->Option (List Dt×Int))(m:Nat)(p ms:List Nat)(M:Nat)(σ:St):=loopAt Tryz.prog env (ct m) J (m+1) 194 42 Tryz.f194 d33 p ms M σ
noncomputable def nG(a:List Dt)(b c:Int)(d:List Dt)(e:Int):St:=⟨tsOf [(0,(.dat 75 (.lst a))),(1,(.fn 195 [(.ptr 1 [] 0)])),(5,(.dat 3 (.int b))),(6,(.dat 3 (.int c)))],[(.frz 75 d),(.box 3 (.dat 3 (.int e)))],2⟩
noncomputable def amN(a:List Dt)(b:Int)(c:List Dt)(d:Int):St:=⟨tsOf [(0,(.dat 75 (.lst a))),(5,(.dat 3 (.int b)))],[(.frz 75 c),(.box 3 (.dat 3 (.int d)))],2⟩
noncomputable def amO(a:List Dt)(b:Int)(c:List Dt)(d:Int):St:=⟨tsOf [(0,(.dat 75 (.lst a))),(1,(.fn 195 [(.ptr 1 [] 0)])),(5,(.dat 3 (.int b)))],[(.frz 75 c),(.box 3 (.dat 3 (.int d)))],2⟩
abbrev amP(m g:Nat)(a:List Dt->Int->Int->List Dt->Int->Option (List Dt×Int)):Prop:=∀b c d e f,l33 jn m Kj [] g (nG b c d e f)=a b c d e f
theorem UU m b a(i:amP m b a) c d e f h:e33 jn m amM [b] (nG c d e f h)=WA m a c d e f h:=
 tre (g:=fun J=>jj J 1 5 b (nG c d (wrap .i64 (e+1)) f h) (l33 J m Kj [] b)) (fun J=>by kernel_rfl) (by simp only[ay,i];rfl)
theorem UW m c a(j:amP m c a) b d e f h:e33 jn m aeF [c] (nG b d e f h)=WB m a b d e f h:=
 tre (g:=fun J=>(idx b e).bind fun k=>(i32 m (toInt k) h).bind fun i=>cond (!i.1) ((idx b d).bind fun l=>none) (jj J 0 6 0 (nG b d e f i.2) (e33 J m amM [c]))) (fun J=>by kernel_rfl) (by simp only[ay,UU m c a j];rfl)
theorem UY m a b c d:e33 jn m [1,1,1,1] [] (amN a b c d)=WC m a b c d:=
 tre (g:=fun J=>(cutL a b (a.length:Int)).bind fun e=>none) (fun J=>by kernel_rfl) (by rfl)
theorem Ec m:∀a b c d e f,l33 jn m Kj [] a (nG b c d e f)=EO m a b c d e f
 |0,_,_,_,_,_=>rfl
 |a+1,b,c,d,e,f=>
  trl (g:=fun J=>cond (d<(b.length:Int)) (jj J 0 7 0 (nG b c d e f) (e33 J m aeF [a])) (jj J 0 11 0 (amN b c e f) (e33 J m [1,1,1,1] []))) (fun J=>by kernel_rfl) (by simp only[ay,UW m a (EO m a) (Ec m a),UY m];rfl)
theorem UZ m a b c d e:e33 jn m amL [] (nG a b c d e)=WE m a b c d e:=
 tre (g:=fun J=>jj J 1 5 (succ m) (nG a b c d e) (l33 J m Kj [] (succ m))) (fun J=>by kernel_rfl) (by simp only[ay,Ec m];rfl)
theorem U0 m b a c d:e33 jn m [1,1,1] [] (amO b a c d)=WG m b a c d:=
 tre (g:=fun J=>jj J 0 5 0 (nG b a (wrap .i64 (a+1)) c d) (e33 J m amL [])) (fun J=>by kernel_rfl) (by simp only[ay,UZ m];rfl)
theorem aqZ m a c:e33 jn m [] [] ⟨[(.row 0),(.fn 195 [(.ptr 1 [] 0)])],[(.row 75 a),(.box 3 (.dat 3 (.int c)))],2⟩=i33 (m+1) a c:=
 tre (g:=fun J=>(i31 m a c).bind fun b=>cond (b.1==(-1)) (some (a,b.2)) (jj J 0 4 0 (amO a b.1 a b.2) (e33 J m [1,1,1] []))) (fun J=>by kernel_rfl) (by simp only[ay,U0 m];rfl)
noncomputable def e36(J:Nat->Nat->Nat->St->Option Int->Option Int)(m:Nat)(p ms:List Nat)(σ:St):=evAt Tryz.prog env (ct m) J (m+1) 60 11 Tryz.f60 d36 p ms σ
noncomputable def amQ:St:=⟨tsOf [],[],0⟩
noncomputable def amR(a b:Int):St:=⟨tsOf [(0,(.dat 3 (.int a))),(1,(.dat 3 (.int b)))],[],0⟩
theorem aeG m:e36 jn m [1,1,1] [] amQ=WH m:=
 tre (g:=fun J=>some 0) (fun J=>by kernel_rfl) (by rfl)
theorem aeH m a b:e36 jn m [1,1] [] (amR a b)=WI m a b:=
 tre (g:=fun J=>cond (b<a) (some 1) (jj J 0 5 0 amQ (e36 J m [1,1,1] []))) (fun J=>by kernel_rfl) (by simp only[ay,aeG m];rfl)
theorem aud m a b:e36 jn m [] [] ⟨[(.dat 3 (.int a)),(.dat 3 (.int b))],[],0⟩=zM (m+1) a b:=
 tre (g:=fun J=>cond (a<b) (some (-1)) (jj J 0 3 0 (amR a b) (e36 J m [1,1] []))) (fun J=>by kernel_rfl) (by simp only[ay,aeH m];rfl)
def aeI:List Nat:=[1,0,1,0,0,1]
def amS:List Nat:=aeI++[1]
noncomputable def e37(J:Nat->Nat->Nat->St->Option Int->Option Int)(m:Nat)(p ms:List Nat)(σ:St):=evAt Tryz.prog env (ct m) J (m+1) 61 39 Tryz.f61 d36 p ms σ
noncomputable def l37(J:Nat->Nat->Nat->St->Option Int->Option Int)(m:Nat)(p ms:List Nat)(M:Nat)(σ:St):=loopAt Tryz.prog env (ct m) J (m+1) 61 39 Tryz.f61 d36 p ms M σ
noncomputable def nH(a b:ByteArray)(c:Int):St:=⟨tsOf [(0,(.dat 9 (.str a))),(1,(.dat 9 (.str b))),(5,(.dat 3 (.int c)))],[],0⟩
noncomputable def aeJ(a b:ByteArray):St:=⟨tsOf [(0,(.dat 9 (.str a))),(1,(.dat 9 (.str b)))],[],0⟩
abbrev amT(m e:Nat)(a:ByteArray->ByteArray->Int->Option Int):Prop:=∀b c d,l37 jn m [1,0,1,0] [] e (nH b c d)=a b c d
theorem aeK m b a(f:amT m b a) c d e:e37 jn m amS [b] (nH c d e)=WJ m a c d e:=
 tre (g:=fun J=>jj J 1 2 b (nH c d (wrap .i64 (e+1))) (l37 J m [1,0,1,0] [] b)) (fun J=>by kernel_rfl) (by simp only[ay,f];rfl)
theorem aeL m e a(f:amT m e a) c d b:e37 jn m aeI [e] (nH c d b)=WK m a c d b:=
 tre (g:=fun J=>(idxS c b).bind fun h=>(idxS d b).bind fun i=>cond (h !=i) ((idxS c b).bind fun j=>(idxS d b).bind fun k=>(zM m (wrap .i64 j) (wrap .i64 k)).bind fun l=>some l) (jj J 0 3 0 (nH c d b) (e37 J m amS [e]))) (fun J=>by kernel_rfl) (by simp only[ay,aeK m e a f];rfl)
theorem aeM m a b:e37 jn m [1,1] [] (aeJ a b)=Gv m a b:=
 tre (g:=fun J=>(zM m (a.size:Int) (b.size:Int)).bind fun c=>some c) (fun J=>by kernel_rfl) (by rfl)
theorem Kk m:∀a b c d,l37 jn m [1,0,1,0] [] a (nH b c d)=BZ m a b c d
 |0,_,_,_=>rfl
 |a+1,b,c,d=>
  trl (g:=fun J=>cond (d<(b.size:Int)) (cond (d<(c.size:Int)) (jj J 0 4 0 (nH b c d) (e37 J m aeI [a])) (jj J 0 6 0 (aeJ b c) (e37 J m [1,1] []))) (jj J 0 6 0 (aeJ b c) (e37 J m [1,1] []))) (fun J=>by kernel_rfl) (by simp only[ay,aeL m a (BZ m a) (Kk m a),aeM m];rfl)
theorem aeN m a b c:e37 jn m [1,0,1] [] (nH a b c)=akF m a b c:=
 tre (g:=fun J=>jj J 1 2 (succ m) (nH a b c) (l37 J m [1,0,1,0] [] (succ m))) (fun J=>by kernel_rfl) (by simp only[ay,Kk m];rfl)
theorem aue m a b:e37 jn m [] [] ⟨[(.dat 9 (.str a)),(.dat 9 (.str b))],[],0⟩=zE (m+1) a b:=
 tre (g:=fun J=>jj J 0 2 0 (nH a b 0) (e37 J m [1,0,1] [])) (fun J=>by kernel_rfl) (by simp only[ay,aeN m];rfl)
def Kl:List Nat:=[1,1,0,1,0,1]
def vP:List Nat:=Kl++[1,1]
def aq0:List Nat:=vP++[1,1,0,1]
def aq1:List Nat:=vP++[1,1,0,0,1]
def aeO:List Nat:=aq1++[0]
def aq2:List Nat:=vP++[1,1,1,1,0,1]
def aeP:List Nat:=vP++[1,1,1,1,0,0,1]
def aq3:List Nat:=aeO++[0,1]
def aeQ:List Nat:=aeP++[0]
def auf:List Nat:=aq3++[1]
def akn:List Nat:=aeQ++[0,1]
def aug:List Nat:=akn++[1]
def aq4:List Nat:=akn++[0,0,1,1]
noncomputable def e7(J:Nat->Nat->Nat->St->Option Int->Option Int)(m:Nat)(p ms:List Nat)(σ:St):=evAt Tryz.prog env (ct m) J (m+1) 21 130 Tryz.f21 d36 p ms σ
noncomputable def l7(J:Nat->Nat->Nat->St->Option Int->Option Int)(m:Nat)(p ms:List Nat)(M:Nat)(σ:St):=loopAt Tryz.prog env (ct m) J (m+1) 21 130 Tryz.f21 d36 p ms M σ
noncomputable def BO(a:Int)(b c:Dt):St:=⟨tsOf [(2,(.ptr 0 [] 0)),(3,(.ptr 1 [] 0)),(5,(.dat 3 (.int a)))],[(.box 26 (.dat 26 b)),(.box 26 (.dat 26 c))],0⟩
noncomputable def Km(a b:Dt):St:=⟨tsOf [(2,(.ptr 0 [] 0)),(3,(.ptr 1 [] 0))],[(.box 26 (.dat 26 a)),(.box 26 (.dat 26 b))],0⟩
noncomputable def nI(a:Int)(b c:Dt):St:=⟨tsOf [(2,(.ptr 0 [] 0)),(3,(.ptr 1 [] 0)),(7,(.dat 3 (.int a)))],[(.box 26 (.dat 26 b)),(.box 26 (.dat 26 c))],0⟩
noncomputable def aeR(a b:Int)(c d:Dt):St:=⟨tsOf [(2,(.ptr 0 [] 0)),(3,(.ptr 1 [] 0)),(7,(.dat 3 (.int a))),(8,(.dat 3 (.int b)))],[(.box 26 (.dat 26 c)),(.box 26 (.dat 26 d))],0⟩
noncomputable def amU:St:=⟨tsOf [],[],0⟩
noncomputable def ako(a:Int)(b:Bool)(c d:Dt):St:=⟨tsOf [(2,(.ptr 0 [] 0)),(3,(.ptr 1 [] 0)),(20,(.dat 3 (.int a))),(30,(.dat 4 (.bool b)))],[(.box 26 (.dat 26 c)),(.box 26 (.dat 26 d))],0⟩
noncomputable def akp(a:Int)(b:Bool)(c d:Dt):St:=⟨tsOf [(2,(.ptr 0 [] 0)),(3,(.ptr 1 [] 0)),(20,(.dat 3 (.int a))),(21,(.dat 4 (.bool b)))],[(.box 26 (.dat 26 c)),(.box 26 (.dat 26 d))],0⟩
abbrev auh(m e:Nat)(a:Int->Dt->Dt->Option Int):Prop:=∀b c d,l7 jn m aeO [] e (BO b c d)=a b c d
theorem aeS m b a(f:auh m b a) c d e:e7 jn m auf [b] (BO c d e)=WL m (qC m) a c d e:=
 tre (g:=fun J=>jj J 1 14 b (BO (wrap .i64 (c+1)) d e) (l7 J m aeO [] b)) (fun J=>by kernel_rfl) (by simp only[ay,f];rfl)
theorem aeT m c a(h:auh m c a) b d e:e7 jn m aq3 [c] (BO b d e)=WM m (qC m) a b d e:=
 tre (g:=fun J=>(idx (L d 3) b).bind fun i=>(idx (L e 3) b).bind fun j=>(qC m i j).bind fun f=>cond (f !=0) (some f) (jj J 0 15 0 (BO b d e) (e7 J m auf [c]))) (fun J=>by kernel_rfl) (by simp only[ay,aeS m c a h];rfl)
theorem aeU m a b:e7 jn m aq0 [] (Km a b)=Gw m (qC m) a b:=
 tre (g:=fun J=>(zM m ((L a 3).length:Int) ((L b 3).length:Int)).bind fun c=>some c) (fun J=>by kernel_rfl) (by rfl)
theorem Kn m:∀a d b c,l7 jn m aeO [] a (BO d b c)=Ca m (qC m) a d b c
 |0,_,_,_=>rfl
 |a+1,d,b,c=>
  trl (g:=fun J=>cond (d<((L b 3).length:Int)) (cond (d<((L c 3).length:Int)) (jj J 0 16 0 (BO d b c) (e7 J m aq3 [a])) (jj J 0 19 0 (Km b c) (e7 J m aq0 []))) (jj J 0 19 0 (Km b c) (e7 J m aq0 []))) (fun J=>by kernel_rfl) (by simp only[ay,aeT m a (Ca m (qC m) a) (Kn m a),aeU m];rfl)
theorem aeV m a b c:e7 jn m aq1 [] (BO a b c)=Oq m (qC m) a b c:=
 tre (g:=fun J=>jj J 1 14 (succ m) (BO a b c) (l7 J m aeO [] (succ m))) (fun J=>by kernel_rfl) (by simp only[ay,Kn m];rfl)
abbrev aq5(m e:Nat)(a:Int->Dt->Dt->Option Int):Prop:=∀b c d,l7 jn m aeQ [] e (nI b c d)=a b c d
theorem U1 m b a(f:aq5 m b a) c d e:e7 jn m aug [b] (nI c d e)=L9 m (qC m) a c d e:=
 tre (g:=fun J=>jj J 1 22 b (nI (wrap .i64 (c+1)) d e) (l7 J m aeQ [] b)) (fun J=>by kernel_rfl) (by simp only[ay,f];rfl)
theorem U2 m b a(h:aq5 m b a) d c e f:e7 jn m aq4 [b] (aeR d c e f)=EP m (qC m) a d c e f:=
 tre (g:=fun J=>cond (c !=0) (some c) (jj J 0 23 0 (nI d e f) (e7 J m aug [b]))) (fun J=>by kernel_rfl) (by simp only[ay,U1 m b a h];rfl)
theorem U3 m e a(k:aq5 m e a) b c d:e7 jn m akn [e] (nI b c d)=Ma m (qC m) a b c d:=
 tre (g:=fun J=>(idx (L c 4) b).bind fun l=>(idx (L d 4) b).bind fun n=>(zE m (S l 0) (S n 0)).bind fun j=>cond (j==0) ((idx (L c 4) b).bind fun f=>(idx (L d 4) b).bind fun h=>(qC m (fld f 1) (fld h 1)).bind fun i=>jj J 0 27 0 (aeR b i c d) (e7 J m aq4 [e])) (jj J 0 27 0 (aeR b j c d) (e7 J m aq4 [e]))) (fun J=>by kernel_rfl) (by simp only[ay,U2 m e a k];rfl)
theorem U4 m a b:e7 jn m aq2 [] (Km a b)=wO m (qC m) a b:=
 tre (g:=fun J=>(zM m ((L a 4).length:Int) ((L b 4).length:Int)).bind fun c=>some c) (fun J=>by kernel_rfl) (by rfl)
theorem Ko m:∀a d b c,l7 jn m aeQ [] a (nI d b c)=Cb m (qC m) a d b c
 |0,_,_,_=>rfl
 |a+1,d,b,c=>
  trl (g:=fun J=>cond (d<((L b 4).length:Int)) (cond (d<((L c 4).length:Int)) (jj J 0 24 0 (nI d b c) (e7 J m akn [a])) (jj J 0 29 0 (Km b c) (e7 J m aq2 []))) (jj J 0 29 0 (Km b c) (e7 J m aq2 []))) (fun J=>by kernel_rfl) (by simp only[ay,U3 m a (Cb m (qC m) a) (Ko m a),U4 m];rfl)
theorem aeW m a b c:e7 jn m aeP [] (nI a b c)=Ot m (qC m) a b c:=
 tre (g:=fun J=>jj J 1 22 (succ m) (nI a b c) (l7 J m aeQ [] (succ m))) (fun J=>by kernel_rfl) (by simp only[ay,Ko m];rfl)
theorem U5 m:e7 jn m [1,1,1] [] amU=Mc m (qC m):=
 tre (g:=fun J=>some 0) (fun J=>by kernel_rfl) (by rfl)
theorem aeX m c d a b:e7 jn m vP [] (ako c d a b)=Gx m (qC m) c d a b:=
 tre (g:=fun J=>cond d ((zE m (S a 2) (S b 2)).bind fun e=>some e) (cond (c==6) (jj J 0 14 0 (BO 0 a b) (e7 J m aq1 [])) (cond (c==5) (jj J 0 22 0 (nI 0 a b) (e7 J m aeP [])) (jj J 0 30 0 amU (e7 J m [1,1,1] []))))) (fun J=>by kernel_rfl) (by simp only[ay,aeV m,aeW m,U5 m];rfl)
theorem aeY m a d b c:e7 jn m Kl [] (akp a d b c)=Gy m (qC m) a d b c:=
 tre (g:=fun J=>cond d ((zM m (I b 1) (I c 1)).bind fun e=>some e) (cond (a==4) (jj J 0 11 0 (ako a (a==4) b c) (e7 J m vP [])) (cond (a==7) (jj J 0 11 0 (ako a (a==7) b c) (e7 J m vP [])) (jj J 0 11 0 (ako a (a==8) b c) (e7 J m vP []))))) (fun J=>by kernel_rfl) (by simp only[ay,aeX m];rfl)
theorem aeZ m a b:e7 jn m [1,1] [] (Km a b)=Gz m (qC m) a b:=
 tre (g:=fun J=>cond (I a 0==3) (jj J 0 7 0 (akp (I a 0) (I a 0==3) a b) (e7 J m Kl [])) (cond (I a 0==9) (jj J 0 7 0 (akp (I a 0) (I a 0==9) a b) (e7 J m Kl [])) (jj J 0 7 0 (akp (I a 0) (I a 0==10) a b) (e7 J m Kl [])))) (fun J=>by kernel_rfl) (by simp only[ay,aeY m];rfl)
theorem aui m a b:e7 jn m [] [] ⟨[(.dat 26 a),(.dat 26 b)],[],0⟩=qC (m+1) a b:=
 tre (g:=fun J=>cond (I a 0 !=I b 0) ((zM m (I a 0) (I b 0)).bind fun c=>some c) (jj J 0 3 0 (Km a b) (e7 J m [1,1] []))) (fun J=>by kernel_rfl) (by simp only[ay,aeZ m];rfl)
def aq6:List Nat:=[1,0,1,0,0,1,1]
def auj:List Nat:=aq6++[1]
noncomputable def e6(J:Nat->Nat->Nat->St->Option (List Dt)->Option (List Dt))(m:Nat)(p ms:List Nat)(σ:St):=evAt Tryz.prog env (ct m) J (m+1) 29 36 Tryz.f29 d6 p ms σ
noncomputable def l6(J:Nat->Nat->Nat->St->Option (List Dt)->Option (List Dt))(m:Nat)(p ms:List Nat)(M:Nat)(σ:St):=loopAt Tryz.prog env (ct m) J (m+1) 29 36 Tryz.f29 d6 p ms M σ
noncomputable def BP(a b:Int)(c:List Dt)(d:Dt):St:=⟨tsOf [(0,(.row 1)),(3,(.ptr 2 [] 0)),(7,(.dat 3 (.int a))),(8,(.dat 3 (.int b)))],[.gone,(.row 23 c),(.box 26 (.dat 26 d))],1⟩
noncomputable def auk(a:List Dt)(b:Dt):St:=⟨tsOf [(0,(.row 1)),(3,(.ptr 2 [] 0))],[.gone,(.row 23 a),(.box 26 (.dat 26 b))],1⟩
abbrev aul(m f:Nat)(a:Int->Int->List Dt->Dt->Option (List Dt)):Prop:=∀b c d e,l6 jn m [1,0,1,0] [] f (BP b c d e)=a b c d e
theorem ae0 m b a(h:aul m b a) c d e f:e6 jn m auj [b] (BP c d e f)=WO m a c d e f:=
 tre (g:=fun J=>jj J 1 2 b (BP c (wrap .i64 (d+1)) e f) (l6 J m [1,0,1,0] [] b)) (fun J=>by kernel_rfl) (by simp only[ay,h];rfl)
theorem ae1 m e a(h:aul m e a) f b c d:e6 jn m aq6 [e] (BP f b c d)=WQ m a f b c d:=
 tre (g:=fun J=>(inL c b).bind fun n=>(c[b.toNat]?).bind fun i=>(idx (L i 4) 0).bind fun j=>(idx (L d 4) 0).bind fun k=>(qC m (fld j 1) (fld k 1)).bind fun l=>cond (l==0) ((inL c b).bind fun o=>(c[b.toNat]?).bind fun p=>some (List.set c b.toNat d)) (jj J 0 7 0 (BP f b c d) (e6 J m auj [e]))) (fun J=>by kernel_rfl) (by simp only[ay,ae0 m e a h];rfl)
theorem ae2 m a b:e6 jn m [1,1] [] (auk a b)=WS m a b:=
 tre (g:=fun J=>(app a [b]).bind fun c=>some c) (fun J=>by kernel_rfl) (by rfl)
theorem Kq m:∀a b c d e,l6 jn m [1,0,1,0] [] a (BP b c d e)=wP m a b c d e
 |0,_,_,_,_=>rfl
 |a+1,b,c,d,e=>
  trl (g:=fun J=>cond (c<b) (jj J 0 3 0 (BP b c d e) (e6 J m aq6 [a])) (jj J 0 8 0 (auk d e) (e6 J m [1,1] []))) (fun J=>by kernel_rfl) (by simp only[ay,ae1 m a (wP m a) (Kq m a),ae2 m];rfl)
theorem ae3 m a b c d:e6 jn m [1,0,1] [] (BP a b c d)=akG m a b c d:=
 tre (g:=fun J=>jj J 1 2 (succ m) (BP a b c d) (l6 J m [1,0,1,0] [] (succ m))) (fun J=>by kernel_rfl) (by simp only[ay,Kq m];rfl)
theorem aum m b a:e6 jn m [] [] ⟨[(.row 0),(.dat 26 b)],[(.row 23 a)],1⟩=i6 (m+1) b a:=
 tre (g:=fun J=>jj J 0 2 0 (BP (a.length:Int) 0 a b) (e6 J m [1,0,1] [])) (fun J=>by kernel_rfl) (by simp only[ay,ae3 m];rfl)
def ae4:List Nat:=[1,0,1,0,0,1,1]
def amV:List Nat:=ae4++[1]
noncomputable def e44(J:Nat->Nat->Nat->St->Option Int->Option Int)(m:Nat)(p ms:List Nat)(σ:St):=evAt Tryz.prog env (ct m) J (m+1) 144 20 Tryz.f144 d36 p ms σ
noncomputable def l44(J:Nat->Nat->Nat->St->Option Int->Option Int)(m:Nat)(p ms:List Nat)(M:Nat)(σ:St):=loopAt Tryz.prog env (ct m) J (m+1) 144 20 Tryz.f144 d36 p ms M σ
noncomputable def nJ(a:List Dt)(b:ByteArray)(c d:Int):St:=⟨tsOf [(0,(.dat 24 (.lst a))),(1,(.dat 9 (.str b))),(7,(.dat 3 (.int c))),(8,(.dat 3 (.int d)))],[],0⟩
noncomputable def amW:St:=⟨tsOf [],[],0⟩
abbrev amX(m f:Nat)(a:List Dt->ByteArray->Int->Int->Option Int):Prop:=∀b c d e,l44 jn m [1,0,1,0] [] f (nJ b c d e)=a b c d e
theorem ae5 m b a(h:amX m b a) c d e f:e44 jn m amV [b] (nJ c d e f)=WT m a c d e f:=
 tre (g:=fun J=>jj J 1 2 b (nJ c d e (wrap .i64 (f+1))) (l44 J m [1,0,1,0] [] b)) (fun J=>by kernel_rfl) (by simp only[ay,h];rfl)
theorem ae6 m c a(h:amX m c a) d e f b:e44 jn m ae4 [c] (nJ d e f b)=WU m a d e f b:=
 tre (g:=fun J=>(idx d b).bind fun i=>cond ((S i 0).toList==e.toList) (some b) (jj J 0 6 0 (nJ d e f b) (e44 J m amV [c]))) (fun J=>by kernel_rfl) (by simp only[ay,ae5 m c a h];rfl)
theorem ae7 m:e44 jn m [1,1] [] amW=WW m:=
 tre (g:=fun J=>some (-1)) (fun J=>by kernel_rfl) (by rfl)
theorem Kr m:∀a d e b c,l44 jn m [1,0,1,0] [] a (nJ d e b c)=Cc m a d e b c
 |0,_,_,_,_=>rfl
 |a+1,d,e,b,c=>
  trl (g:=fun J=>cond (c<b) (jj J 0 3 0 (nJ d e b c) (e44 J m ae4 [a])) (jj J 0 7 0 amW (e44 J m [1,1] []))) (fun J=>by kernel_rfl) (by simp only[ay,ae6 m a (Cc m a) (Kr m a),ae7 m];rfl)
theorem ae8 m a b c d:e44 jn m [1,0,1] [] (nJ a b c d)=akH m a b c d:=
 tre (g:=fun J=>jj J 1 2 (succ m) (nJ a b c d) (l44 J m [1,0,1,0] [] (succ m))) (fun J=>by kernel_rfl) (by simp only[ay,Kr m];rfl)
theorem aun m a b:e44 jn m [] [] ⟨[(.dat 24 (.lst a)),(.dat 9 (.str b))],[],0⟩=zH (m+1) a b:=
 tre (g:=fun J=>jj J 0 2 0 (nJ a b (a.length:Int) 0) (e44 J m [1,0,1] [])) (fun J=>by kernel_rfl) (by simp only[ay,ae8 m];rfl)
def amY:List Nat:=[1,1,1,0,1]
def Ku:List Nat:=[1,1,1,0,1,0]
def Kv:List Nat:=Ku++[0,1,1]
def amZ:List Nat:=Kv++[1]
def am0:List Nat:=Kv++[0,0,1,1]
def ae9:List Nat:=Kv++[0,0,1,0,1]
noncomputable def e45(J:Nat->Nat->Nat->St->Option (Int×Bool)->Option (Int×Bool))(m:Nat)(p ms:List Nat)(σ:St):=evAt Tryz.prog env (ct m) J (m+1) 145 49 Tryz.f145 d45 p ms σ
noncomputable def l45(J:Nat->Nat->Nat->St->Option (Int×Bool)->Option (Int×Bool))(m:Nat)(p ms:List Nat)(M:Nat)(σ:St):=loopAt Tryz.prog env (ct m) J (m+1) 145 49 Tryz.f145 d45 p ms M σ
noncomputable def nK(a:ByteArray)(b c d:Int):St:=⟨tsOf [(0,(.dat 9 (.str a))),(4,(.dat 3 (.int b))),(25,(.dat 3 (.int c))),(26,(.dat 3 (.int d)))],[],0⟩
noncomputable def am1(a:ByteArray)(b c d e:Int):St:=⟨tsOf [(0,(.dat 9 (.str a))),(4,(.dat 3 (.int b))),(5,(.dat 3 (.int c))),(25,(.dat 3 (.int d))),(26,(.dat 3 (.int e)))],[],0⟩
noncomputable def afa(a:ByteArray)(b c d e:Int)(f:Bool):St:=⟨tsOf [(0,(.dat 9 (.str a))),(4,(.dat 3 (.int b))),(5,(.dat 3 (.int c))),(25,(.dat 3 (.int d))),(26,(.dat 3 (.int e))),(38,(.dat 4 (.bool f)))],[],0⟩
noncomputable def am2(a:Int):St:=⟨tsOf [(4,(.dat 3 (.int a)))],[],0⟩
noncomputable def am3(a:ByteArray):St:=⟨tsOf [(0,(.dat 9 (.str a)))],[],0⟩
noncomputable def Kw(a:ByteArray)(b:Bool):St:=⟨tsOf [(0,(.dat 9 (.str a))),(23,(.dat 4 (.bool b)))],[],0⟩
abbrev QZ(m f:Nat)(a:ByteArray->Int->Int->Int->Option (Int×Bool)):Prop:=∀b c d e,l45 jn m Ku [] f (nK b c d e)=a b c d e
theorem afb m b a(h:QZ m b a) c d e f:e45 jn m amZ [b] (nK c d e f)=akI m a c d e f:=
 tre (g:=fun J=>jj J 1 5 b (nK c d e (wrap .i64 (f+1))) (l45 J m Ku [] b)) (fun J=>by kernel_rfl) (by simp only[ay,h];rfl)
theorem afc m b a(i:QZ m b a) c d e f h:e45 jn m am0 [b] (am1 c d e f h)=akJ m a c d e f h:=
 tre (g:=fun J=>(idxS c e).bind fun j=>jj J 0 10 0 (nK c (wrap .i64 (wrap .i64 (10*d)+wrap .i64 (wrap IntKind.u8 (j-48)))) f h) (e45 J m amZ [b])) (fun J=>by kernel_rfl) (by simp only[ay,afb m b a i];rfl)
theorem afd m b a(j:QZ m b a) c d e f h i:e45 jn m ae9 [b] (afa c d e f h i)=WX m a c d e f h i:=
 tre (g:=fun J=>cond i (some (0,false)) (jj J 0 9 0 (am1 c d e f h) (e45 J m am0 [b]))) (fun J=>by kernel_rfl) (by simp only[ay,afc m b a j];rfl)
theorem afe m d a(h:QZ m d a) c e f b:e45 jn m Kv [d] (nK c e f b)=akK m a c e f b:=
 tre (g:=fun J=>(idxS c b).bind fun i=>cond (i<48) (jj J 0 8 0 (afa c e b f b true) (e45 J m ae9 [d])) ((idxS c b).bind fun j=>jj J 0 8 0 (afa c e b f b (decide (57<j))) (e45 J m ae9 [d]))) (fun J=>by kernel_rfl) (by simp only[ay,afd m d a h];rfl)
theorem aff m a:e45 jn m [1,1,1,1] [] (am2 a)=akL m a:=
 tre (g:=fun J=>some (a,true)) (fun J=>by kernel_rfl) (by rfl)
theorem Ky m:∀a e b c d,l45 jn m Ku [] a (nK e b c d)=Ou m a e b c d
 |0,_,_,_,_=>rfl
 |a+1,e,b,c,d=>
  trl (g:=fun J=>cond (d<c) (jj J 0 6 0 (nK e b c d) (e45 J m Kv [a])) (jj J 0 11 0 (am2 b) (e45 J m [1,1,1,1] []))) (fun J=>by kernel_rfl) (by simp only[ay,afe m a (Ou m a) (Ky m a),aff m];rfl)
theorem afg m a b c d:e45 jn m amY [] (nK a b c d)=akM m a b c d:=
 tre (g:=fun J=>jj J 1 5 (succ m) (nK a b c d) (l45 J m Ku [] (succ m))) (fun J=>by kernel_rfl) (by simp only[ay,Ky m];rfl)
theorem afh m a:e45 jn m [1,1] [] (am3 a)=akN m a:=
 tre (g:=fun J=>jj J 0 5 0 (nK a 0 (a.size:Int) 0) (e45 J m amY [])) (fun J=>by kernel_rfl) (by simp only[ay,afg m];rfl)
theorem afi m a b:e45 jn m [1,0,1] [] (Kw a b)=GA m a b:=
 tre (g:=fun J=>cond b (some (0,false)) (jj J 0 3 0 (am3 a) (e45 J m [1,1] []))) (fun J=>by kernel_rfl) (by simp only[ay,afh m];rfl)
theorem auo m a:e45 jn m [] [] ⟨[(.dat 9 (.str a))],[],0⟩=zA (m+1) a:=
 tre (g:=fun J=>cond ((a.size:Int)<1) (jj J 0 2 0 (Kw a true) (e45 J m [1,0,1] [])) (bif 4<(a.size:Int)then jj J 0 2 0 (Kw a true) (e45 J m [1,0,1] [])else(idxS a 0).bind fun b=>cond (b==48) (jj J 0 2 0 (Kw a (decide (1<(a.size:Int)))) (e45 J m [1,0,1] [])) (jj J 0 2 0 (Kw a false) (e45 J m [1,0,1] [])))) (fun J=>by kernel_rfl) (by simp only[ay,afi m];rfl)
def afj:List Nat:=[1,1,0,1,0,1,1]
def Kz:List Nat:=afj++[0]
def KA:List Nat:=[1,1,1,0,1,0,1,1]
def rU:List Nat:=KA++[0]
def afk:List Nat:=Kz++[0,1,1]
def am4:List Nat:=afk++[1]
def KC:List Nat:=rU++[0,1,1]
def Q0:List Nat:=KC++[1]
noncomputable def e46(J:Nat->Nat->Nat->St->Option Dt->Option Dt)(m:Nat)(p ms:List Nat)(σ:St):=evAt Tryz.prog env (ct m) J (m+1) 146 68 Tryz.f146 d17 p ms σ
noncomputable def l46(J:Nat->Nat->Nat->St->Option Dt->Option Dt)(m:Nat)(p ms:List Nat)(M:Nat)(σ:St):=loopAt Tryz.prog env (ct m) J (m+1) 146 68 Tryz.f146 d17 p ms M σ
noncomputable def nL(a:List Dt)(b c:Int)(d e:Dt)(f g:Int)(h:ByteArray)(i:List Dt):St:=⟨tsOf [(1,(.ptr 0 [] 0)),(2,(.ptr 1 [] 0)),(3,(.ptr 2 [] 0)),(25,(.dat 23 (.lst a))),(26,(.dat 3 (.int b))),(27,(.dat 3 (.int c)))],[(.box 26 (.dat 26 d)),(.box 26 (.dat 26 e)),(.box 26 (.agg 26 [(.dat 3 (.int f)),(.dat 3 (.int g)),(.dat 9 (.str h)),(.row 3),(.nils 24)])),(.row 23 i)],0⟩
noncomputable def nM(a:List Dt)(b c:Int)(d:Dt)(e f:Int)(g:ByteArray)(h i:List Dt):St:=⟨tsOf [(2,(.ptr 0 [] 0)),(3,(.ptr 1 [] 0)),(49,(.dat 24 (.lst a))),(50,(.dat 3 (.int b))),(51,(.dat 3 (.int c)))],[(.box 26 (.dat 26 d)),(.box 26 (.agg 26 [(.dat 3 (.int e)),(.dat 3 (.int f)),(.dat 9 (.str g)),(.row 2),(.row 3)])),(.row 23 h),(.row 24 i)],0⟩
noncomputable def am5(a:Dt)(b c:Int)(d:ByteArray)(e f:List Dt):St:=⟨tsOf [(2,(.ptr 0 [] 0)),(3,(.ptr 1 [] 0))],[(.box 26 (.dat 26 a)),(.box 26 (.agg 26 [(.dat 3 (.int b)),(.dat 3 (.int c)),(.dat 9 (.str d)),(.row 2),(.row 3)])),(.row 23 e),(.row 24 f)],0⟩
noncomputable def afl(a:Dt)(b c:Int)(d:ByteArray)(e:List Dt):St:=⟨tsOf [(2,(.ptr 0 [] 0)),(3,(.ptr 1 [] 0))],[(.box 26 (.dat 26 a)),(.box 26 (.agg 26 [(.dat 3 (.int b)),(.dat 3 (.int c)),(.dat 9 (.str d)),(.row 2),(.nils 24)])),(.row 23 e)],0⟩
noncomputable def am6(a b:Dt)(c d:Int)(e:ByteArray)(f:List Dt):St:=⟨tsOf [(1,(.ptr 0 [] 0)),(2,(.ptr 1 [] 0)),(3,(.ptr 2 [] 0))],[(.box 26 (.dat 26 a)),(.box 26 (.dat 26 b)),(.box 26 (.agg 26 [(.dat 3 (.int c)),(.dat 3 (.int d)),(.dat 9 (.str e)),(.row 3),(.nils 24)])),(.row 23 f)],0⟩
noncomputable def jg(a:List Dt)(b c:Int)(d:Dt)(e f:Int)(g:ByteArray)(h i:List Dt):St:=⟨tsOf [(2,(.ptr 0 [] 0)),(3,(.ptr 1 [] 0)),(49,(.dat 24 (.lst a))),(50,(.dat 3 (.int b))),(51,(.dat 3 (.int c)))],[(.box 26 (.dat 26 d)),(.box 26 (.agg 26 [(.dat 3 (.int e)),(.dat 3 (.int f)),(.dat 9 (.str g)),(.dat 23 (.lst h)),(.row 2)])),(.row 24 i)],0⟩
noncomputable def afm(a:Dt)(b c:Int)(d:ByteArray)(e f:List Dt):St:=⟨tsOf [(2,(.ptr 0 [] 0)),(3,(.ptr 1 [] 0))],[(.box 26 (.dat 26 a)),(.box 26 (.agg 26 [(.dat 3 (.int b)),(.dat 3 (.int c)),(.dat 9 (.str d)),(.dat 23 (.lst e)),(.row 2)])),(.row 24 f)],0⟩
noncomputable def afn(a b:Dt):St:=⟨tsOf [(2,(.ptr 0 [] 0)),(3,(.ptr 1 [] 0))],[(.box 26 (.dat 26 a)),(.box 26 (.dat 26 b))],0⟩
noncomputable def afo(a b c:Dt):St:=⟨tsOf [(1,(.ptr 0 [] 0)),(2,(.ptr 1 [] 0)),(3,(.ptr 2 [] 0))],[(.box 26 (.dat 26 a)),(.box 26 (.dat 26 b)),(.box 26 (.dat 26 c))],0⟩
abbrev am7(m k:Nat)(a:List Dt->Int->Int->Dt->Dt->Int->Int->ByteArray->List Dt->Option Dt):Prop:=∀b c d e f g h i j,l46 jn m Kz [] k (nL b c d e f g h i j)=a b c d e f g h i j
theorem afp m b a(n:am7 m b a) c d e f h i j k l:e46 jn m am4 [b] (nL c d e f h i j k l)=Ov m (qG m) a c d e f h i j k l:=
 tre (g:=fun J=>jj J 1 5 b (nL c d (wrap .i64 (e+1)) f h i j k l) (l46 J m Kz [] b)) (fun J=>by kernel_rfl) (by simp only[ay,n];rfl)
theorem afq m d a(n:am7 m d a) e f b h i j k l c:e46 jn m afk [d] (nL e f b h i j k l c)=Ow m (qG m) a e f b h i j k l c:=
 tre (g:=fun J=>(idx e b).bind fun o=>(qG m o).bind fun p=>(inL c b).bind fun q=>(c[b.toNat]?).bind fun r=>jj J 0 8 0 (nL e f b h i j k l (List.set c b.toNat p)) (e46 J m am4 [d])) (fun J=>by kernel_rfl) (by simp only[ay,afp m d a n];rfl)
abbrev am8(m k:Nat)(a:List Dt->Int->Int->Dt->Int->Int->ByteArray->List Dt->List Dt->Option Dt):Prop:=∀b c d e f g h i j,l46 jn m rU [] k (nM b c d e f g h i j)=a b c d e f g h i j
theorem afr m b a(n:am8 m b a) c d e f h i j k l:e46 jn m Q0 [b] (nM c d e f h i j k l)=Ox m (qG m) a c d e f h i j k l:=
 tre (g:=fun J=>jj J 1 12 b (nM c d (wrap .i64 (e+1)) f h i j k l) (l46 J m rU [] b)) (fun J=>by kernel_rfl) (by simp only[ay,n];rfl)
theorem afs m d a(o:am8 m d a) e f b h i j k l c:e46 jn m KC [d] (nM e f b h i j k l c)=Oy m (qG m) a e f b h i j k l c:=
 tre (g:=fun J=>(idx e b).bind fun n=>(qG m (fld n 1)).bind fun p=>(inL c b).bind fun q=>(c[b.toNat]?).bind fun r=>jj J 0 15 0 (nM e f b h i j k l (List.set c b.toNat (agg [str (S n 0),p]))) (e46 J m Q0 [d])) (fun J=>by kernel_rfl) (by simp only[ay,afr m d a o];rfl)
theorem aft m f a b c d e:e46 jn m [1,1,1,1] [] (am5 f a b c d e)=Oz m (qG m) f a b c d e:=
 tre (g:=fun J=>some (agg [int a,int b,str c,lst d,lst e])) (fun J=>by kernel_rfl) (by rfl)
theorem KD m:∀a k b c d e f h i j,l46 jn m rU [] a (nM k b c d e f h i j)=uQ m (qG m) a k b c d e f h i j
 |0,_,_,_,_,_,_,_,_,_=>rfl
 |a+1,k,b,c,d,e,f,h,i,j=>
  trl (g:=fun J=>cond (c<b) (jj J 0 13 0 (nM k b c d e f h i j) (e46 J m KC [a])) (jj J 0 16 0 (am5 d e f h i j) (e46 J m [1,1,1,1] []))) (fun J=>by kernel_rfl) (by simp only[ay,afs m a (uQ m (qG m) a) (KD m a),aft m];rfl)
theorem afu m a b c d e f h i j:e46 jn m KA [] (nM a b c d e f h i j)=akO m (qG m) a b c d e f h i j:=
 tre (g:=fun J=>jj J 1 12 (succ m) (nM a b c d e f h i j) (l46 J m rU [] (succ m))) (fun J=>by kernel_rfl) (by simp only[ay,KD m];rfl)
theorem U6 m e a b c d:e46 jn m [1,1,1,1] [] (afl e a b c d)=WY m (qG m) e a b c d:=
 tre (g:=fun J=>some (agg [int a,int b,str c,lst d,lst []])) (fun J=>by kernel_rfl) (by rfl)
theorem afv m a b c d e f:e46 jn m [1,1,1] [] (am6 a b c d e f)=wQ m (qG m) a b c d e f:=
 tre (g:=fun J=>bif 0<((L a 4).length:Int)then(mkL ((L a 4).length:Int) ((L a 4).length:Int) lW).bind fun h=>jj J 0 12 0 (nM (L a 4) ((L a 4).length:Int) 0 b c d e f h) (e46 J m KA [])else jj J 0 16 0 (afl b c d e f) (e46 J m [1,1,1,1] [])) (fun J=>by kernel_rfl) (by simp only[ay,afu m,U6 m];rfl)
theorem KE m:∀a k b c d e f h i j,l46 jn m Kz [] a (nL k b c d e f h i j)=mH m (qG m) a k b c d e f h i j
 |0,_,_,_,_,_,_,_,_,_=>rfl
 |a+1,k,b,c,d,e,f,h,i,j=>
  trl (g:=fun J=>cond (c<b) (jj J 0 6 0 (nL k b c d e f h i j) (e46 J m afk [a])) (jj J 0 9 0 (am6 d e f h i j) (e46 J m [1,1,1] []))) (fun J=>by kernel_rfl) (by simp only[ay,afq m a (mH m (qG m) a) (KE m a),afv m];rfl)
theorem afw m a b c d e f h i j:e46 jn m afj [] (nL a b c d e f h i j)=akP m (qG m) a b c d e f h i j:=
 tre (g:=fun J=>jj J 1 5 (succ m) (nL a b c d e f h i j) (l46 J m Kz [] (succ m))) (fun J=>by kernel_rfl) (by simp only[ay,KE m];rfl)
abbrev afx(m b:Nat)(a:List Dt->Int->Int->Dt->Int->Int->ByteArray->List Dt->List Dt->Option Dt):Prop:=∀c d e f g h i j k,l46 jn m rU [] b (jg c d e f g h i j k)=a c d e f g h i j k
theorem U7 m b a(c:afx m b a) d e f h i j k l n:e46 jn m Q0 [b] (jg d e f h i j k l n)=Md m (qG m) a d e f h i j k l n:=
 tre (g:=fun J=>jj J 1 12 b (jg d e (wrap .i64 (f+1)) h i j k l n) (l46 J m rU [] b)) (fun J=>by kernel_rfl) (by simp only[ay,c];rfl)
theorem U8 m b a(h:afx m b a) f i c j k l n o d:e46 jn m KC [b] (jg f i c j k l n o d)=Me m (qG m) a f i c j k l n o d:=
 tre (g:=fun J=>(idx f c).bind fun e=>(qG m (fld e 1)).bind fun p=>(inL d c).bind fun q=>(d[c.toNat]?).bind fun r=>jj J 0 15 0 (jg f i c j k l n o (List.set d c.toNat (agg [str (S e 0),p]))) (e46 J m Q0 [b])) (fun J=>by kernel_rfl) (by simp only[ay,U7 m b a h];rfl)
theorem U9 m f a b c d e:e46 jn m [1,1,1,1] [] (afm f a b c d e)=Mf m (qG m) f a b c d e:=
 tre (g:=fun J=>some (agg [int a,int b,str c,lst d,lst e])) (fun J=>by kernel_rfl) (by rfl)
theorem Ed m:∀a k b c d e f h i j,l46 jn m rU [] a (jg k b c d e f h i j)=rZ m (qG m) a k b c d e f h i j
 |0,_,_,_,_,_,_,_,_,_=>rfl
 |a+1,k,b,c,d,e,f,h,i,j=>
  trl (g:=fun J=>cond (c<b) (jj J 0 13 0 (jg k b c d e f h i j) (e46 J m KC [a])) (jj J 0 16 0 (afm d e f h i j) (e46 J m [1,1,1,1] []))) (fun J=>by kernel_rfl) (by simp only[ay,U8 m a (rZ m (qG m) a) (Ed m a),U9 m];rfl)
theorem Va m a b c d e f h i j:e46 jn m KA [] (jg a b c d e f h i j)=WZ m (qG m) a b c d e f h i j:=
 tre (g:=fun J=>jj J 1 12 (succ m) (jg a b c d e f h i j) (l46 J m rU [] (succ m))) (fun J=>by kernel_rfl) (by simp only[ay,Ed m];rfl)
theorem Vb m b a:e46 jn m [1,1,1,1] [] (afn b a)=W9 m (qG m) b a:=
 tre (g:=fun J=>some a) (fun J=>by kernel_rfl) (by rfl)
theorem Vd m a c b:e46 jn m [1,1,1] [] (afo a c b)=Xa m (qG m) a c b:=
 tre (g:=fun J=>bif 0<((L a 4).length:Int)then(mkL ((L a 4).length:Int) ((L a 4).length:Int) lW).bind fun d=>jj J 0 12 0 (jg (L a 4) ((L a 4).length:Int) 0 c (I b 0) (I b 1) (S b 2) (L b 3) d) (e46 J m KA [])else jj J 0 16 0 (afn c b) (e46 J m [1,1,1,1] [])) (fun J=>by kernel_rfl) (by simp only[ay,Va m,Vb m];rfl)
theorem aup m a:e46 jn m [] [] ⟨[(.dat 26 a)],[],0⟩=qG (m+1) a:=
 tre (g:=fun J=>bif 0<((L a 3).length:Int)then(mkL ((L a 3).length:Int) ((L a 3).length:Int) bg).bind fun b=>jj J 0 5 0 (nL (L a 3) ((L a 3).length:Int) 0 a bg (I a 0) (I a 1) (S a 2) b) (e46 J m afj [])else jj J 0 9 0 (afo a bg (agg [int (I a 0),int (I a 1),str (S a 2),lst [],lst []])) (e46 J m [1,1,1] [])) (fun J=>by kernel_rfl) (by simp only[ay,afw m,Vd m];rfl)
def KF:List Nat:=[1,0,1,0,0,1,1]
def am9:List Nat:=KF++[1]
def Ee:List Nat:=KF++[0,0,1,1,1]
def afy:List Nat:=KF++[0,0,1,1,0,1,0,1,1,1,0,1,1]
noncomputable def e20(J:Nat->Nat->Nat->St->Option Dt->Option Dt)(m:Nat)(p ms:List Nat)(σ:St):=evAt Tryz.prog env (ct m) J (m+1) 109 59 Tryz.f109 d17 p ms σ
noncomputable def l20(J:Nat->Nat->Nat->St->Option Dt->Option Dt)(m:Nat)(p ms:List Nat)(M:Nat)(σ:St):=loopAt Tryz.prog env (ct m) J (m+1) 109 59 Tryz.f109 d17 p ms M σ
noncomputable def nN(a:List Dt)(b c:Int)(d e:Dt):St:=⟨tsOf [(2,(.ptr 0 [] 0)),(4,(.ptr 1 [] 0)),(10,(.dat 22 (.lst a))),(11,(.dat 3 (.int b))),(12,(.dat 3 (.int c)))],[(.box 26 (.dat 26 d)),(.box 26 (.dat 26 e))],0⟩
noncomputable def Ef(a:Int)(b:List Dt)(c d:Int)(e f:Dt):St:=⟨tsOf [(2,(.ptr 0 [] 0)),(4,(.ptr 1 [] 0)),(7,(.dat 3 (.int a))),(10,(.dat 22 (.lst b))),(11,(.dat 3 (.int c))),(12,(.dat 3 (.int d)))],[(.box 26 (.dat 26 e)),(.box 26 (.dat 26 f))],0⟩
noncomputable def afz(a b:Int)(c:List Dt)(d e:Int)(f:Bool)(g h:Dt):St:=⟨tsOf [(2,(.ptr 0 [] 0)),(4,(.ptr 1 [] 0)),(7,(.dat 3 (.int a))),(8,(.dat 3 (.int b))),(10,(.dat 22 (.lst c))),(11,(.dat 3 (.int d))),(12,(.dat 3 (.int e))),(46,(.dat 4 (.bool f)))],[(.box 26 (.dat 26 g)),(.box 26 (.dat 26 h))],0⟩
noncomputable def ana(a b:Dt):St:=⟨tsOf [(2,(.ptr 0 [] 0)),(4,(.ptr 1 [] 0))],[(.box 26 (.dat 26 a)),(.box 26 (.dat 26 b))],0⟩
abbrev Q5(m g:Nat)(a:List Dt->Int->Int->Dt->Dt->Option Dt):Prop:=∀b c d e f,l20 jn m [1,0,1,0] [] g (nN b c d e f)=a b c d e f
theorem afA m b a(i:Q5 m b a) c d e f h:e20 jn m am9 [b] (nN c d e f h)=akQ m a c d e f h:=
 tre (g:=fun J=>jj J 1 2 b (nN c d (wrap .i64 (e+1)) f h) (l20 J m [1,0,1,0] [] b)) (fun J=>by kernel_rfl) (by simp only[ay,i];rfl)
theorem KG m b a(j:Q5 m b a) c d e f h i:e20 jn m Ee [b] (Ef c d e f h i)=Ce m a c d e f h i:=
 tre (g:=fun J=>cond (c<0) (some bg) (jj J 0 17 0 (nN d e f h i) (e20 J m am9 [b]))) (fun J=>by kernel_rfl) (by simp only[ay,afA m b a j];rfl)
theorem afB m b a(l:Q5 m b a) j c d e f k h i:e20 jn m afy [b] (afz j c d e f k h i)=Xb m a j c d e f k h i:=
 tre (g:=fun J=>cond k ((idx (L h 3) c).bind fun n=>jj J 0 15 0 (Ef c d e f n i) (e20 J m Ee [b])) (jj J 0 15 0 (Ef j d e f h i) (e20 J m Ee [b]))) (fun J=>by kernel_rfl) (by simp only[ay,KG m b a l];rfl)
theorem afC m c a(k:Q5 m c a) d f e b h:e20 jn m KF [c] (nN d f e b h)=OA m a d f e b h:=
 tre (g:=fun J=>(idx d e).bind fun l=>cond (I b 0==5) ((zH m (L b 4) (toStr l)).bind fun i=>cond (0<=i) ((idx (L b 4) i).bind fun n=>jj J 0 15 0 (Ef i d f e (fld n 1) h) (e20 J m Ee [c])) (jj J 0 15 0 (Ef i d f e b h) (e20 J m Ee [c]))) (cond (I b 0==6) ((zA m (toStr l)).bind fun j=>cond j.2 (jj J 0 13 0 (afz (-1) j.1 d f e (decide (j.1<((L b 3).length:Int))) b h) (e20 J m afy [c])) (jj J 0 13 0 (afz (-1) j.1 d f e false b h) (e20 J m afy [c]))) (jj J 0 15 0 (Ef (-1) d f e b h) (e20 J m Ee [c])))) (fun J=>by kernel_rfl) (by simp only[ay,KG m c a k,afB m c a k];rfl)
theorem afD m a b:e20 jn m [1,1] [] (ana a b)=akR m a b:=
 tre (g:=fun J=>(qG m a).bind fun c=>some c) (fun J=>by kernel_rfl) (by rfl)
theorem KH m:∀a f b c d e,l20 jn m [1,0,1,0] [] a (nN f b c d e)=pQ m a f b c d e
 |0,_,_,_,_,_=>rfl
 |a+1,f,b,c,d,e=>
  trl (g:=fun J=>cond (c<b) (jj J 0 3 0 (nN f b c d e) (e20 J m KF [a])) (jj J 0 18 0 (ana d e) (e20 J m [1,1] []))) (fun J=>by kernel_rfl) (by simp only[ay,afC m a (pQ m a) (KH m a),afD m];rfl)
theorem afE m a b c d e:e20 jn m [1,0,1] [] (nN a b c d e)=akS m a b c d e:=
 tre (g:=fun J=>jj J 1 2 (succ m) (nN a b c d e) (l20 J m [1,0,1,0] [] (succ m))) (fun J=>by kernel_rfl) (by simp only[ay,KH m];rfl)
theorem auq m b a:e20 jn m [] [] ⟨[(.dat 26 b),(.dat 22 (.lst a))],[],0⟩=zJ (m+1) b a:=
 tre (g:=fun J=>jj J 0 2 0 (nN a (a.length:Int) 0 b bg) (e20 J m [1,0,1] [])) (fun J=>by kernel_rfl) (by simp only[ay,afE m];rfl)
def afF:List Nat:=[1,1,0,1,0,1,1]
def KI:List Nat:=afF++[0]
def afG:List Nat:=[1,1,1,0,1,0,1,1]
def KJ:List Nat:=afG++[0]
def afH:List Nat:=KI++[0,1,1]
def anb:List Nat:=afH++[1]
def afI:List Nat:=KJ++[0,1,1]
def anc:List Nat:=afI++[1]
noncomputable def e52(J:Nat->Nat->Nat->St->Option (Int×Int×ByteArray×List Dt×List Dt)->Option (Int×Int×ByteArray×List Dt×List Dt))(m:Nat)(p ms:List Nat)(σ:St):=evAt Tryz.prog env (ct m) J (m+1) 156 68 Tryz.f156 d52 p ms σ
noncomputable def l52(J:Nat->Nat->Nat->St->Option (Int×Int×ByteArray×List Dt×List Dt)->Option (Int×Int×ByteArray×List Dt×List Dt))(m:Nat)(p ms:List Nat)(M:Nat)(σ:St):=loopAt Tryz.prog env (ct m) J (m+1) 156 68 Tryz.f156 d52 p ms M σ
noncomputable def nO(a:List Dt)(b c:Int)(d e:Dt)(f g:Int)(h:ByteArray)(i j:List Dt):St:=⟨tsOf [(1,(.ptr 0 [] 0)),(2,(.ptr 1 [] 0)),(3,(.ptr 2 [] 0)),(25,(.dat 23 (.lst a))),(26,(.dat 3 (.int b))),(27,(.dat 3 (.int c)))],[(.box 26 (.dat 26 d)),(.box 26 (.dat 26 e)),(.box 26 (.agg 26 [(.dat 3 (.int f)),(.dat 3 (.int g)),(.dat 9 (.str h)),(.row 3),(.row 4)])),(.row 23 i),(.row 24 j)],0⟩
noncomputable def nP(a:List Dt)(b c:Int)(d:Dt)(e f:Int)(g:ByteArray)(h i:List Dt):St:=⟨tsOf [(2,(.ptr 0 [] 0)),(3,(.ptr 1 [] 0)),(49,(.dat 24 (.lst a))),(50,(.dat 3 (.int b))),(51,(.dat 3 (.int c)))],[(.box 26 (.dat 26 d)),(.box 26 (.agg 26 [(.dat 3 (.int e)),(.dat 3 (.int f)),(.dat 9 (.str g)),(.row 2),(.row 3)])),(.row 23 h),(.row 24 i)],0⟩
noncomputable def afJ(a:Dt)(b c:Int)(d:ByteArray)(e f:List Dt):St:=⟨tsOf [(2,(.ptr 0 [] 0)),(3,(.ptr 1 [] 0))],[(.box 26 (.dat 26 a)),(.box 26 (.agg 26 [(.dat 3 (.int b)),(.dat 3 (.int c)),(.dat 9 (.str d)),(.row 2),(.row 3)])),(.row 23 e),(.row 24 f)],0⟩
noncomputable def afK(a b:Dt)(c d:Int)(e:ByteArray)(f g:List Dt):St:=⟨tsOf [(1,(.ptr 0 [] 0)),(2,(.ptr 1 [] 0)),(3,(.ptr 2 [] 0))],[(.box 26 (.dat 26 a)),(.box 26 (.dat 26 b)),(.box 26 (.agg 26 [(.dat 3 (.int c)),(.dat 3 (.int d)),(.dat 9 (.str e)),(.row 3),(.row 4)])),(.row 23 f),(.row 24 g)],0⟩
abbrev ane(m l:Nat)(a:List Dt->Int->Int->Dt->Dt->Int->Int->ByteArray->List Dt->List Dt->Option (Int×Int×ByteArray×List Dt×List Dt)):Prop:=∀b c d e f g h i j k,l52 jn m KI [] l (nO b c d e f g h i j k)=a b c d e f g h i j k
theorem afL m b a(o:ane m b a) c d e f h i j k l n:e52 jn m anb [b] (nO c d e f h i j k l n)=OB m (qJ m) a c d e f h i j k l n:=
 tre (g:=fun J=>jj J 1 5 b (nO c d (wrap .i64 (e+1)) f h i j k l n) (l52 J m KI [] b)) (fun J=>by kernel_rfl) (by simp only[ay,o];rfl)
theorem afM m e a(p:ane m e a) f h b i j k l n c o:e52 jn m afH [e] (nO f h b i j k l n c o)=OC m (qJ m) a f h b i j k l n c o:=
 tre (g:=fun J=>(idx f b).bind fun q=>(qJ m q).bind fun d=>(inL c b).bind fun r=>(c[b.toNat]?).bind fun s=>jj J 0 8 0 (nO f h b i j k l n (List.set c b.toNat (agg [int d.1,int d.2.1,str d.2.2.1,lst d.2.2.2.1,lst d.2.2.2.2])) o) (e52 J m anb [e])) (fun J=>by kernel_rfl) (by simp only[ay,afL m e a p];rfl)
abbrev anf(m k:Nat)(a:List Dt->Int->Int->Dt->Int->Int->ByteArray->List Dt->List Dt->Option (Int×Int×ByteArray×List Dt×List Dt)):Prop:=∀b c d e f g h i j,l52 jn m KJ [] k (nP b c d e f g h i j)=a b c d e f g h i j
theorem afN m b a(n:anf m b a) c d e f h i j k l:e52 jn m anc [b] (nP c d e f h i j k l)=OD m (qJ m) a c d e f h i j k l:=
 tre (g:=fun J=>jj J 1 12 b (nP c d (wrap .i64 (e+1)) f h i j k l) (l52 J m KJ [] b)) (fun J=>by kernel_rfl) (by simp only[ay,n];rfl)
theorem afO m e a(p:anf m e a) f h b i j k l n c:e52 jn m afI [e] (nP f h b i j k l n c)=OE m (qJ m) a f h b i j k l n c:=
 tre (g:=fun J=>(idx f b).bind fun o=>(qJ m (fld o 1)).bind fun d=>(inL c b).bind fun q=>(c[b.toNat]?).bind fun r=>jj J 0 15 0 (nP f h b i j k l n (List.set c b.toNat (agg [str (S o 0),agg [int d.1,int d.2.1,str d.2.2.1,lst d.2.2.2.1,lst d.2.2.2.2]]))) (e52 J m anc [e])) (fun J=>by kernel_rfl) (by simp only[ay,afN m e a p];rfl)
theorem KL m f a b c d e:e52 jn m [1,1,1,1] [] (afJ f a b c d e)=GD m (qJ m) f a b c d e:=
 tre (g:=fun J=>some (a,b,c,d,e)) (fun J=>by kernel_rfl) (by rfl)
theorem KM m:∀a k b c d e f h i j,l52 jn m KJ [] a (nP k b c d e f h i j)=uR m (qJ m) a k b c d e f h i j
 |0,_,_,_,_,_,_,_,_,_=>rfl
 |a+1,k,b,c,d,e,f,h,i,j=>
  trl (g:=fun J=>cond (c<b) (jj J 0 13 0 (nP k b c d e f h i j) (e52 J m afI [a])) (jj J 0 16 0 (afJ d e f h i j) (e52 J m [1,1,1,1] []))) (fun J=>by kernel_rfl) (by simp only[ay,afO m a (uR m (qJ m) a) (KM m a),KL m];rfl)
theorem afP m a b c d e f h i j:e52 jn m afG [] (nP a b c d e f h i j)=akT m (qJ m) a b c d e f h i j:=
 tre (g:=fun J=>jj J 1 12 (succ m) (nP a b c d e f h i j) (l52 J m KJ [] (succ m))) (fun J=>by kernel_rfl) (by simp only[ay,KM m];rfl)
theorem KN m a b c d e f h:e52 jn m [1,1,1] [] (afK a b c d e f h)=kF m (qJ m) a b c d e f h:=
 tre (g:=fun J=>bif 0<((L a 4).length:Int)then(mkL ((L a 4).length:Int) ((L a 4).length:Int) lW).bind fun i=>jj J 0 12 0 (nP (L a 4) ((L a 4).length:Int) 0 b c d e f i) (e52 J m afG [])else jj J 0 16 0 (afJ b c d e f h) (e52 J m [1,1,1,1] [])) (fun J=>by kernel_rfl) (by simp only[ay,afP m,KL m];rfl)
theorem KO m:∀a l b c d e f h i j k,l52 jn m KI [] a (nO l b c d e f h i j k)=mI m (qJ m) a l b c d e f h i j k
 |0,_,_,_,_,_,_,_,_,_,_=>rfl
 |a+1,l,b,c,d,e,f,h,i,j,k=>
  trl (g:=fun J=>cond (c<b) (jj J 0 6 0 (nO l b c d e f h i j k) (e52 J m afH [a])) (jj J 0 9 0 (afK d e f h i j k) (e52 J m [1,1,1] []))) (fun J=>by kernel_rfl) (by simp only[ay,afM m a (mI m (qJ m) a) (KO m a),KN m];rfl)
theorem afQ m a b c d e f h i j k:e52 jn m afF [] (nO a b c d e f h i j k)=akU m (qJ m) a b c d e f h i j k:=
 tre (g:=fun J=>jj J 1 5 (succ m) (nO a b c d e f h i j k) (l52 J m KI [] (succ m))) (fun J=>by kernel_rfl) (by simp only[ay,KO m];rfl)
theorem aur m a:e52 jn m [] [] ⟨[(.dat 26 a)],[],0⟩=qJ (m+1) a:=
 tre (g:=fun J=>bif 0<((L a 3).length:Int)then(mkL ((L a 3).length:Int) ((L a 3).length:Int) bg).bind fun b=>jj J 0 5 0 (nO (L a 3) ((L a 3).length:Int) 0 a bg (I a 0) (I a 1) (S a 2) b []) (e52 J m afF [])else jj J 0 9 0 (afK a bg (I a 0) (I a 1) (S a 2) [] []) (e52 J m [1,1,1] [])) (fun J=>by kernel_rfl) (by simp only[ay,afQ m,KN m];rfl)
def Q6:List Nat:=[1,1,0,1,0]
def afR:List Nat:=[1,1,0,1,0,0,1,1]
def ang:List Nat:=afR++[1]
noncomputable def e53(J:Nat->Nat->Nat->St->Option Int->Option Int)(m:Nat)(p ms:List Nat)(σ:St):=evAt Tryz.prog env (ct m) J (m+1) 157 25 Tryz.f157 d36 p ms σ
noncomputable def l53(J:Nat->Nat->Nat->St->Option Int->Option Int)(m:Nat)(p ms:List Nat)(M:Nat)(σ:St):=loopAt Tryz.prog env (ct m) J (m+1) 157 25 Tryz.f157 d36 p ms M σ
noncomputable def nQ(a:ByteArray)(b c:Int)(d:Dt):St:=⟨tsOf [(1,(.dat 9 (.str a))),(2,(.ptr 0 [] 0)),(11,(.dat 3 (.int b))),(12,(.dat 3 (.int c)))],[(.box 26 (.dat 26 d))],0⟩
noncomputable def anh:St:=⟨tsOf [],[],0⟩
noncomputable def ani(a:ByteArray)(b:Dt):St:=⟨tsOf [(1,(.dat 9 (.str a))),(2,(.ptr 0 [] 0))],[(.box 26 (.dat 26 b))],0⟩
abbrev anj(m f:Nat)(a:ByteArray->Int->Int->Dt->Option Int):Prop:=∀b c d e,l53 jn m Q6 [] f (nQ b c d e)=a b c d e
theorem afS m b a(h:anj m b a) c d e f:e53 jn m ang [b] (nQ c d e f)=akV m a c d e f:=
 tre (g:=fun J=>jj J 1 4 b (nQ c d (wrap .i64 (e+1)) f) (l53 J m Q6 [] b)) (fun J=>by kernel_rfl) (by simp only[ay,h];rfl)
theorem afT m c a(h:anj m c a) d f b e:e53 jn m afR [c] (nQ d f b e)=Xc m a d f b e:=
 tre (g:=fun J=>(idx (L e 4) b).bind fun i=>cond ((S i 0).toList==d.toList) (some b) (jj J 0 8 0 (nQ d f b e) (e53 J m ang [c]))) (fun J=>by kernel_rfl) (by simp only[ay,afS m c a h];rfl)
theorem afU m:e53 jn m [1,1,1] [] anh=akW m:=
 tre (g:=fun J=>some (-1)) (fun J=>by kernel_rfl) (by rfl)
theorem KP m:∀a d b c e,l53 jn m Q6 [] a (nQ d b c e)=Cg m a d b c e
 |0,_,_,_,_=>rfl
 |a+1,d,b,c,e=>
  trl (g:=fun J=>cond (c<b) (jj J 0 5 0 (nQ d b c e) (e53 J m afR [a])) (jj J 0 9 0 anh (e53 J m [1,1,1] []))) (fun J=>by kernel_rfl) (by simp only[ay,afT m a (Cg m a) (KP m a),afU m];rfl)
theorem afV m a b c d:e53 jn m [1,1,0,1] [] (nQ a b c d)=akX m a b c d:=
 tre (g:=fun J=>jj J 1 4 (succ m) (nQ a b c d) (l53 J m Q6 [] (succ m))) (fun J=>by kernel_rfl) (by simp only[ay,KP m];rfl)
theorem afW m b a:e53 jn m [1,1] [] (ani b a)=akY m b a:=
 tre (g:=fun J=>jj J 0 4 0 (nQ b ((L a 4).length:Int) 0 a) (e53 J m [1,1,0,1] [])) (fun J=>by kernel_rfl) (by simp only[ay,afV m];rfl)
theorem aus m a b:e53 jn m [] [] ⟨[(.dat 26 a),(.dat 9 (.str b))],[],0⟩=zI (m+1) a b:=
 tre (g:=fun J=>cond (I a 0 !=5) (some (-1)) (jj J 0 3 0 (ani b a) (e53 J m [1,1] []))) (fun J=>by kernel_rfl) (by simp only[ay,afW m];rfl)
noncomputable def e34(J:Nat->Nat->Nat->St->Option Dt->Option Dt)(m:Nat)(p ms:List Nat)(σ:St):=evAt Tryz.prog env (ct m) J (m+1) 119 38 Tryz.f119 d17 p ms σ
noncomputable def Q7(a:ByteArray)(b c:Dt)(d e:Int)(f:ByteArray)(g h:List Dt):St:=⟨tsOf [(1,(.dat 9 (.str a))),(5,(.ptr 0 [] 0)),(6,(.ptr 1 [] 0)),(7,(.ptr 2 [] 0))],[(.box 26 (.dat 26 b)),(.box 26 (.dat 26 c)),(.box 26 (.agg 26 [(.dat 3 (.int d)),(.dat 3 (.int e)),(.dat 9 (.str f)),(.row 3),(.row 4)])),(.row 23 g),(.row 24 h)],0⟩
theorem afX m b c j d e f h i:e34 jn m [1,1,1,1] [] (Q7 b c j d e f h i)=akZ m b c j d e f h i:=
 tre (g:=fun J=>(qJ m c).bind fun a=>(app i [agg [str b,agg [int a.1,int a.2.1,str a.2.2.1,lst a.2.2.2.1,lst a.2.2.2.2]]]).bind fun k=>some (agg [int d,int e,str f,lst h,lst k])) (fun J=>by kernel_rfl) (by rfl)
theorem afY m h i k b c d e a:e34 jn m [1,1,1] [] (Q7 h i k b c d e a)=ak0 m h i k b c d e a:=
 tre (g:=fun J=>(zI m (agg [int b,int c,str d,lst e,lst a]) h).bind fun j=>cond (0<=j) ((qJ m i).bind fun f=>(inL a j).bind fun n=>(a[j.toNat]?).bind fun l=>some (agg [int b,int c,str d,lst e,lst (List.set a j.toNat (agg [str (S l 0),agg [int f.1,int f.2.1,str f.2.2.1,lst f.2.2.2.1,lst f.2.2.2.2]]))])) (jj J 0 8 0 (Q7 h i k b c d e a) (e34 J m [1,1,1,1] []))) (fun J=>by kernel_rfl) (by simp only[ay,afX m];rfl)
theorem aut m b c d:e34 jn m [] [] ⟨[(.dat 26 b),(.dat 9 (.str c)),(.dat 26 d)],[],0⟩=zY (m+1) b c d:=
 tre (g:=fun J=>(qJ m b).bind fun a=>cond (a.1 !=5) (some (agg [int a.1,int a.2.1,str a.2.2.1,lst a.2.2.2.1,lst a.2.2.2.2])) (jj J 0 4 0 (Q7 c d bg a.1 a.2.1 a.2.2.1 a.2.2.2.1 a.2.2.2.2) (e34 J m [1,1,1] []))) (fun J=>by kernel_rfl) (by simp only[ay,afY m];rfl)
noncomputable def e48(J:Nat->Nat->Nat->St->Option (Dt×Bool)->Option (Dt×Bool))(m:Nat)(p ms:List Nat)(σ:St):=evAt Tryz.prog env (ct m) J (m+1) 138 20 Tryz.f138 d48 p ms σ
noncomputable def ank(a:Int)(b c:Dt):St:=⟨tsOf [(2,(.ptr 0 [] 0)),(4,(.ptr 1 [] 0)),(6,(.dat 3 (.int a)))],[(.box 26 (.dat 26 b)),(.box 26 (.dat 26 c))],0⟩
theorem afZ m b c d:e48 jn m [1,1,1] [] (ank b c d)=ak1 m b c d:=
 tre (g:=fun J=>(idx (L c 4) b).bind fun e=>(qJ m (fld e 1)).bind fun a=>some (agg [int a.1,int a.2.1,str a.2.2.1,lst a.2.2.2.1,lst a.2.2.2.2],true)) (fun J=>by kernel_rfl) (by rfl)
theorem auu m a b:e48 jn m [] [] ⟨[(.dat 26 a),(.dat 9 (.str b))],[],0⟩=z8 (m+1) a b:=
 tre (g:=fun J=>(zI m a b).bind fun c=>cond (c<0) (some (bg,false)) (jj J 0 4 0 (ank c a bg) (e48 J m [1,1,1] []))) (fun J=>by kernel_rfl) (by simp only[ay,afZ m];rfl)
noncomputable def e22(J:Nat->Nat->Nat->St->Option Dt->Option Dt)(m:Nat)(p ms:List Nat)(σ:St):=evAt Tryz.prog env (ct m) J (m+1) 101 11 Tryz.f101 d17 p ms σ
theorem auv m a:e22 jn m [] [] ⟨[(.dat 26 a)],[],0⟩=zL (m+1) a:=
 tre (g:=fun J=>(z8 m a (ByteArray.mk (List.toArray [95,105,100]))).bind fun b=>some b.1) (fun J=>by kernel_rfl) (by rfl)
noncomputable def e26(J:Nat->Nat->Nat->St->Option (Dt×List Dt×List Dt×List Dt×List Dt)->Option (Dt×List Dt×List Dt×List Dt×List Dt))(m:Nat)(p ms:List Nat)(σ:St):=evAt Tryz.prog env (ct m) J (m+1) 140 29 Tryz.f140 d26 p ms σ
theorem aq7 m b d c e f h a:e26 jn m [] [] ⟨[(.ptr 0 [] 0),(.dat 26 b),(.dat 26 d)],[(.box 114 (.agg 114 [(.dat 51 c),(.row 1),(.row 2),(.row 3),(.row 4)])),(.row 112 e),(.map 110 f),(.map 111 h),(.row 54 a)],5⟩=i26 (m+1) b d c e f h a:=
 tre (g:=fun J=>(zL m b).bind fun j=>(qB m j).bind fun k=>(qB m b).bind fun l=>(qB m d).bind fun n=>(cond false (app a [pO]) (cond true (ite (a.length+1<=2147483648) (Option.some (a++[pO])) Option.none) Option.none)).bind fun i=>(inL i (a.length:Int)).bind fun o=>(i[(a.length:Int).toNat]?).bind fun p=>some (c,f,h,e,List.set i (a.length:Int).toNat (agg [int 2,str (S c 0),k,l,n,EK,EL,str (ByteArray.mk (List.toArray [])),int 0,lst [],lst [],bool false]))) (fun J=>by kernel_rfl) (by rfl)
def Q8:List Nat:=[1,1,0,1,0]
def Q9:List Nat:=[1,1,0,1,0,0,1]
def anl:List Nat:=Q9++[1]
def Ra:List Nat:=Q9++[0,0,1]
noncomputable def e58(J:Nat->Nat->Nat->St->Option Bool->Option Bool)(m:Nat)(p ms:List Nat)(σ:St):=evAt Tryz.prog env (ct m) J (m+1) 97 39 Tryz.f97 d8 p ms σ
noncomputable def l58(J:Nat->Nat->Nat->St->Option Bool->Option Bool)(m:Nat)(p ms:List Nat)(M:Nat)(σ:St):=loopAt Tryz.prog env (ct m) J (m+1) 97 39 Tryz.f97 d8 p ms M σ
noncomputable def nR(a:ByteArray)(b:Int):St:=⟨tsOf [(0,(.dat 9 (.str a))),(3,(.dat 3 (.int b)))],[],0⟩
noncomputable def Rb(a:ByteArray)(b:Int)(c:Bool):St:=⟨tsOf [(0,(.dat 9 (.str a))),(3,(.dat 3 (.int b))),(38,(.dat 4 (.bool c)))],[],0⟩
noncomputable def anm:St:=⟨tsOf [],[],0⟩
noncomputable def ano(a:ByteArray):St:=⟨tsOf [(0,(.dat 9 (.str a)))],[],0⟩
noncomputable def Rf(a:ByteArray)(b:Bool):St:=⟨tsOf [(0,(.dat 9 (.str a))),(16,(.dat 4 (.bool b)))],[],0⟩
abbrev af0(m d:Nat)(a:ByteArray->Int->Option Bool):Prop:=∀b c,l58 jn m Q8 [] d (nR b c)=a b c
theorem af2 m b a(e:af0 m b a) c d:e58 jn m anl [b] (nR c d)=wR m a c d:=
 tre (g:=fun J=>jj J 1 4 b (nR c (wrap .i64 (d+1))) (l58 J m Q8 [] b)) (fun J=>by kernel_rfl) (by simp only[ay,e];rfl)
theorem af3 m b a(f:af0 m b a) c d e:e58 jn m Ra [b] (Rb c d e)=pR m a c d e:=
 tre (g:=fun J=>cond e (some false) (jj J 0 5 0 (nR c d) (e58 J m anl [b]))) (fun J=>by kernel_rfl) (by simp only[ay,af2 m b a f];rfl)
theorem af4 m d a(e:af0 m d a) b c:e58 jn m Q9 [d] (nR b c)=wS m a b c:=
 tre (g:=fun J=>(idxS b c).bind fun f=>cond (f<33) (jj J 0 7 0 (Rb b c true) (e58 J m Ra [d])) ((idxS b c).bind fun h=>cond (126<h) (jj J 0 7 0 (Rb b c true) (e58 J m Ra [d])) ((idxS b c).bind fun i=>jj J 0 7 0 (Rb b c (i==46)) (e58 J m Ra [d])))) (fun J=>by kernel_rfl) (by simp only[ay,af3 m d a e];rfl)
theorem af5 m:e58 jn m [1,1,1] [] anm=wT m:=
 tre (g:=fun J=>some true) (fun J=>by kernel_rfl) (by rfl)
theorem KQ m:∀a b c,l58 jn m Q8 [] a (nR b c)=wU m a b c
 |0,_,_=>rfl
 |a+1,b,c=>
  trl (g:=fun J=>cond (c<(b.size:Int)) (jj J 0 6 0 (nR b c) (e58 J m Q9 [a])) (jj J 0 8 0 anm (e58 J m [1,1,1] []))) (fun J=>by kernel_rfl) (by simp only[ay,af4 m a (wU m a) (KQ m a),af5 m];rfl)
theorem af6 m a b:e58 jn m [1,1,0,1] [] (nR a b)=wV m a b:=
 tre (g:=fun J=>jj J 1 4 (succ m) (nR a b) (l58 J m Q8 [] (succ m))) (fun J=>by kernel_rfl) (by simp only[ay,KQ m];rfl)
theorem af7 m a:e58 jn m [1,1] [] (ano a)=wW m a:=
 tre (g:=fun J=>jj J 0 4 0 (nR a 0) (e58 J m [1,1,0,1] [])) (fun J=>by kernel_rfl) (by simp only[ay,af6 m];rfl)
theorem af8 m a b:e58 jn m [1,0,1] [] (Rf a b)=pU m a b:=
 tre (g:=fun J=>cond b (some false) (jj J 0 3 0 (ano a) (e58 J m [1,1] []))) (fun J=>by kernel_rfl) (by simp only[ay,af7 m];rfl)
theorem auw m a:e58 jn m [] [] ⟨[(.dat 9 (.str a))],[],0⟩=qS (m+1) a:=
 tre (g:=fun J=>cond ((a.size:Int)<1) (jj J 0 2 0 (Rf a true) (e58 J m [1,0,1] [])) (bif 32<(a.size:Int)then jj J 0 2 0 (Rf a true) (e58 J m [1,0,1] [])else(idxS a 0).bind fun b=>jj J 0 2 0 (Rf a (b==36)) (e58 J m [1,0,1] []))) (fun J=>by kernel_rfl) (by simp only[ay,af8 m];rfl)
def Rh:List Nat:=[1,1,0,1,0]
def af9:List Nat:=[1,1,0,1,0,0,1]
def anp:List Nat:=af9++[1]
noncomputable def e43(J:Nat->Nat->Nat->St->Option Bool->Option Bool)(m:Nat)(p ms:List Nat)(σ:St):=evAt Tryz.prog env (ct m) J (m+1) 65 24 Tryz.f65 d8 p ms σ
noncomputable def l43(J:Nat->Nat->Nat->St->Option Bool->Option Bool)(m:Nat)(p ms:List Nat)(M:Nat)(σ:St):=loopAt Tryz.prog env (ct m) J (m+1) 65 24 Tryz.f65 d8 p ms M σ
noncomputable def nS(a:List Dt)(b:Int):St:=⟨tsOf [(0,(.dat 22 (.lst a))),(3,(.dat 3 (.int b)))],[],0⟩
noncomputable def anq:St:=⟨tsOf [],[],0⟩
noncomputable def anr(a:List Dt):St:=⟨tsOf [(0,(.dat 22 (.lst a)))],[],0⟩
noncomputable def aga(a:List Dt)(b:Bool):St:=⟨tsOf [(0,(.dat 22 (.lst a))),(11,(.dat 4 (.bool b)))],[],0⟩
abbrev ant(m d:Nat)(a:List Dt->Int->Option Bool):Prop:=∀b c,l43 jn m Rh [] d (nS b c)=a b c
theorem agb m b a(e:ant m b a) c d:e43 jn m anp [b] (nS c d)=ak2 m a c d:=
 tre (g:=fun J=>jj J 1 4 b (nS c (wrap .i64 (d+1))) (l43 J m Rh [] b)) (fun J=>by kernel_rfl) (by simp only[ay,e];rfl)
theorem agc m b a(e:ant m b a) c d:e43 jn m af9 [b] (nS c d)=ak3 m a c d:=
 tre (g:=fun J=>(idx c d).bind fun f=>(qS m (toStr f)).bind fun h=>cond (!h) (some false) (jj J 0 5 0 (nS c d) (e43 J m anp [b]))) (fun J=>by kernel_rfl) (by simp only[ay,agb m b a e];rfl)
theorem agd m:e43 jn m [1,1,1] [] anq=ak4 m:=
 tre (g:=fun J=>some true) (fun J=>by kernel_rfl) (by rfl)
theorem KR m:∀a b c,l43 jn m Rh [] a (nS b c)=uS m a b c
 |0,_,_=>rfl
 |a+1,b,c=>
  trl (g:=fun J=>cond (c<(b.length:Int)) (jj J 0 6 0 (nS b c) (e43 J m af9 [a])) (jj J 0 8 0 anq (e43 J m [1,1,1] []))) (fun J=>by kernel_rfl) (by simp only[ay,agc m a (uS m a) (KR m a),agd m];rfl)
theorem agf m a b:e43 jn m [1,1,0,1] [] (nS a b)=ak5 m a b:=
 tre (g:=fun J=>jj J 1 4 (succ m) (nS a b) (l43 J m Rh [] (succ m))) (fun J=>by kernel_rfl) (by simp only[ay,KR m];rfl)
theorem agh m a:e43 jn m [1,1] [] (anr a)=ak6 m a:=
 tre (g:=fun J=>jj J 0 4 0 (nS a 0) (e43 J m [1,1,0,1] [])) (fun J=>by kernel_rfl) (by simp only[ay,agf m];rfl)
theorem agi m a b:e43 jn m [1,0,1] [] (aga a b)=Xd m a b:=
 tre (g:=fun J=>cond b (some false) (jj J 0 3 0 (anr a) (e43 J m [1,1] []))) (fun J=>by kernel_rfl) (by simp only[ay,agh m];rfl)
theorem auy m a:e43 jn m [] [] ⟨[(.dat 22 (.lst a))],[],0⟩=zD (m+1) a:=
 tre (g:=fun J=>cond ((a.length:Int)<1) (jj J 0 2 0 (aga a true) (e43 J m [1,0,1] [])) (jj J 0 2 0 (aga a (decide (16<(a.length:Int)))) (e43 J m [1,0,1] []))) (fun J=>by kernel_rfl) (by simp only[ay,agi m];rfl)
noncomputable def e16(J:Nat->Nat->Nat->St->Option Bool->Option Bool)(m:Nat)(p ms:List Nat)(σ:St):=evAt Tryz.prog env (ct m) J (m+1) 64 6 Tryz.f64 d8 p ms σ
theorem auz m a:e16 jn m [] [] ⟨[(.dat 22 (.lst a))],[],0⟩=zQ (m+1) a:=
 tre (g:=fun J=>(zD m a).bind fun b=>some (!b)) (fun J=>by kernel_rfl) (by rfl)
def agj:List Nat:=[1,0,1,0,0,1,1]
def anu:List Nat:=agj++[1]
noncomputable def e15(J:Nat->Nat->Nat->St->Option Int->Option Int)(m:Nat)(p ms:List Nat)(σ:St):=evAt Tryz.prog env (ct m) J (m+1) 96 19 Tryz.f96 d36 p ms σ
noncomputable def l15(J:Nat->Nat->Nat->St->Option Int->Option Int)(m:Nat)(p ms:List Nat)(M:Nat)(σ:St):=loopAt Tryz.prog env (ct m) J (m+1) 96 19 Tryz.f96 d36 p ms M σ
noncomputable def nT(a:List Dt)(b c:Int):St:=⟨tsOf [(0,(.dat 49 (.lst a))),(1,(.fn 64 [])),(7,(.dat 3 (.int b))),(8,(.dat 3 (.int c)))],[],0⟩
noncomputable def anv:St:=⟨tsOf [],[],0⟩
abbrev anw(m e:Nat)(a:List Dt->Int->Int->Option Int):Prop:=∀b c d,l15 jn m [1,0,1,0] [] e (nT b c d)=a b c d
theorem Ve m b a(f:anw m b a) c d e:e15 jn m anu [b] (nT c d e)=Xe m a c d e:=
 tre (g:=fun J=>jj J 1 2 b (nT c d (wrap .i64 (e+1))) (l15 J m [1,0,1,0] [] b)) (fun J=>by kernel_rfl) (by simp only[ay,f];rfl)
theorem Vf m c a(f:anw m c a) d e b:e15 jn m agj [c] (nT d e b)=Xf m a d e b:=
 tre (g:=fun J=>(idx d b).bind fun h=>(zQ m (toLst h)).bind fun i=>cond i (some b) (jj J 0 6 0 (nT d e b) (e15 J m anu [c]))) (fun J=>by kernel_rfl) (by simp only[ay,Ve m c a f];rfl)
theorem Vg m:e15 jn m [1,1] [] anv=Xg m:=
 tre (g:=fun J=>some (-1)) (fun J=>by kernel_rfl) (by rfl)
theorem Eh m:∀a d b c,l15 jn m [1,0,1,0] [] a (nT d b c)=kG m a d b c
 |0,_,_,_=>rfl
 |a+1,d,b,c=>
  trl (g:=fun J=>cond (c<b) (jj J 0 3 0 (nT d b c) (e15 J m agj [a])) (jj J 0 7 0 anv (e15 J m [1,1] []))) (fun J=>by kernel_rfl) (by simp only[ay,Vf m a (kG m a) (Eh m a),Vg m];rfl)
theorem Vh m a b c:e15 jn m [1,0,1] [] (nT a b c)=Xh m a b c:=
 tre (g:=fun J=>jj J 1 2 (succ m) (nT a b c) (l15 J m [1,0,1,0] [] (succ m))) (fun J=>by kernel_rfl) (by simp only[ay,Eh m];rfl)
theorem aq8 m a:e15 jn m [] [] ⟨[(.dat 49 (.lst a)),(.fn 64 [])],[],0⟩=i15 (m+1) a:=
 tre (g:=fun J=>jj J 0 2 0 (nT a (a.length:Int) 0) (e15 J m [1,0,1] [])) (fun J=>by kernel_rfl) (by simp only[ay,Vh m];rfl)
noncomputable def e14(J:Nat->Nat->Nat->St->Option Bool->Option Bool)(m:Nat)(p ms:List Nat)(σ:St):=evAt Tryz.prog env (ct m) J (m+1) 63 9 Tryz.f63 d8 p ms σ
theorem aq9 m a:e14 jn m [] [] ⟨[(.dat 49 (.lst a)),(.fn 64 [])],[],0⟩=i14 (m+1) a:=
 tre (g:=fun J=>(i15 m a).bind fun b=>some (decide (0<=b))) (fun J=>by kernel_rfl) (by rfl)
noncomputable def e61(J:Nat->Nat->Nat->St->Option Int->Option Int)(m:Nat)(p ms:List Nat)(σ:St):=evAt Tryz.prog env (ct m) J (m+1) 239 10 Tryz.f239 d61 p ms σ
theorem auA m a:e61 jn m [] [] ⟨[(.dat 3 (.int a))],[],0⟩=zX (m+1) a:=
 tre (g:=fun J=>some (xorI IntKind.u64 (shlI IntKind.u64 (wrap IntKind.u64 a) 1) (wrap IntKind.u64 (shrI IntKind.i64 a 63)))) (fun J=>by kernel_rfl) (by rfl)
def anx:List Nat:=[1,1,0,0,0,1]
noncomputable def e60(J:Nat->Nat->Nat->St->Option (List Dt)->Option (List Dt))(m:Nat)(p ms:List Nat)(σ:St):=evAt Tryz.prog env (ct m) J (m+1) 226 23 Tryz.f226 d60 p ms σ
noncomputable def l60(J:Nat->Nat->Nat->St->Option (List Dt)->Option (List Dt))(m:Nat)(p ms:List Nat)(M:Nat)(σ:St):=loopAt Tryz.prog env (ct m) J (m+1) 226 23 Tryz.f226 d60 p ms M σ
noncomputable def nU(a:Int)(b:List Dt):St:=⟨tsOf [(0,(.row 1)),(5,(.dat 215 (.int a)))],[.gone,(.row 193 b)],1⟩
abbrev auB(m d:Nat)(a:Int->List Dt->Option (List Dt)):Prop:=∀b c,l60 jn m [1,1,0,0] [] d (nU b c)=a b c
theorem Vi m b a(e:auB m b a) c d:e60 jn m anx [b] (nU c d)=Mg m a c d:=
 tre (g:=fun J=>(app d [int (orI IntKind.u8 (wrap IntKind.u8 c) 128)]).bind fun f=>jj J 1 2 b (nU (shrI IntKind.u64 c 7) f) (l60 J m [1,1,0,0] [] b)) (fun J=>by kernel_rfl) (by simp only[ay,e];rfl)
theorem Vj m a b:e60 jn m [1,1,1] [] (nU a b)=Mh m a b:=
 tre (g:=fun J=>(app b [int (wrap IntKind.u8 a)]).bind fun c=>some c) (fun J=>by kernel_rfl) (by rfl)
theorem Ei m:∀a b c,l60 jn m [1,1,0,0] [] a (nU b c)=r9 m a b c
 |0,_,_=>rfl
 |a+1,b,c=>
  trl (g:=fun J=>cond (128<=b) (jj J 0 3 0 (nU b c) (e60 J m anx [a])) (jj J 0 5 0 (nU b c) (e60 J m [1,1,1] []))) (fun J=>by kernel_rfl) (by simp only[ay,Vi m a (r9 m a) (Ei m a),Vj m];rfl)
theorem Vk m a b:e60 jn m [1,1] [] (nU a b)=Xi m a b:=
 tre (g:=fun J=>jj J 1 2 (succ m) (nU a b) (l60 J m [1,1,0,0] [] (succ m))) (fun J=>by kernel_rfl) (by simp only[ay,Ei m];rfl)
theorem ara m a b:e60 jn m [] [] ⟨[(.row 0),(.dat 3 (.int a))],[(.row 193 b)],1⟩=i60 (m+1) a b:=
 tre (g:=fun J=>(zX m a).bind fun c=>jj J 0 2 0 (nU c b) (e60 J m [1,1] [])) (fun J=>by kernel_rfl) (by simp only[ay,Vk m];rfl)
noncomputable def e62(J:Nat->Nat->Nat->St->Option (List Dt)->Option (List Dt))(m:Nat)(p ms:List Nat)(σ:St):=evAt Tryz.prog env (ct m) J (m+1) 227 11 Tryz.f227 d60 p ms σ
theorem arb m a b:e62 jn m [] [] ⟨[(.row 0),(.dat 9 (.str a))],[(.row 193 b)],1⟩=i62 (m+1) a b:=
 tre (g:=fun J=>(i60 m (a.size:Int) b).bind fun c=>(app c (bytesD a)).bind fun d=>some d) (fun J=>by kernel_rfl) (by rfl)
def Ri:List Nat:=[1,1,0,1,0,1]
def KS:List Nat:=Ri++[1,1,1,1]
def agk:List Nat:=KS++[1,1,1,1,0,1,1]
def KU:List Nat:=agk++[0]
def agl:List Nat:=KS++[1,1,1,1,1,1,0,1,1]
def KV:List Nat:=agl++[0]
def agm:List Nat:=KU++[0,1,1]
def anz:List Nat:=agm++[1]
def agn:List Nat:=KV++[0,1,1]
def anA:List Nat:=agn++[1]
noncomputable def e59(J:Nat->Nat->Nat->St->Option (List Dt)->Option (List Dt))(m:Nat)(p ms:List Nat)(σ:St):=evAt Tryz.prog env (ct m) J (m+1) 192 86 Tryz.f192 d60 p ms σ
noncomputable def l59(J:Nat->Nat->Nat->St->Option (List Dt)->Option (List Dt))(m:Nat)(p ms:List Nat)(M:Nat)(σ:St):=loopAt Tryz.prog env (ct m) J (m+1) 192 86 Tryz.f192 d60 p ms M σ
noncomputable def vQ(a:List Dt):St:=⟨tsOf [(0,(.row 1))],[.gone,(.row 193 a)],1⟩
noncomputable def nV(a:List Dt)(b c:Int)(d:List Dt):St:=⟨tsOf [(0,(.row 1)),(53,(.dat 23 (.lst a))),(54,(.dat 3 (.int b))),(55,(.dat 3 (.int c)))],[.gone,(.row 193 d)],1⟩
noncomputable def jh(a:List Dt)(b c:Int)(d:List Dt):St:=⟨tsOf [(0,(.row 1)),(71,(.dat 24 (.lst a))),(72,(.dat 3 (.int b))),(73,(.dat 3 (.int c)))],[.gone,(.row 193 d)],1⟩
noncomputable def agp(a:Int)(b:Bool)(c:List Dt)(d:Dt):St:=⟨tsOf [(0,(.row 1)),(3,(.ptr 2 [] 0)),(16,(.dat 3 (.int a))),(32,(.dat 4 (.bool b)))],[.gone,(.row 193 c),(.box 26 (.dat 26 d))],1⟩
noncomputable def agq(a:Int)(b:Bool)(c:List Dt)(d:Dt):St:=⟨tsOf [(0,(.row 1)),(3,(.ptr 2 [] 0)),(16,(.dat 3 (.int a))),(17,(.dat 4 (.bool b)))],[.gone,(.row 193 c),(.box 26 (.dat 26 d))],1⟩
theorem mq m a:e59 jn m [1,1,1] [] (vQ a)=iW m (i59 m) a:=
 tre (g:=fun J=>some a) (fun J=>by kernel_rfl) (by rfl)
abbrev anB(m f:Nat)(a:List Dt->Int->Int->List Dt->Option (List Dt)):Prop:=∀b c d e,l59 jn m KU [] f (nV b c d e)=a b c d e
theorem Vl m b a(h:anB m b a) c d e f:e59 jn m anz [b] (nV c d e f)=Mi m (i59 m) a c d e f:=
 tre (g:=fun J=>jj J 1 16 b (nV c d (wrap .i64 (e+1)) f) (l59 J m KU [] b)) (fun J=>by kernel_rfl) (by simp only[ay,h];rfl)
theorem Vm m b a(h:anB m b a) c e d f:e59 jn m agm [b] (nV c e d f)=Mj m (i59 m) a c e d f:=
 tre (g:=fun J=>(idx c d).bind fun i=>(i59 m i f).bind fun j=>jj J 0 19 0 (nV c e d j) (e59 J m anz [b])) (fun J=>by kernel_rfl) (by simp only[ay,Vl m b a h];rfl)
theorem Ej m:∀a e b c d,l59 jn m KU [] a (nV e b c d)=sj m (i59 m) a e b c d
 |0,_,_,_,_=>rfl
 |a+1,e,b,c,d=>
  trl (g:=fun J=>cond (c<b) (jj J 0 17 0 (nV e b c d) (e59 J m agm [a])) (jj J 0 27 0 (vQ d) (e59 J m [1,1,1] []))) (fun J=>by kernel_rfl) (by simp only[ay,Vm m a (sj m (i59 m) a) (Ej m a),mq m];rfl)
theorem Vn m a b c d:e59 jn m agk [] (nV a b c d)=Xj m (i59 m) a b c d:=
 tre (g:=fun J=>jj J 1 16 (succ m) (nV a b c d) (l59 J m KU [] (succ m))) (fun J=>by kernel_rfl) (by simp only[ay,Ej m];rfl)
abbrev anC(m f:Nat)(a:List Dt->Int->Int->List Dt->Option (List Dt)):Prop:=∀b c d e,l59 jn m KV [] f (jh b c d e)=a b c d e
theorem Oc m b a(h:anC m b a) c d e f:e59 jn m anA [b] (jh c d e f)=ER m (i59 m) a c d e f:=
 tre (g:=fun J=>jj J 1 23 b (jh c d (wrap .i64 (e+1)) f) (l59 J m KV [] b)) (fun J=>by kernel_rfl) (by simp only[ay,h];rfl)
theorem Vo m b a(k:anC m b a) c e d f:e59 jn m agn [b] (jh c e d f)=Mk m (i59 m) a c e d f:=
 tre (g:=fun J=>(idx c d).bind fun j=>(i62 m (S j 0) f).bind fun h=>(i59 m (fld j 1) h).bind fun i=>jj J 0 26 0 (jh c e d i) (e59 J m anA [b])) (fun J=>by kernel_rfl) (by simp only[ay,Oc m b a k];rfl)
theorem El m:∀a e b c d,l59 jn m KV [] a (jh e b c d)=su m (i59 m) a e b c d
 |0,_,_,_,_=>rfl
 |a+1,e,b,c,d=>
  trl (g:=fun J=>cond (c<b) (jj J 0 24 0 (jh e b c d) (e59 J m agn [a])) (jj J 0 27 0 (vQ d) (e59 J m [1,1,1] []))) (fun J=>by kernel_rfl) (by simp only[ay,Vo m a (su m (i59 m) a) (El m a),mq m];rfl)
theorem Vp m a b c d:e59 jn m agl [] (jh a b c d)=Xk m (i59 m) a b c d:=
 tre (g:=fun J=>jj J 1 23 (succ m) (jh a b c d) (l59 J m KV [] (succ m))) (fun J=>by kernel_rfl) (by simp only[ay,El m];rfl)
theorem Vq m c d b a:e59 jn m KS [] (agp c d b a)=Ml m (i59 m) c d b a:=
 tre (g:=fun J=>cond d ((i62 m (S a 2) b).bind fun e=>jj J 0 27 0 (vQ e) (e59 J m [1,1,1] [])) (cond (c==8) ((app b (bytesD (S a 2))).bind fun f=>jj J 0 27 0 (vQ f) (e59 J m [1,1,1] [])) (cond (c==6) ((i60 m ((L a 3).length:Int) b).bind fun h=>jj J 0 16 0 (nV (L a 3) ((L a 3).length:Int) 0 h) (e59 J m agk [])) (cond (c==5) ((i60 m ((L a 4).length:Int) b).bind fun i=>jj J 0 23 0 (jh (L a 4) ((L a 4).length:Int) 0 i) (e59 J m agl [])) (jj J 0 27 0 (vQ b) (e59 J m [1,1,1] [])))))) (fun J=>by kernel_rfl) (by simp only[ay,mq m,Vn m,Vp m];rfl)
theorem Vr m a d b c:e59 jn m Ri [] (agq a d b c)=Mq m (i59 m) a d b c:=
 tre (g:=fun J=>cond d ((i60 m (I c 1) b).bind fun e=>jj J 0 27 0 (vQ e) (e59 J m [1,1,1] [])) (cond (a==9) ((app b [int (wrap IntKind.u8 (I c 1))]).bind fun f=>jj J 0 27 0 (vQ f) (e59 J m [1,1,1] [])) (cond (a==4) (jj J 0 10 0 (agp a (a==4) b c) (e59 J m KS [])) (jj J 0 10 0 (agp a (a==7) b c) (e59 J m KS []))))) (fun J=>by kernel_rfl) (by simp only[ay,mq m,Vq m];rfl)
theorem ard m a b:e59 jn m [] [] ⟨[(.row 0),(.dat 26 a)],[(.row 193 b)],1⟩=i59 (m+1) a b:=
 tre (g:=fun J=>(app b [int (wrap IntKind.u8 (I a 0))]).bind fun c=>cond (I a 0==3) (jj J 0 5 0 (agq (I a 0) (I a 0==3) c a) (e59 J m Ri [])) (jj J 0 5 0 (agq (I a 0) (I a 0==10) c a) (e59 J m Ri []))) (fun J=>by kernel_rfl) (by simp only[ay,Vr m];rfl)
noncomputable def e74(J:Nat->Nat->Nat->St->Option Int->Option Int)(m:Nat)(p ms:List Nat)(σ:St):=evAt Tryz.prog env (ct m) J (m+1) 218 14 Tryz.f218 d36 p ms σ
noncomputable def anD(a:Dt)(b c:Int):St:=⟨tsOf [(2,(.ptr 0 [] 0)),(3,(.ptr 1 [] 0)),(5,(.ptr 2 [] 0))],[(.box 26 (.dat 26 a)),(.box 3 (.dat 3 (.int b))),(.box 3 (.dat 3 (.int c)))],0⟩
theorem agr m a b c:e74 jn m [1,1,1] [] (anD a b c)=Xl m (i84 m) a b c:=
 tre (g:=fun J=>(i84 m a c b).bind fun d=>some d.1) (fun J=>by kernel_rfl) (by rfl)
theorem auC m b a:e74 jn m [] [] ⟨[(.dat 26 b),(.dat 3 (.int a))],[],0⟩=zS (m+1) b a:=
 tre (g:=fun J=>cond (1==a) (some 1) (jj J 0 4 0 (anD b a 1) (e74 J m [1,1,1] []))) (fun J=>by kernel_rfl) (by simp only[ay,agr m];rfl)
def ags:List Nat:=[1,1,0,1,0,1]
def KW:List Nat:=ags++[0]
def agt:List Nat:=[1,1,0,1,1,1,0,1]
def KX:List Nat:=agt++[0]
def agu:List Nat:=KW++[0,1,1]
def anE:List Nat:=agu++[1]
def agv:List Nat:=KX++[0,1,1]
def anF:List Nat:=agv++[1]
noncomputable def e84(J:Nat->Nat->Nat->St->Option (Int×Int)->Option (Int×Int))(m:Nat)(p ms:List Nat)(σ:St):=evAt Tryz.prog env (ct m) J (m+1) 234 39 Tryz.f234 d84 p ms σ
noncomputable def l84(J:Nat->Nat->Nat->St->Option (Int×Int)->Option (Int×Int))(m:Nat)(p ms:List Nat)(M:Nat)(σ:St):=loopAt Tryz.prog env (ct m) J (m+1) 234 39 Tryz.f234 d84 p ms M σ
noncomputable def nW(a:List Dt)(b c d e:Int):St:=⟨tsOf [(1,(.fn 235 [(.ptr 0 [] 0),(.ptr 1 [] 0)])),(13,(.dat 23 (.lst a))),(14,(.dat 3 (.int b))),(15,(.dat 3 (.int c)))],[(.box 3 (.dat 3 (.int d))),(.box 3 (.dat 3 (.int e)))],2⟩
noncomputable def nX(a:List Dt)(b c d e:Int):St:=⟨tsOf [(1,(.fn 235 [(.ptr 0 [] 0),(.ptr 1 [] 0)])),(27,(.dat 24 (.lst a))),(28,(.dat 3 (.int b))),(29,(.dat 3 (.int c)))],[(.box 3 (.dat 3 (.int d))),(.box 3 (.dat 3 (.int e)))],2⟩
abbrev anG(m g:Nat)(a:List Dt->Int->Int->Int->Int->Option (Int×Int)):Prop:=∀b c d e f,l84 jn m KW [] g (nW b c d e f)=a b c d e f
theorem Vt m b a(i:anG m b a) c d e f h:e84 jn m anE [b] (nW c d e f h)=sw m (i85 m) a c d e f h:=
 tre (g:=fun J=>jj J 1 4 b (nW c d (wrap .i64 (e+1)) f h) (l84 J m KW [] b)) (fun J=>by kernel_rfl) (by simp only[ay,i];rfl)
theorem Vu m c a(j:anG m c a) d f e h i:e84 jn m agu [c] (nW d f e h i)=sD m (i85 m) a d f e h i:=
 tre (g:=fun J=>(idx d e).bind fun k=>(i85 m k h i).bind fun b=>cond (!b.1) (some (b.2.1,b.2.2)) (jj J 0 7 0 (nW d f e b.2.1 b.2.2) (e84 J m anE [c]))) (fun J=>by kernel_rfl) (by simp only[ay,Vt m c a j];rfl)
theorem Em m:∀a f b c d e,l84 jn m KW [] a (nW f b c d e)=oF m (i85 m) a f b c d e
 |0,_,_,_,_,_=>rfl
 |a+1,f,b,c,d,e=>
  trl (g:=fun J=>cond (c<b) (jj J 0 5 0 (nW f b c d e) (e84 J m agu [a])) (some (d,e))) (fun J=>by kernel_rfl) (by simp only[ay,Vu m a (oF m (i85 m) a) (Em m a)];rfl)
theorem Vv m a b c d e:e84 jn m ags [] (nW a b c d e)=sF m (i85 m) a b c d e:=
 tre (g:=fun J=>jj J 1 4 (succ m) (nW a b c d e) (l84 J m KW [] (succ m))) (fun J=>by kernel_rfl) (by simp only[ay,Em m];rfl)
abbrev anH(m g:Nat)(a:List Dt->Int->Int->Int->Int->Option (Int×Int)):Prop:=∀b c d e f,l84 jn m KX [] g (nX b c d e f)=a b c d e f
theorem Vw m b a(i:anH m b a) c d e f h:e84 jn m anF [b] (nX c d e f h)=sG m (i85 m) a c d e f h:=
 tre (g:=fun J=>jj J 1 10 b (nX c d (wrap .i64 (e+1)) f h) (l84 J m KX [] b)) (fun J=>by kernel_rfl) (by simp only[ay,i];rfl)
theorem Vx m c a(j:anH m c a) d f e h i:e84 jn m agv [c] (nX d f e h i)=sH m (i85 m) a d f e h i:=
 tre (g:=fun J=>(idx d e).bind fun k=>(i85 m (fld k 1) h i).bind fun b=>cond (!b.1) (some (b.2.1,b.2.2)) (jj J 0 13 0 (nX d f e b.2.1 b.2.2) (e84 J m anF [c]))) (fun J=>by kernel_rfl) (by simp only[ay,Vw m c a j];rfl)
theorem En m:∀a f b c d e,l84 jn m KX [] a (nX f b c d e)=oG m (i85 m) a f b c d e
 |0,_,_,_,_,_=>rfl
 |a+1,f,b,c,d,e=>
  trl (g:=fun J=>cond (c<b) (jj J 0 11 0 (nX f b c d e) (e84 J m agv [a])) (some (d,e))) (fun J=>by kernel_rfl) (by simp only[ay,Vx m a (oG m (i85 m) a) (En m a)];rfl)
theorem Vy m a b c d e:e84 jn m agt [] (nX a b c d e)=sI m (i85 m) a b c d e:=
 tre (g:=fun J=>jj J 1 10 (succ m) (nX a b c d e) (l84 J m KX [] (succ m))) (fun J=>by kernel_rfl) (by simp only[ay,En m];rfl)
theorem arf m a b c:e84 jn m [] [] ⟨[(.dat 26 a),(.fn 235 [(.ptr 0 [] 0),(.ptr 1 [] 0)])],[(.box 3 (.dat 3 (.int b))),(.box 3 (.dat 3 (.int c)))],2⟩=i84 (m+1) a b c:=
 tre (g:=fun J=>cond (I a 0==6) (jj J 0 4 0 (nW (L a 3) ((L a 3).length:Int) 0 b c) (e84 J m ags [])) (cond (I a 0==5) (jj J 0 10 0 (nX (L a 4) ((L a 4).length:Int) 0 b c) (e84 J m agt [])) (some (b,c)))) (fun J=>by kernel_rfl) (by simp only[ay,Vv m,Vy m];rfl)
noncomputable def e85(J:Nat->Nat->Nat->St->Option (Bool×Int×Int)->Option (Bool×Int×Int))(m:Nat)(p ms:List Nat)(σ:St):=evAt Tryz.prog env (ct m) J (m+1) 235 15 Tryz.f235 d85 p ms σ
theorem arh m c a b:e85 jn m [] [] ⟨[(.dat 26 c),(.ptr 0 [] 0),(.ptr 1 [] 0)],[(.box 3 (.dat 3 (.int a))),(.box 3 (.dat 3 (.int b)))],2⟩=i85 (m+1) c a b:=
 tre (g:=fun J=>(zS m c (wrap .i64 (b-a))).bind fun d=>some (decide (wrap .i64 (a+d)<b),wrap .i64 (a+d),b)) (fun J=>by kernel_rfl) (by rfl)
noncomputable def e63(J:Nat->Nat->Nat->St->Option Int->Option Int)(m:Nat)(p ms:List Nat)(σ:St):=evAt Tryz.prog env (ct m) J (m+1) 169 5 Tryz.f169 d36 p ms σ
theorem auD m a:e63 jn m [] [] ⟨[(.dat 26 a)],[],0⟩=yC (m+1) a:=
 tre (g:=fun J=>(zS m a 1025).bind fun b=>some b) (fun J=>by kernel_rfl) (by rfl)
noncomputable def e75(J:Nat->Nat->Nat->St->Option Int->Option Int)(m:Nat)(p ms:List Nat)(σ:St):=evAt Tryz.prog env (ct m) J (m+1) 219 13 Tryz.f219 d36 p ms σ
noncomputable def anI(a:Dt)(b:Int):St:=⟨tsOf [(2,(.ptr 0 [] 0)),(3,(.ptr 1 [] 0))],[(.box 26 (.dat 26 a)),(.box 3 (.dat 3 (.int b)))],0⟩
theorem agw m a b:e75 jn m [1,1] [] (anI a b)=Xm m (i86 m) a b:=
 tre (g:=fun J=>(i86 m a 0 b).bind fun c=>some (wrap .i64 (1+c.1))) (fun J=>by kernel_rfl) (by rfl)
theorem auE m b a:e75 jn m [] [] ⟨[(.dat 26 b),(.dat 3 (.int a))],[],0⟩=zT (m+1) b a:=
 tre (g:=fun J=>cond (a==1) (some 1) (jj J 0 3 0 (anI b a) (e75 J m [1,1] []))) (fun J=>by kernel_rfl) (by simp only[ay,agw m];rfl)
def agx:List Nat:=[1,1,0,1,0,1]
def KY:List Nat:=agx++[0]
def agy:List Nat:=[1,1,0,1,1,1,0,1]
def KZ:List Nat:=agy++[0]
def agz:List Nat:=KY++[0,1,1]
def anJ:List Nat:=agz++[1]
def agA:List Nat:=KZ++[0,1,1]
def anK:List Nat:=agA++[1]
noncomputable def e86(J:Nat->Nat->Nat->St->Option (Int×Int)->Option (Int×Int))(m:Nat)(p ms:List Nat)(σ:St):=evAt Tryz.prog env (ct m) J (m+1) 234 39 Tryz.f234 d84 p ms σ
noncomputable def l86(J:Nat->Nat->Nat->St->Option (Int×Int)->Option (Int×Int))(m:Nat)(p ms:List Nat)(M:Nat)(σ:St):=loopAt Tryz.prog env (ct m) J (m+1) 234 39 Tryz.f234 d84 p ms M σ
noncomputable def nY(a:List Dt)(b c d e:Int):St:=⟨tsOf [(1,(.fn 236 [(.ptr 0 [] 0),(.ptr 1 [] 0)])),(13,(.dat 23 (.lst a))),(14,(.dat 3 (.int b))),(15,(.dat 3 (.int c)))],[(.box 3 (.dat 3 (.int d))),(.box 3 (.dat 3 (.int e)))],2⟩
noncomputable def nZ(a:List Dt)(b c d e:Int):St:=⟨tsOf [(1,(.fn 236 [(.ptr 0 [] 0),(.ptr 1 [] 0)])),(27,(.dat 24 (.lst a))),(28,(.dat 3 (.int b))),(29,(.dat 3 (.int c)))],[(.box 3 (.dat 3 (.int d))),(.box 3 (.dat 3 (.int e)))],2⟩
abbrev anL(m g:Nat)(a:List Dt->Int->Int->Int->Int->Option (Int×Int)):Prop:=∀b c d e f,l86 jn m KY [] g (nY b c d e f)=a b c d e f
theorem Vz m b a(i:anL m b a) c d e f h:e86 jn m anJ [b] (nY c d e f h)=sJ m (i87 m) a c d e f h:=
 tre (g:=fun J=>jj J 1 4 b (nY c d (wrap .i64 (e+1)) f h) (l86 J m KY [] b)) (fun J=>by kernel_rfl) (by simp only[ay,i];rfl)
theorem VA m c a(j:anL m c a) d f e h i:e86 jn m agz [c] (nY d f e h i)=sK m (i87 m) a d f e h i:=
 tre (g:=fun J=>(idx d e).bind fun k=>(i87 m k h i).bind fun b=>cond (!b.1) (some (b.2.1,b.2.2)) (jj J 0 7 0 (nY d f e b.2.1 b.2.2) (e86 J m anJ [c]))) (fun J=>by kernel_rfl) (by simp only[ay,Vz m c a j];rfl)
theorem Eo m:∀a f b c d e,l86 jn m KY [] a (nY f b c d e)=oH m (i87 m) a f b c d e
 |0,_,_,_,_,_=>rfl
 |a+1,f,b,c,d,e=>
  trl (g:=fun J=>cond (c<b) (jj J 0 5 0 (nY f b c d e) (e86 J m agz [a])) (some (d,e))) (fun J=>by kernel_rfl) (by simp only[ay,VA m a (oH m (i87 m) a) (Eo m a)];rfl)
theorem VB m a b c d e:e86 jn m agx [] (nY a b c d e)=sM m (i87 m) a b c d e:=
 tre (g:=fun J=>jj J 1 4 (succ m) (nY a b c d e) (l86 J m KY [] (succ m))) (fun J=>by kernel_rfl) (by simp only[ay,Eo m];rfl)
abbrev anM(m g:Nat)(a:List Dt->Int->Int->Int->Int->Option (Int×Int)):Prop:=∀b c d e f,l86 jn m KZ [] g (nZ b c d e f)=a b c d e f
theorem VD m b a(i:anM m b a) c d e f h:e86 jn m anK [b] (nZ c d e f h)=sN m (i87 m) a c d e f h:=
 tre (g:=fun J=>jj J 1 10 b (nZ c d (wrap .i64 (e+1)) f h) (l86 J m KZ [] b)) (fun J=>by kernel_rfl) (by simp only[ay,i];rfl)
theorem VE m c a(j:anM m c a) d f e h i:e86 jn m agA [c] (nZ d f e h i)=sO m (i87 m) a d f e h i:=
 tre (g:=fun J=>(idx d e).bind fun k=>(i87 m (fld k 1) h i).bind fun b=>cond (!b.1) (some (b.2.1,b.2.2)) (jj J 0 13 0 (nZ d f e b.2.1 b.2.2) (e86 J m anK [c]))) (fun J=>by kernel_rfl) (by simp only[ay,VD m c a j];rfl)
theorem Ep m:∀a f b c d e,l86 jn m KZ [] a (nZ f b c d e)=oJ m (i87 m) a f b c d e
 |0,_,_,_,_,_=>rfl
 |a+1,f,b,c,d,e=>
  trl (g:=fun J=>cond (c<b) (jj J 0 11 0 (nZ f b c d e) (e86 J m agA [a])) (some (d,e))) (fun J=>by kernel_rfl) (by simp only[ay,VE m a (oJ m (i87 m) a) (Ep m a)];rfl)
theorem VF m a b c d e:e86 jn m agy [] (nZ a b c d e)=sP m (i87 m) a b c d e:=
 tre (g:=fun J=>jj J 1 10 (succ m) (nZ a b c d e) (l86 J m KZ [] (succ m))) (fun J=>by kernel_rfl) (by simp only[ay,Ep m];rfl)
theorem ari m a b c:e86 jn m [] [] ⟨[(.dat 26 a),(.fn 236 [(.ptr 0 [] 0),(.ptr 1 [] 0)])],[(.box 3 (.dat 3 (.int b))),(.box 3 (.dat 3 (.int c)))],2⟩=i86 (m+1) a b c:=
 tre (g:=fun J=>cond (I a 0==6) (jj J 0 4 0 (nY (L a 3) ((L a 3).length:Int) 0 b c) (e86 J m agx [])) (cond (I a 0==5) (jj J 0 10 0 (nZ (L a 4) ((L a 4).length:Int) 0 b c) (e86 J m agy [])) (some (b,c)))) (fun J=>by kernel_rfl) (by simp only[ay,VB m,VF m];rfl)
noncomputable def e87(J:Nat->Nat->Nat->St->Option (Bool×Int×Int)->Option (Bool×Int×Int))(m:Nat)(p ms:List Nat)(σ:St):=evAt Tryz.prog env (ct m) J (m+1) 236 15 Tryz.f236 d85 p ms σ
theorem arj m d a b:e87 jn m [] [] ⟨[(.dat 26 d),(.ptr 0 [] 0),(.ptr 1 [] 0)],[(.box 3 (.dat 3 (.int a))),(.box 3 (.dat 3 (.int b)))],2⟩=i87 (m+1) d a b:=
 tre (g:=fun J=>(zT m d (wrap .i64 (b-1))).bind fun c=>some (decide (cond (a<c) c a<wrap .i64 (b-1)),cond (a<c) c a,b)) (fun J=>by kernel_rfl) (by rfl)
noncomputable def e64(J:Nat->Nat->Nat->St->Option Int->Option Int)(m:Nat)(p ms:List Nat)(σ:St):=evAt Tryz.prog env (ct m) J (m+1) 170 5 Tryz.f170 d36 p ms σ
theorem auF m a:e64 jn m [] [] ⟨[(.dat 26 a)],[],0⟩=yD (m+1) a:=
 tre (g:=fun J=>(zT m a 17).bind fun b=>some b) (fun J=>by kernel_rfl) (by rfl)
def Rj:List Nat:=[1,1,0,1,0]
def agB:List Nat:=[1,1,0,1,0,0,1]
def anN:List Nat:=agB++[1]
noncomputable def e78(J:Nat->Nat->Nat->St->Option Int->Option Int)(m:Nat)(p ms:List Nat)(σ:St):=evAt Tryz.prog env (ct m) J (m+1) 240 14 Tryz.f240 d36 p ms σ
noncomputable def l78(J:Nat->Nat->Nat->St->Option Int->Option Int)(m:Nat)(p ms:List Nat)(M:Nat)(σ:St):=loopAt Tryz.prog env (ct m) J (m+1) 240 14 Tryz.f240 d36 p ms M σ
noncomputable def og(a b:Int):St:=⟨tsOf [(3,(.dat 3 (.int a))),(4,(.dat 215 (.int b)))],[],0⟩
noncomputable def anO(a:Int):St:=⟨tsOf [(3,(.dat 3 (.int a)))],[],0⟩
abbrev anP(m d:Nat)(a:Int->Int->Option Int):Prop:=∀b c,l78 jn m Rj [] d (og b c)=a b c
theorem agC m b a(e:anP m b a) c d:e78 jn m anN [b] (og c d)=Xn m a c d:=
 tre (g:=fun J=>jj J 1 3 b (og c (shrI IntKind.u64 d 7)) (l78 J m Rj [] b)) (fun J=>by kernel_rfl) (by simp only[ay,e];rfl)
theorem agD m b a(e:anP m b a) c d:e78 jn m agB [b] (og c d)=Xo m a c d:=
 tre (g:=fun J=>jj J 0 4 0 (og (wrap .i64 (c+1)) d) (e78 J m anN [b])) (fun J=>by kernel_rfl) (by simp only[ay,agC m b a e];rfl)
theorem agE m a:e78 jn m [1,1,1] [] (anO a)=ak7 m a:=
 tre (g:=fun J=>some a) (fun J=>by kernel_rfl) (by rfl)
theorem K3 m:∀a b c,l78 jn m Rj [] a (og b c)=wX m a b c
 |0,_,_=>rfl
 |a+1,b,c=>
  trl (g:=fun J=>cond (128<=c) (jj J 0 5 0 (og b c) (e78 J m agB [a])) (jj J 0 6 0 (anO b) (e78 J m [1,1,1] []))) (fun J=>by kernel_rfl) (by simp only[ay,agD m a (wX m a) (K3 m a),agE m];rfl)
theorem agF m a b:e78 jn m [1,1,0,1] [] (og a b)=Xp m a b:=
 tre (g:=fun J=>jj J 1 3 (succ m) (og a b) (l78 J m Rj [] (succ m))) (fun J=>by kernel_rfl) (by simp only[ay,K3 m];rfl)
theorem auG m a:e78 jn m [] [] ⟨[(.dat 3 (.int a))],[],0⟩=qX (m+1) a:=
 tre (g:=fun J=>(zX m a).bind fun b=>jj J 0 3 0 (og 1 b) (e78 J m [1,1,0,1] [])) (fun J=>by kernel_rfl) (by simp only[ay,agF m];rfl)
def Rk:List Nat:=[1,1,0,1,0,1]
def K4:List Nat:=Rk++[1,1,1,1]
def agG:List Nat:=K4++[1,1,1,1,0,1,1]
def K6:List Nat:=agG++[0]
def agH:List Nat:=K4++[1,1,1,1,1,1,0,1,1]
def K7:List Nat:=agH++[0]
def agI:List Nat:=K6++[0,1,1]
def anQ:List Nat:=agI++[1]
def agJ:List Nat:=K7++[0,1,1]
def anR:List Nat:=agJ++[1]
noncomputable def e66(J:Nat->Nat->Nat->St->Option Int->Option Int)(m:Nat)(p ms:List Nat)(σ:St):=evAt Tryz.prog env (ct m) J (m+1) 228 93 Tryz.f228 d36 p ms σ
noncomputable def l66(J:Nat->Nat->Nat->St->Option Int->Option Int)(m:Nat)(p ms:List Nat)(M:Nat)(σ:St):=loopAt Tryz.prog env (ct m) J (m+1) 228 93 Tryz.f228 d36 p ms M σ
noncomputable def vR(a:Int):St:=⟨tsOf [(3,(.dat 3 (.int a)))],[],0⟩
noncomputable def oh(a:Int)(b:List Dt)(c d:Int):St:=⟨tsOf [(3,(.dat 3 (.int a))),(51,(.dat 23 (.lst b))),(52,(.dat 3 (.int c))),(53,(.dat 3 (.int d)))],[],0⟩
noncomputable def jo(a:Int)(b:List Dt)(c d:Int):St:=⟨tsOf [(3,(.dat 3 (.int a))),(71,(.dat 24 (.lst b))),(72,(.dat 3 (.int c))),(73,(.dat 3 (.int d)))],[],0⟩
noncomputable def agK(a b:Int)(c:Bool)(d:Dt):St:=⟨tsOf [(1,(.ptr 0 [] 0)),(3,(.dat 3 (.int a))),(9,(.dat 3 (.int b))),(22,(.dat 4 (.bool c)))],[(.box 26 (.dat 26 d))],0⟩
noncomputable def agL(a b:Int)(c:Bool)(d:Dt):St:=⟨tsOf [(1,(.ptr 0 [] 0)),(3,(.dat 3 (.int a))),(9,(.dat 3 (.int b))),(10,(.dat 4 (.bool c)))],[(.box 26 (.dat 26 d))],0⟩
theorem rV m a:e66 jn m [1,1,1] [] (vR a)=jw m (qH m) a:=
 tre (g:=fun J=>some a) (fun J=>by kernel_rfl) (by rfl)
abbrev anS(m f:Nat)(a:Int->List Dt->Int->Int->Option Int):Prop:=∀b c d e,l66 jn m K6 [] f (oh b c d e)=a b c d e
theorem agM m b a(h:anS m b a) c d e f:e66 jn m anQ [b] (oh c d e f)=wY m (qH m) a c d e f:=
 tre (g:=fun J=>jj J 1 16 b (oh c d e (wrap .i64 (f+1))) (l66 J m K6 [] b)) (fun J=>by kernel_rfl) (by simp only[ay,h];rfl)
theorem agN m b a(h:anS m b a) e c f d:e66 jn m agI [b] (oh e c f d)=wZ m (qH m) a e c f d:=
 tre (g:=fun J=>(idx c d).bind fun i=>(qH m i).bind fun j=>jj J 0 19 0 (oh (wrap .i64 (e+j)) c f d) (e66 J m anQ [b])) (fun J=>by kernel_rfl) (by simp only[ay,agM m b a h];rfl)
theorem K8 m:∀a b e c d,l66 jn m K6 [] a (oh b e c d)=Ch m (qH m) a b e c d
 |0,_,_,_,_=>rfl
 |a+1,b,e,c,d=>
  trl (g:=fun J=>cond (d<c) (jj J 0 17 0 (oh b e c d) (e66 J m agI [a])) (jj J 0 27 0 (vR b) (e66 J m [1,1,1] []))) (fun J=>by kernel_rfl) (by simp only[ay,agN m a (Ch m (qH m) a) (K8 m a),rV m];rfl)
theorem agO m a b c d:e66 jn m agG [] (oh a b c d)=w9 m (qH m) a b c d:=
 tre (g:=fun J=>jj J 1 16 (succ m) (oh a b c d) (l66 J m K6 [] (succ m))) (fun J=>by kernel_rfl) (by simp only[ay,K8 m];rfl)
abbrev anT(m f:Nat)(a:Int->List Dt->Int->Int->Option Int):Prop:=∀b c d e,l66 jn m K7 [] f (jo b c d e)=a b c d e
theorem VG m b a(h:anT m b a) c d e f:e66 jn m anR [b] (jo c d e f)=oK m (qH m) a c d e f:=
 tre (g:=fun J=>jj J 1 23 b (jo c d e (wrap .i64 (f+1))) (l66 J m K7 [] b)) (fun J=>by kernel_rfl) (by simp only[ay,h];rfl)
theorem agP m b a(i:anT m b a) e c f d:e66 jn m agJ [b] (jo e c f d)=xg m (qH m) a e c f d:=
 tre (g:=fun J=>(idx c d).bind fun h=>(qX m ((S h 0).size:Int)).bind fun j=>(qH m (fld h 1)).bind fun k=>jj J 0 26 0 (jo (wrap .i64 (e+wrap .i64 (wrap .i64 (j+((S h 0).size:Int))+k))) c f d) (e66 J m anR [b])) (fun J=>by kernel_rfl) (by simp only[ay,VG m b a i];rfl)
theorem K9 m:∀a b e c d,l66 jn m K7 [] a (jo b e c d)=Ci m (qH m) a b e c d
 |0,_,_,_,_=>rfl
 |a+1,b,e,c,d=>
  trl (g:=fun J=>cond (d<c) (jj J 0 24 0 (jo b e c d) (e66 J m agJ [a])) (jj J 0 27 0 (vR b) (e66 J m [1,1,1] []))) (fun J=>by kernel_rfl) (by simp only[ay,agP m a (Ci m (qH m) a) (K9 m a),rV m];rfl)
theorem agQ m a b c d:e66 jn m agH [] (jo a b c d)=xk m (qH m) a b c d:=
 tre (g:=fun J=>jj J 1 23 (succ m) (jo a b c d) (l66 J m K7 [] (succ m))) (fun J=>by kernel_rfl) (by simp only[ay,K9 m];rfl)
theorem agR m b c d a:e66 jn m K4 [] (agK b c d a)=uU m (qH m) b c d a:=
 tre (g:=fun J=>cond d ((qX m ((S a 2).size:Int)).bind fun e=>jj J 0 27 0 (vR (wrap .i64 (b+wrap .i64 (e+((S a 2).size:Int))))) (e66 J m [1,1,1] [])) (cond (c==8) (jj J 0 27 0 (vR (wrap .i64 (b+((S a 2).size:Int)))) (e66 J m [1,1,1] [])) (cond (c==6) ((qX m ((L a 3).length:Int)).bind fun f=>jj J 0 16 0 (oh (wrap .i64 (b+f)) (L a 3) ((L a 3).length:Int) 0) (e66 J m agG [])) (cond (c==5) ((qX m ((L a 4).length:Int)).bind fun h=>jj J 0 23 0 (jo (wrap .i64 (b+h)) (L a 4) ((L a 4).length:Int) 0) (e66 J m agH [])) (jj J 0 27 0 (vR b) (e66 J m [1,1,1] [])))))) (fun J=>by kernel_rfl) (by simp only[ay,rV m,agO m,agQ m];rfl)
theorem agS m b a d c:e66 jn m Rk [] (agL b a d c)=uV m (qH m) b a d c:=
 tre (g:=fun J=>cond d ((qX m (I c 1)).bind fun e=>jj J 0 27 0 (vR (wrap .i64 (b+e))) (e66 J m [1,1,1] [])) (cond (a==9) (jj J 0 27 0 (vR (wrap .i64 (b+1))) (e66 J m [1,1,1] [])) (cond (a==4) (jj J 0 10 0 (agK b a (a==4) c) (e66 J m K4 [])) (jj J 0 10 0 (agK b a (a==7) c) (e66 J m K4 []))))) (fun J=>by kernel_rfl) (by simp only[ay,rV m,agR m];rfl)
theorem auH m a:e66 jn m [] [] ⟨[(.dat 26 a)],[],0⟩=qH (m+1) a:=
 tre (g:=fun J=>cond (I a 0==3) (jj J 0 5 0 (agL 1 (I a 0) (I a 0==3) a) (e66 J m Rk [])) (jj J 0 5 0 (agL 1 (I a 0) (I a 0==10) a) (e66 J m Rk []))) (fun J=>by kernel_rfl) (by simp only[ay,agS m];rfl)
noncomputable def e79(J:Nat->Nat->Nat->St->Option Bool->Option Bool)(m:Nat)(p ms:List Nat)(σ:St):=evAt Tryz.prog env (ct m) J (m+1) 128 6 Tryz.f128 d8 p ms σ
theorem auI m a:e79 jn m [] [] ⟨[(.dat 3 (.int a))],[],0⟩=yF (m+1) a:=
 tre (g:=fun J=>some (a !=a)) (fun J=>by kernel_rfl) (by rfl)
def anU:List Nat:=[1,1,1,1,1]
def agT:List Nat:=[1,1,1,1,1,1]
def anV:List Nat:=[1,1,1,0,1,0,1]
def anW:List Nat:=agT++[1]
noncomputable def e67(J:Nat->Nat->Nat->St->Option Int->Option Int)(m:Nat)(p ms:List Nat)(σ:St):=evAt Tryz.prog env (ct m) J (m+1) 86 20 Tryz.f86 d36 p ms σ
noncomputable def Rl:St:=⟨tsOf [],[],0⟩
noncomputable def Rm(a b:Int):St:=⟨tsOf [(0,(.dat 3 (.int a))),(1,(.dat 3 (.int b)))],[],0⟩
noncomputable def anX(a b:Int)(c:Bool):St:=⟨tsOf [(0,(.dat 3 (.int a))),(1,(.dat 3 (.int b))),(6,(.dat 4 (.bool c)))],[],0⟩
theorem agU m:e67 jn m anV [] Rl=Xq m:=
 tre (g:=fun J=>some (-1)) (fun J=>by kernel_rfl) (by rfl)
theorem agV m:e67 jn m anW [] Rl=Xr m:=
 tre (g:=fun J=>some 0) (fun J=>by kernel_rfl) (by rfl)
theorem agW m a b:e67 jn m agT [] (Rm a b)=Xt m a b:=
 tre (g:=fun J=>cond (b<a) (some 1) (jj J 0 13 0 Rl (e67 J m anW []))) (fun J=>by kernel_rfl) (by simp only[ay,agV m];rfl)
theorem agX m a b:e67 jn m anU [] (Rm a b)=Xu m a b:=
 tre (g:=fun J=>cond (a<b) (some (-1)) (jj J 0 11 0 (Rm a b) (e67 J m agT []))) (fun J=>by kernel_rfl) (by simp only[ay,agW m];rfl)
theorem agY m a b c:e67 jn m [1,1,1,1] [] (anX a b c)=Xv m a b c:=
 tre (g:=fun J=>cond c (some 1) (jj J 0 9 0 (Rm a b) (e67 J m anU []))) (fun J=>by kernel_rfl) (by simp only[ay,agX m];rfl)
theorem auJ m a b:e67 jn m [] [] ⟨[(.dat 3 (.int a)),(.dat 3 (.int b))],[],0⟩=zF (m+1) a b:=
 tre (g:=fun J=>(yF m a).bind fun d=>(yF m b).bind fun c=>cond d (cond c (some 0) (jj J 0 6 0 Rl (e67 J m anV []))) (jj J 0 7 0 (anX a b c) (e67 J m [1,1,1,1] []))) (fun J=>by kernel_rfl) (by simp only[ay,agU m,agY m];rfl)
def Bb:List Nat:=[1,1,0,1,0,1]
def lQ:List Nat:=Bb++[1,1]
def anY:List Nat:=lQ++[1,1,0,1]
def agZ:List Nat:=lQ++[1,1,0,0,1]
def La:List Nat:=agZ++[0]
def anZ:List Nat:=lQ++[1,1,1,1,0,1]
def Od:List Nat:=lQ++[1,1,1,1,0,0,1]
def Lb:List Nat:=Od++[0]
def ag0:List Nat:=La++[0,1,1]
def an0:List Nat:=ag0++[1]
def Rn:List Nat:=Lb++[0,1,1]
def an1:List Nat:=Rn++[1]
def an2:List Nat:=Rn++[0,0,1,1]
noncomputable def e51(J:Nat->Nat->Nat->St->Option Int->Option Int)(m:Nat)(p ms:List Nat)(σ:St):=evAt Tryz.prog env (ct m) J (m+1) 45 126 Tryz.f45 d36 p ms σ
noncomputable def l51(J:Nat->Nat->Nat->St->Option Int->Option Int)(m:Nat)(p ms:List Nat)(M:Nat)(σ:St):=loopAt Tryz.prog env (ct m) J (m+1) 45 126 Tryz.f45 d36 p ms M σ
noncomputable def om(a b:Int)(c d:Dt):St:=⟨tsOf [(2,(.ptr 0 [] 0)),(3,(.ptr 1 [] 0)),(48,(.dat 3 (.int a))),(49,(.dat 3 (.int b)))],[(.box 26 (.dat 26 c)),(.box 26 (.dat 26 d))],0⟩
noncomputable def Er(a b:Dt):St:=⟨tsOf [(2,(.ptr 0 [] 0)),(3,(.ptr 1 [] 0))],[(.box 26 (.dat 26 a)),(.box 26 (.dat 26 b))],0⟩
noncomputable def jr(a b:Int)(c d:Dt):St:=⟨tsOf [(2,(.ptr 0 [] 0)),(3,(.ptr 1 [] 0)),(82,(.dat 3 (.int a))),(83,(.dat 3 (.int b)))],[(.box 26 (.dat 26 c)),(.box 26 (.dat 26 d))],0⟩
noncomputable def ag1(a b c:Int)(d e:Dt):St:=⟨tsOf [(2,(.ptr 0 [] 0)),(3,(.ptr 1 [] 0)),(7,(.dat 3 (.int a))),(82,(.dat 3 (.int b))),(83,(.dat 3 (.int c)))],[(.box 26 (.dat 26 d)),(.box 26 (.dat 26 e))],0⟩
noncomputable def ag2:St:=⟨tsOf [],[],0⟩
noncomputable def Ro(a:Int)(b:Bool)(c d:Dt):St:=⟨tsOf [(2,(.ptr 0 [] 0)),(3,(.ptr 1 [] 0)),(21,(.dat 3 (.int a))),(31,(.dat 4 (.bool b)))],[(.box 26 (.dat 26 c)),(.box 26 (.dat 26 d))],0⟩
noncomputable def Rp(a:Int)(b:Bool)(c d:Dt):St:=⟨tsOf [(2,(.ptr 0 [] 0)),(3,(.ptr 1 [] 0)),(21,(.dat 3 (.int a))),(22,(.dat 4 (.bool b)))],[(.box 26 (.dat 26 c)),(.box 26 (.dat 26 d))],0⟩
abbrev an3(m f:Nat)(a:Int->Int->Dt->Dt->Option Int):Prop:=∀b c d e,l51 jn m La [] f (om b c d e)=a b c d e
theorem ag3 m b a(h:an3 m b a) c d e f:e51 jn m an0 [b] (om c d e f)=Xw m (qF m) a c d e f:=
 tre (g:=fun J=>jj J 1 14 b (om c (wrap .i64 (d+1)) e f) (l51 J m La [] b)) (fun J=>by kernel_rfl) (by simp only[ay,h];rfl)
theorem ag4 m c a(i:an3 m c a) f b d e:e51 jn m ag0 [c] (om f b d e)=Xx m (qF m) a f b d e:=
 tre (g:=fun J=>(idx (L d 3) b).bind fun j=>(idx (L e 3) b).bind fun k=>(qF m j k).bind fun h=>cond (h !=0) (some h) (jj J 0 19 0 (om f b d e) (e51 J m an0 [c]))) (fun J=>by kernel_rfl) (by simp only[ay,ag3 m c a i];rfl)
theorem ag5 m a b:e51 jn m anY [] (Er a b)=Xy m (qF m) a b:=
 tre (g:=fun J=>(zF m ((L a 3).length:Int) ((L b 3).length:Int)).bind fun c=>some c) (fun J=>by kernel_rfl) (by rfl)
theorem Lc m:∀a b c d e,l51 jn m La [] a (om b c d e)=Cj m (qF m) a b c d e
 |0,_,_,_,_=>rfl
 |a+1,b,c,d,e=>
  trl (g:=fun J=>cond (c<b) (jj J 0 15 0 (om b c d e) (e51 J m ag0 [a])) (jj J 0 20 0 (Er d e) (e51 J m anY []))) (fun J=>by kernel_rfl) (by simp only[ay,ag4 m a (Cj m (qF m) a) (Lc m a),ag5 m];rfl)
theorem ag6 m a b c d:e51 jn m agZ [] (om a b c d)=OG m (qF m) a b c d:=
 tre (g:=fun J=>jj J 1 14 (succ m) (om a b c d) (l51 J m La [] (succ m))) (fun J=>by kernel_rfl) (by simp only[ay,Lc m];rfl)
abbrev ag7(m f:Nat)(a:Int->Int->Dt->Dt->Option Int):Prop:=∀b c d e,l51 jn m Lb [] f (jr b c d e)=a b c d e
theorem VH m b a(h:ag7 m b a) c d e f:e51 jn m an1 [b] (jr c d e f)=Mr m (qF m) a c d e f:=
 tre (g:=fun J=>jj J 1 23 b (jr c (wrap .i64 (d+1)) e f) (l51 J m Lb [] b)) (fun J=>by kernel_rfl) (by simp only[ay,h];rfl)
theorem VI m c a(l:ag7 m c a) d h i e f:e51 jn m an2 [c] (ag1 d h i e f)=Mt m (qF m) a d h i e f:=
 tre (g:=fun J=>(idx (L e 4) d).bind fun j=>(idx (L f 4) d).bind fun k=>(qF m (fld j 1) (fld k 1)).bind fun b=>cond (b !=0) (some b) (jj J 0 31 0 (jr h i e f) (e51 J m an1 [c]))) (fun J=>by kernel_rfl) (by simp only[ay,VH m c a l];rfl)
theorem VJ m c a(i:ag7 m c a) f b d e:e51 jn m Rn [c] (jr f b d e)=Mw m (qF m) a f b d e:=
 tre (g:=fun J=>(idx (L d 4) b).bind fun j=>(idx (L e 4) b).bind fun k=>(strings_Compare (S j 0) (S k 0)).bind fun h=>cond (h !=0) (some h) (jj J 0 28 0 (ag1 b f b d e) (e51 J m an2 [c]))) (fun J=>by kernel_rfl) (by simp only[ay,VI m c a i];rfl)
theorem VK m a b:e51 jn m anZ [] (Er a b)=Mx m (qF m) a b:=
 tre (g:=fun J=>(zF m ((L a 4).length:Int) ((L b 4).length:Int)).bind fun c=>some c) (fun J=>by kernel_rfl) (by rfl)
theorem Ld m:∀a b c d e,l51 jn m Lb [] a (jr b c d e)=Ck m (qF m) a b c d e
 |0,_,_,_,_=>rfl
 |a+1,b,c,d,e=>
  trl (g:=fun J=>cond (c<b) (jj J 0 24 0 (jr b c d e) (e51 J m Rn [a])) (jj J 0 32 0 (Er d e) (e51 J m anZ []))) (fun J=>by kernel_rfl) (by simp only[ay,VJ m a (Ck m (qF m) a) (Ld m a),VK m];rfl)
theorem ag8 m a b c d:e51 jn m Od [] (jr a b c d)=OH m (qF m) a b c d:=
 tre (g:=fun J=>jj J 1 23 (succ m) (jr a b c d) (l51 J m Lb [] (succ m))) (fun J=>by kernel_rfl) (by simp only[ay,Ld m];rfl)
theorem VL m:e51 jn m [1,1,1] [] ag2=MB m (qF m):=
 tre (g:=fun J=>some 0) (fun J=>by kernel_rfl) (by rfl)
theorem ag9 m c d a b:e51 jn m lQ [] (Ro c d a b)=GH m (qF m) c d a b:=
 tre (g:=fun J=>cond d ((strings_Compare (S a 2) (S b 2)).bind fun e=>some e) (cond (c==6) (jj J 0 14 0 (om (cond (((L b 3).length:Int)<((L a 3).length:Int)) ((L b 3).length:Int) ((L a 3).length:Int)) 0 a b) (e51 J m agZ [])) (cond (c==5) (jj J 0 23 0 (jr (cond (((L b 4).length:Int)<((L a 4).length:Int)) ((L b 4).length:Int) ((L a 4).length:Int)) 0 a b) (e51 J m Od [])) (jj J 0 33 0 ag2 (e51 J m [1,1,1] []))))) (fun J=>by kernel_rfl) (by simp only[ay,ag6 m,ag8 m,VL m];rfl)
theorem aha m a d b c:e51 jn m Bb [] (Rp a d b c)=GI m (qF m) a d b c:=
 tre (g:=fun J=>cond d ((zF m (I b 1) (I c 1)).bind fun e=>some e) (cond (a==4) (jj J 0 11 0 (Ro a (a==4) b c) (e51 J m lQ [])) (cond (a==7) (jj J 0 11 0 (Ro a (a==7) b c) (e51 J m lQ [])) (jj J 0 11 0 (Ro a (a==8) b c) (e51 J m lQ []))))) (fun J=>by kernel_rfl) (by simp only[ay,ag9 m];rfl)
theorem ahb m a b:e51 jn m [1,1] [] (Er a b)=GJ m (qF m) a b:=
 tre (g:=fun J=>cond (I a 0==3) (jj J 0 7 0 (Rp (I a 0) (I a 0==3) a b) (e51 J m Bb [])) (cond (I a 0==9) (jj J 0 7 0 (Rp (I a 0) (I a 0==9) a b) (e51 J m Bb [])) (jj J 0 7 0 (Rp (I a 0) (I a 0==10) a b) (e51 J m Bb [])))) (fun J=>by kernel_rfl) (by simp only[ay,aha m];rfl)
theorem auK m a b:e51 jn m [] [] ⟨[(.dat 26 a),(.dat 26 b)],[],0⟩=qF (m+1) a b:=
 tre (g:=fun J=>cond (I a 0 !=I b 0) ((zF m (I a 0) (I b 0)).bind fun c=>some c) (jj J 0 3 0 (Er a b) (e51 J m [1,1] []))) (fun J=>by kernel_rfl) (by simp only[ay,ahb m];rfl)
noncomputable def e28(J:Nat->Nat->Nat->St->Option Bool->Option Bool)(m:Nat)(p ms:List Nat)(σ:St):=evAt Tryz.prog env (ct m) J (m+1) 141 9 Tryz.f141 d8 p ms σ
theorem auL m a b:e28 jn m [] [] ⟨[(.dat 26 a),(.dat 26 b)],[],0⟩=yB (m+1) a b:=
 tre (g:=fun J=>(qF m a b).bind fun c=>some (c==0)) (fun J=>by kernel_rfl) (by rfl)
def ahc:List Nat:=[1,1,0,1,0,1]
def Le:List Nat:=ahc++[0]
def ahd:List Nat:=[1,1,1,0,1,0,1]
def Lf:List Nat:=ahd++[0]
def ahe:List Nat:=Le++[0,1]
def an4:List Nat:=ahe++[1]
def ahf:List Nat:=Lf++[0,1]
def an5:List Nat:=ahf++[1]
noncomputable def e80(J:Nat->Nat->Nat->St->Option (List Dt)->Option (List Dt))(m:Nat)(p ms:List Nat)(σ:St):=evAt Tryz.prog env (ct m) J (m+1) 133 44 Tryz.f133 d80 p ms σ
noncomputable def l80(J:Nat->Nat->Nat->St->Option (List Dt)->Option (List Dt))(m:Nat)(p ms:List Nat)(M:Nat)(σ:St):=loopAt Tryz.prog env (ct m) J (m+1) 133 44 Tryz.f133 d80 p ms M σ
noncomputable def oo(a:Int)(b:Dt)(c:List Dt):St:=⟨tsOf [(1,(.ptr 0 [] 0)),(3,(.row 1)),(4,(.dat 3 (.int a)))],[(.box 26 (.dat 26 b)),(.row 23 c)],0⟩
noncomputable def oq(a:Int)(b:Dt)(c:List Dt):St:=⟨tsOf [(1,(.ptr 0 [] 0)),(3,(.row 1)),(5,(.dat 3 (.int a)))],[(.box 26 (.dat 26 b)),(.row 23 c)],0⟩
noncomputable def ahg(a:List Dt):St:=⟨tsOf [(3,(.row 0))],[(.row 23 a)],0⟩
noncomputable def ahh(a:Dt)(b:List Dt):St:=⟨tsOf [(1,(.ptr 0 [] 0)),(3,(.row 1))],[(.box 26 (.dat 26 a)),(.row 23 b)],0⟩
abbrev an6(m e:Nat)(a:Int->Dt->List Dt->Option (List Dt)):Prop:=∀b c d,l80 jn m Le [] e (oo b c d)=a b c d
theorem ahi m b a(f:an6 m b a) c d e:e80 jn m an4 [b] (oo c d e)=Xz m a c d e:=
 tre (g:=fun J=>jj J 1 4 b (oo (wrap .i64 (c+1)) d e) (l80 J m Le [] b)) (fun J=>by kernel_rfl) (by simp only[ay,f];rfl)
theorem ahj m b a(f:an6 m b a) c d e:e80 jn m ahe [b] (oo c d e)=XA m a c d e:=
 tre (g:=fun J=>(idx (L d 3) c).bind fun h=>(app e [h]).bind fun i=>jj J 0 5 0 (oo c d i) (e80 J m an4 [b])) (fun J=>by kernel_rfl) (by simp only[ay,ahi m b a f];rfl)
abbrev an7(m e:Nat)(a:Int->Dt->List Dt->Option (List Dt)):Prop:=∀b c d,l80 jn m Lf [] e (oq b c d)=a b c d
theorem ahk m b a(f:an7 m b a) c d e:e80 jn m an5 [b] (oq c d e)=XB m a c d e:=
 tre (g:=fun J=>jj J 1 9 b (oq (wrap .i64 (c+1)) d e) (l80 J m Lf [] b)) (fun J=>by kernel_rfl) (by simp only[ay,f];rfl)
theorem ahl m b a(f:an7 m b a) c d e:e80 jn m ahf [b] (oq c d e)=XC m a c d e:=
 tre (g:=fun J=>(idx (L d 4) c).bind fun h=>(app e [fld h 1]).bind fun i=>jj J 0 10 0 (oq c d i) (e80 J m an5 [b])) (fun J=>by kernel_rfl) (by simp only[ay,ahk m b a f];rfl)
theorem Lg m a:e80 jn m [1,1,1,1] [] (ahg a)=GK m a:=
 tre (g:=fun J=>some a) (fun J=>by kernel_rfl) (by rfl)
theorem Lh m:∀a b c d,l80 jn m Lf [] a (oq b c d)=xq m a b c d
 |0,_,_,_=>rfl
 |a+1,b,c,d=>
  trl (g:=fun J=>cond (b<((L c 4).length:Int)) (jj J 0 11 0 (oq b c d) (e80 J m ahf [a])) (jj J 0 12 0 (ahg d) (e80 J m [1,1,1,1] []))) (fun J=>by kernel_rfl) (by simp only[ay,ahl m a (xq m a) (Lh m a),Lg m];rfl)
theorem ahm m a b c:e80 jn m ahd [] (oq a b c)=XD m a b c:=
 tre (g:=fun J=>jj J 1 9 (succ m) (oq a b c) (l80 J m Lf [] (succ m))) (fun J=>by kernel_rfl) (by simp only[ay,Lh m];rfl)
theorem Li m a b:e80 jn m [1,1,1] [] (ahh a b)=Cm m a b:=
 tre (g:=fun J=>cond (I a 0==5) (jj J 0 9 0 (oq 0 a b) (e80 J m ahd [])) (jj J 0 12 0 (ahg b) (e80 J m [1,1,1,1] []))) (fun J=>by kernel_rfl) (by simp only[ay,ahm m,Lg m];rfl)
theorem Lj m:∀a c b d,l80 jn m Le [] a (oo c b d)=xu m a c b d
 |0,_,_,_=>rfl
 |a+1,c,b,d=>
  trl (g:=fun J=>cond (c<((L b 3).length:Int)) (jj J 0 6 0 (oo c b d) (e80 J m ahe [a])) (jj J 0 7 0 (ahh b d) (e80 J m [1,1,1] []))) (fun J=>by kernel_rfl) (by simp only[ay,ahj m a (xu m a) (Lj m a),Li m];rfl)
theorem ahn m a b c:e80 jn m ahc [] (oo a b c)=XE m a b c:=
 tre (g:=fun J=>jj J 1 4 (succ m) (oo a b c) (l80 J m Le [] (succ m))) (fun J=>by kernel_rfl) (by simp only[ay,Lj m];rfl)
theorem auM m a:e80 jn m [] [] ⟨[(.dat 26 a)],[],0⟩=qQ (m+1) a:=
 tre (g:=fun J=>cond (I a 0==6) (jj J 0 4 0 (oo 0 a []) (e80 J m ahc [])) (jj J 0 7 0 (ahh a []) (e80 J m [1,1,1] []))) (fun J=>by kernel_rfl) (by simp only[ay,ahn m,Li m];rfl)
def an8:List Nat:=[1,1,1,1,1]
def aho:List Nat:=[1,1,1,1,0,1]
def Ll:List Nat:=aho++[0]
def ahp:List Nat:=Ll++[0,1]
def an9:List Nat:=ahp++[1]
noncomputable def e69(J:Nat->Nat->Nat->St->Option Int->Option Int)(m:Nat)(p ms:List Nat)(σ:St):=evAt Tryz.prog env (ct m) J (m+1) 92 34 Tryz.f92 d36 p ms σ
noncomputable def l69(J:Nat->Nat->Nat->St->Option Int->Option Int)(m:Nat)(p ms:List Nat)(M:Nat)(σ:St):=loopAt Tryz.prog env (ct m) J (m+1) 92 34 Tryz.f92 d36 p ms M σ
noncomputable def ou(a:Int)(b:List Dt)(c d:Int):St:=⟨tsOf [(1,(.dat 3 (.int a))),(5,(.dat 23 (.lst b))),(6,(.dat 3 (.int c))),(7,(.dat 3 (.int d)))],[],0⟩
noncomputable def aoa(a:Int):St:=⟨tsOf [(6,(.dat 3 (.int a)))],[],0⟩
noncomputable def aob(a:Int)(b:List Dt):St:=⟨tsOf [(1,(.dat 3 (.int a))),(5,(.dat 23 (.lst b)))],[],0⟩
noncomputable def ahq(a:Int)(b:List Dt)(c:Bool):St:=⟨tsOf [(1,(.dat 3 (.int a))),(5,(.dat 23 (.lst b))),(16,(.dat 4 (.bool c)))],[],0⟩
abbrev aoc(m f:Nat)(a:Int->List Dt->Int->Int->Option Int):Prop:=∀b c d e,l69 jn m Ll [] f (ou b c d e)=a b c d e
theorem ahr m b a(h:aoc m b a) c d e f:e69 jn m an9 [b] (ou c d e f)=xw m (qN m) a c d e f:=
 tre (g:=fun J=>jj J 1 6 b (ou c d e (wrap .i64 (f+1))) (l69 J m Ll [] b)) (fun J=>by kernel_rfl) (by simp only[ay,h];rfl)
theorem ahs m b a(i:aoc m b a) c d e f:e69 jn m ahp [b] (ou c d e f)=xA m (qN m) a c d e f:=
 tre (g:=fun J=>(idx d f).bind fun j=>(qN m j (wrap .i64 (c-1))).bind fun h=>jj J 0 7 0 (ou c d (cond (e<h) h e) f) (e69 J m an9 [b])) (fun J=>by kernel_rfl) (by simp only[ay,ahr m b a i];rfl)
theorem aht m a:e69 jn m an8 [] (aoa a)=xB m (qN m) a:=
 tre (g:=fun J=>some (wrap .i64 (a+1))) (fun J=>by kernel_rfl) (by rfl)
theorem Lm m:∀a e b c d,l69 jn m Ll [] a (ou e b c d)=xC m (qN m) a e b c d
 |0,_,_,_,_=>rfl
 |a+1,e,b,c,d=>
  trl (g:=fun J=>cond (d<(b.length:Int)) (jj J 0 8 0 (ou e b c d) (e69 J m ahp [a])) (jj J 0 9 0 (aoa c) (e69 J m an8 []))) (fun J=>by kernel_rfl) (by simp only[ay,ahs m a (xC m (qN m) a) (Lm m a),aht m];rfl)
theorem ahu m a b c d:e69 jn m aho [] (ou a b c d)=xD m (qN m) a b c d:=
 tre (g:=fun J=>jj J 1 6 (succ m) (ou a b c d) (l69 J m Ll [] (succ m))) (fun J=>by kernel_rfl) (by simp only[ay,Lm m];rfl)
theorem ahv m a b:e69 jn m [1,1,1] [] (aob a b)=xE m (qN m) a b:=
 tre (g:=fun J=>jj J 0 6 0 (ou a b 0 0) (e69 J m aho [])) (fun J=>by kernel_rfl) (by simp only[ay,ahu m];rfl)
theorem ahw m a b c:e69 jn m [1,1,0,1] [] (ahq a b c)=uW m (qN m) a b c:=
 tre (g:=fun J=>cond c (some 1) (jj J 0 4 0 (aob a b) (e69 J m [1,1,1] []))) (fun J=>by kernel_rfl) (by simp only[ay,ahv m];rfl)
theorem auN m b a:e69 jn m [] [] ⟨[(.dat 26 b),(.dat 3 (.int a))],[],0⟩=qN (m+1) b a:=
 tre (g:=fun J=>(qQ m b).bind fun c=>cond (a<2) (jj J 0 3 0 (ahq a c true) (e69 J m [1,1,0,1] [])) (jj J 0 3 0 (ahq a c ((c.length:Int)==0)) (e69 J m [1,1,0,1] []))) (fun J=>by kernel_rfl) (by simp only[ay,ahw m];rfl)
noncomputable def e54(J:Nat->Nat->Nat->St->Option Int->Option Int)(m:Nat)(p ms:List Nat)(σ:St):=evAt Tryz.prog env (ct m) J (m+1) 54 5 Tryz.f54 d36 p ms σ
theorem auO m a:e54 jn m [] [] ⟨[(.dat 26 a)],[],0⟩=yA (m+1) a:=
 tre (g:=fun J=>(qN m a 17).bind fun b=>some b) (fun J=>by kernel_rfl) (by rfl)
def aod:List Nat:=[1,1,1,0,1]
def Lp:List Nat:=[1,1,1,0,1,0]
def ahx:List Nat:=Lp++[0,1]
def aoe:List Nat:=ahx++[1]
noncomputable def e70(J:Nat->Nat->Nat->St->Option Int->Option Int)(m:Nat)(p ms:List Nat)(σ:St):=evAt Tryz.prog env (ct m) J (m+1) 93 32 Tryz.f93 d36 p ms σ
noncomputable def l70(J:Nat->Nat->Nat->St->Option Int->Option Int)(m:Nat)(p ms:List Nat)(M:Nat)(σ:St):=loopAt Tryz.prog env (ct m) J (m+1) 93 32 Tryz.f93 d36 p ms M σ
noncomputable def ow(a b:Int)(c:List Dt)(d:Int):St:=⟨tsOf [(1,(.dat 3 (.int a))),(5,(.dat 3 (.int b))),(6,(.dat 23 (.lst c))),(7,(.dat 3 (.int d)))],[],0⟩
noncomputable def ahy(a:Int):St:=⟨tsOf [(5,(.dat 3 (.int a)))],[],0⟩
abbrev aof(m f:Nat)(a:Int->Int->List Dt->Int->Option Int):Prop:=∀b c d e,l70 jn m Lp [] f (ow b c d e)=a b c d e
theorem ahz m b a(h:aof m b a) c d e f:e70 jn m aoe [b] (ow c d e f)=XF m (zB m) a c d e f:=
 tre (g:=fun J=>jj J 1 4 b (ow c d e (wrap .i64 (f+1))) (l70 J m Lp [] b)) (fun J=>by kernel_rfl) (by simp only[ay,h];rfl)
theorem ahA m b a(h:aof m b a) c d e f:e70 jn m ahx [b] (ow c d e f)=XG m (zB m) a c d e f:=
 tre (g:=fun J=>(idx e f).bind fun i=>(zB m i (wrap .i64 (c-d))).bind fun j=>jj J 0 5 0 (ow c (wrap .i64 (d+j)) e f) (e70 J m aoe [b])) (fun J=>by kernel_rfl) (by simp only[ay,ahz m b a h];rfl)
theorem ahB m a:e70 jn m [1,1,1,1] [] (ahy a)=Co m (zB m) a:=
 tre (g:=fun J=>some a) (fun J=>by kernel_rfl) (by rfl)
theorem Lr m:∀a c b d e,l70 jn m Lp [] a (ow c b d e)=Cq m (zB m) a c b d e
 |0,_,_,_,_=>rfl
 |a+1,c,b,d,e=>
  trl (g:=fun J=>cond (e<(d.length:Int)) (cond (b<c) (jj J 0 6 0 (ow c b d e) (e70 J m ahx [a])) (jj J 0 7 0 (ahy b) (e70 J m [1,1,1,1] []))) (jj J 0 7 0 (ahy b) (e70 J m [1,1,1,1] []))) (fun J=>by kernel_rfl) (by simp only[ay,ahA m a (Cq m (zB m) a) (Lr m a),ahB m];rfl)
theorem ahC m a b c d:e70 jn m aod [] (ow a b c d)=OI m (zB m) a b c d:=
 tre (g:=fun J=>jj J 1 4 (succ m) (ow a b c d) (l70 J m Lp [] (succ m))) (fun J=>by kernel_rfl) (by simp only[ay,Lr m];rfl)
theorem auP m a b:e70 jn m [] [] ⟨[(.dat 26 a),(.dat 3 (.int b))],[],0⟩=zB (m+1) a b:=
 tre (g:=fun J=>(qQ m a).bind fun c=>jj J 0 4 0 (ow b 1 c 0) (e70 J m aod [])) (fun J=>by kernel_rfl) (by simp only[ay,ahC m];rfl)
noncomputable def e55(J:Nat->Nat->Nat->St->Option Int->Option Int)(m:Nat)(p ms:List Nat)(σ:St):=evAt Tryz.prog env (ct m) J (m+1) 55 5 Tryz.f55 d36 p ms σ
theorem auQ m a:e55 jn m [] [] ⟨[(.dat 26 a)],[],0⟩=yE (m+1) a:=
 tre (g:=fun J=>(zB m a 1025).bind fun b=>some b) (fun J=>by kernel_rfl) (by rfl)
def Rq:List Nat:=[1,1,0,1,0]
def Rs:List Nat:=[1,1,0,1,0,0,1]
def aog:List Nat:=Rs++[1]
def ahD:List Nat:=Rs++[0,0,1]
noncomputable def e81(J:Nat->Nat->Nat->St->Option Bool->Option Bool)(m:Nat)(p ms:List Nat)(σ:St):=evAt Tryz.prog env (ct m) J (m+1) 134 33 Tryz.f134 d8 p ms σ
noncomputable def l81(J:Nat->Nat->Nat->St->Option Bool->Option Bool)(m:Nat)(p ms:List Nat)(M:Nat)(σ:St):=loopAt Tryz.prog env (ct m) J (m+1) 134 33 Tryz.f134 d8 p ms M σ
noncomputable def oz(a:ByteArray)(b c d:Int):St:=⟨tsOf [(0,(.dat 9 (.str a))),(1,(.dat 3 (.int b))),(2,(.dat 3 (.int c))),(7,(.dat 3 (.int d)))],[],0⟩
noncomputable def ahE(a:ByteArray)(b c d:Int)(e:Bool):St:=⟨tsOf [(0,(.dat 9 (.str a))),(1,(.dat 3 (.int b))),(2,(.dat 3 (.int c))),(7,(.dat 3 (.int d))),(32,(.dat 4 (.bool e)))],[],0⟩
noncomputable def aoh:St:=⟨tsOf [],[],0⟩
noncomputable def aoi(a:ByteArray)(b c:Int):St:=⟨tsOf [(0,(.dat 9 (.str a))),(1,(.dat 3 (.int b))),(2,(.dat 3 (.int c)))],[],0⟩
abbrev ahF(m f:Nat)(a:ByteArray->Int->Int->Int->Option Bool):Prop:=∀b c d e,l81 jn m Rq [] f (oz b c d e)=a b c d e
theorem ahG m b a(h:ahF m b a) c d e f:e81 jn m aog [b] (oz c d e f)=GL m a c d e f:=
 tre (g:=fun J=>jj J 1 4 b (oz c d e (wrap .i64 (f+1))) (l81 J m Rq [] b)) (fun J=>by kernel_rfl) (by simp only[ay,h];rfl)
theorem ahH m b a(i:ahF m b a) c d e f h:e81 jn m ahD [b] (ahE c d e f h)=Cr m a c d e f h:=
 tre (g:=fun J=>cond h (some false) (jj J 0 5 0 (oz c d e f) (e81 J m aog [b]))) (fun J=>by kernel_rfl) (by simp only[ay,ahG m b a i];rfl)
theorem ahI m e a(h:ahF m e a) b c f d:e81 jn m Rs [e] (oz b c f d)=GN m a b c f d:=
 tre (g:=fun J=>(idxS b (wrap .i64 (c+d))).bind fun i=>cond (i<128) (jj J 0 7 0 (ahE b c f d true) (e81 J m ahD [e])) ((idxS b (wrap .i64 (c+d))).bind fun j=>jj J 0 7 0 (ahE b c f d (decide (191<j))) (e81 J m ahD [e]))) (fun J=>by kernel_rfl) (by simp only[ay,ahH m e a h];rfl)
theorem ahJ m:e81 jn m [1,1,1] [] aoh=GQ m:=
 tre (g:=fun J=>some true) (fun J=>by kernel_rfl) (by rfl)
theorem Ls m:∀a d e b c,l81 jn m Rq [] a (oz d e b c)=Ct m a d e b c
 |0,_,_,_,_=>rfl
 |a+1,d,e,b,c=>
  trl (g:=fun J=>cond (c<b) (jj J 0 6 0 (oz d e b c) (e81 J m Rs [a])) (jj J 0 8 0 aoh (e81 J m [1,1,1] []))) (fun J=>by kernel_rfl) (by simp only[ay,ahI m a (Ct m a) (Ls m a),ahJ m];rfl)
theorem ahK m a b c d:e81 jn m [1,1,0,1] [] (oz a b c d)=GR m a b c d:=
 tre (g:=fun J=>jj J 1 4 (succ m) (oz a b c d) (l81 J m Rq [] (succ m))) (fun J=>by kernel_rfl) (by simp only[ay,Ls m];rfl)
theorem ahL m a b c:e81 jn m [1,1] [] (aoi a b c)=GU m a b c:=
 tre (g:=fun J=>jj J 0 4 0 (oz a b c 0) (e81 J m [1,1,0,1] [])) (fun J=>by kernel_rfl) (by simp only[ay,ahK m];rfl)
theorem auR m a b c:e81 jn m [] [] ⟨[(.dat 9 (.str a)),(.dat 3 (.int b)),(.dat 3 (.int c))],[],0⟩=qZ (m+1) a b c:=
 tre (g:=fun J=>cond ((a.size:Int)<wrap .i64 (b+c)) (some false) (jj J 0 3 0 (aoi a b c) (e81 J m [1,1] []))) (fun J=>by kernel_rfl) (by simp only[ay,ahL m];rfl)
def Rt:List Nat:=[1,0,1,0,0,1]
def Es:List Nat:=Rt++[0,1,1,1]
def Ru:List Nat:=Es++[1]
def aoj:List Nat:=Ru++[1]
def dX:List Nat:=Ru++[0,1]
def Rv:List Nat:=Rt++[0,1,1,0,0,1,1,1]
def Rw:List Nat:=Rv++[1,1]
def ahM:List Nat:=Rw++[1,1]
noncomputable def e71(J:Nat->Nat->Nat->St->Option Bool->Option Bool)(m:Nat)(p ms:List Nat)(σ:St):=evAt Tryz.prog env (ct m) J (m+1) 94 89 Tryz.f94 d8 p ms σ
noncomputable def l71(J:Nat->Nat->Nat->St->Option Bool->Option Bool)(m:Nat)(p ms:List Nat)(M:Nat)(σ:St):=loopAt Tryz.prog env (ct m) J (m+1) 94 89 Tryz.f94 d8 p ms M σ
noncomputable def aok(a:ByteArray)(b c:Int):St:=⟨tsOf [(0,(.dat 9 (.str a))),(3,(.dat 3 (.int b))),(5,(.dat 3 (.int c)))],[],0⟩
noncomputable def dY(a:ByteArray)(b c:Int)(d:Bool):St:=⟨tsOf [(0,(.dat 9 (.str a))),(3,(.dat 3 (.int b))),(5,(.dat 3 (.int c))),(84,(.dat 4 (.bool d)))],[],0⟩
noncomputable def Bc(a:ByteArray)(b c d:Int):St:=⟨tsOf [(0,(.dat 9 (.str a))),(3,(.dat 3 (.int b))),(4,(.dat 5 (.int c))),(5,(.dat 3 (.int d)))],[],0⟩
noncomputable def ahN(a:ByteArray)(b c:Int)(d:Bool):St:=⟨tsOf [(0,(.dat 9 (.str a))),(3,(.dat 3 (.int b))),(4,(.dat 5 (.int c))),(30,(.dat 4 (.bool d)))],[],0⟩
noncomputable def ahO(a:ByteArray)(b c:Int)(d:Bool):St:=⟨tsOf [(0,(.dat 9 (.str a))),(3,(.dat 3 (.int b))),(4,(.dat 5 (.int c))),(23,(.dat 4 (.bool d)))],[],0⟩
noncomputable def ahP(a:ByteArray)(b c:Int)(d:Bool):St:=⟨tsOf [(0,(.dat 9 (.str a))),(3,(.dat 3 (.int b))),(4,(.dat 5 (.int c))),(16,(.dat 4 (.bool d)))],[],0⟩
noncomputable def vS(a:ByteArray)(b:Int):St:=⟨tsOf [(0,(.dat 9 (.str a))),(3,(.dat 3 (.int b)))],[],0⟩
noncomputable def ahQ:St:=⟨tsOf [],[],0⟩
abbrev vT(m d:Nat)(a:ByteArray->Int->Option Bool):Prop:=∀b c,l71 jn m [1,0,1,0] [] d (vS b c)=a b c
theorem ahR m b a(f:vT m b a) c d e:e71 jn m aoj [b] (aok c d e)=XH m a c d e:=
 tre (g:=fun J=>jj J 1 2 b (vS c (wrap .i64 (wrap .i64 (d+e)+1))) (l71 J m [1,0,1,0] [] b)) (fun J=>by kernel_rfl) (by simp only[ay,f];rfl)
theorem ahS m b a(h:vT m b a) c d e f:e71 jn m dX [b] (dY c d e f)=dU m a c d e f:=
 tre (g:=fun J=>cond f (some false) (jj J 0 17 0 (aok c d e) (e71 J m aoj [b]))) (fun J=>by kernel_rfl) (by simp only[ay,ahR m b a h];rfl)
theorem ahT m c f(p:vT m c f) a b e d:e71 jn m Ru [c] (Bc a b e d)=OJ m f a b e d:=
 tre (g:=fun J=>cond (e==224) ((idxS a (wrap .i64 (b+1))).bind fun q=>cond (q<160) (jj J 0 16 0 (dY a b d true) (e71 J m dX [c])) (cond (e==237) ((idxS a (wrap .i64 (b+1))).bind fun r=>cond (159<r) (jj J 0 16 0 (dY a b d true) (e71 J m dX [c])) (cond (e==240) ((idxS a (wrap .i64 (b+1))).bind fun s=>cond (s<144) (jj J 0 16 0 (dY a b d true) (e71 J m dX [c])) (cond (e==244) ((idxS a (wrap .i64 (b+1))).bind fun t=>jj J 0 16 0 (dY a b d (decide (143<t))) (e71 J m dX [c])) (jj J 0 16 0 (dY a b d false) (e71 J m dX [c])))) (cond (e==244) ((idxS a (wrap .i64 (b+1))).bind fun u=>jj J 0 16 0 (dY a b d (decide (143<u))) (e71 J m dX [c])) (jj J 0 16 0 (dY a b d false) (e71 J m dX [c]))))) (cond (e==240) ((idxS a (wrap .i64 (b+1))).bind fun v=>cond (v<144) (jj J 0 16 0 (dY a b d true) (e71 J m dX [c])) (cond (e==244) ((idxS a (wrap .i64 (b+1))).bind fun w=>jj J 0 16 0 (dY a b d (decide (143<w))) (e71 J m dX [c])) (jj J 0 16 0 (dY a b d false) (e71 J m dX [c])))) (cond (e==244) ((idxS a (wrap .i64 (b+1))).bind fun x=>jj J 0 16 0 (dY a b d (decide (143<x))) (e71 J m dX [c])) (jj J 0 16 0 (dY a b d false) (e71 J m dX [c])))))) (cond (e==237) ((idxS a (wrap .i64 (b+1))).bind fun h=>cond (159<h) (jj J 0 16 0 (dY a b d true) (e71 J m dX [c])) (cond (e==240) ((idxS a (wrap .i64 (b+1))).bind fun i=>cond (i<144) (jj J 0 16 0 (dY a b d true) (e71 J m dX [c])) (cond (e==244) ((idxS a (wrap .i64 (b+1))).bind fun j=>jj J 0 16 0 (dY a b d (decide (143<j))) (e71 J m dX [c])) (jj J 0 16 0 (dY a b d false) (e71 J m dX [c])))) (cond (e==244) ((idxS a (wrap .i64 (b+1))).bind fun k=>jj J 0 16 0 (dY a b d (decide (143<k))) (e71 J m dX [c])) (jj J 0 16 0 (dY a b d false) (e71 J m dX [c]))))) (cond (e==240) ((idxS a (wrap .i64 (b+1))).bind fun l=>cond (l<144) (jj J 0 16 0 (dY a b d true) (e71 J m dX [c])) (cond (e==244) ((idxS a (wrap .i64 (b+1))).bind fun n=>jj J 0 16 0 (dY a b d (decide (143<n))) (e71 J m dX [c])) (jj J 0 16 0 (dY a b d false) (e71 J m dX [c])))) (cond (e==244) ((idxS a (wrap .i64 (b+1))).bind fun o=>jj J 0 16 0 (dY a b d (decide (143<o))) (e71 J m dX [c])) (jj J 0 16 0 (dY a b d false) (e71 J m dX [c])))))) (fun J=>by kernel_rfl) (by simp only[ay,ahS m c f p];rfl)
theorem rW m b a(h:vT m b a) c d f e:e71 jn m Es [b] (Bc c d f e)=xG m a c d f e:=
 tre (g:=fun J=>(qZ m c (wrap .i64 (d+1)) e).bind fun i=>cond (!i) (some false) (jj J 0 15 0 (Bc c d f e) (e71 J m Ru [b]))) (fun J=>by kernel_rfl) (by simp only[ay,ahT m b a h];rfl)
theorem ahU m b a(h:vT m b a) c d e f:e71 jn m ahM [b] (ahN c d e f)=OL m a c d e f:=
 tre (g:=fun J=>cond f (jj J 0 13 0 (Bc c d e 3) (e71 J m Es [b])) (some false)) (fun J=>by kernel_rfl) (by simp only[ay,rW m b a h];rfl)
theorem ahV m b a(h:vT m b a) d e c f:e71 jn m Rw [b] (ahO d e c f)=OM m a d e c f:=
 tre (g:=fun J=>cond f (jj J 0 13 0 (Bc d e c 2) (e71 J m Es [b])) (cond (240<=c) (jj J 0 12 0 (ahN d e c (decide (c<=244))) (e71 J m ahM [b])) (jj J 0 12 0 (ahN d e c false) (e71 J m ahM [b])))) (fun J=>by kernel_rfl) (by simp only[ay,rW m b a h,ahU m b a h];rfl)
theorem ahW m b a(h:vT m b a) d e c f:e71 jn m Rv [b] (ahP d e c f)=OO m a d e c f:=
 tre (g:=fun J=>cond f (jj J 0 13 0 (Bc d e c 1) (e71 J m Es [b])) (cond (224<=c) (jj J 0 10 0 (ahO d e c (decide (c<=239))) (e71 J m Rw [b])) (jj J 0 10 0 (ahO d e c false) (e71 J m Rw [b])))) (fun J=>by kernel_rfl) (by simp only[ay,rW m b a h,ahV m b a h];rfl)
theorem ahX m b a(f:vT m b a) c d:e71 jn m Rt [b] (vS c d)=OP m a c d:=
 tre (g:=fun J=>(idxS c d).bind fun e=>cond (e<128) (jj J 0 13 0 (Bc c d e 0) (e71 J m Es [b])) (cond (194<=e) (jj J 0 8 0 (ahP c d e (decide (e<=223))) (e71 J m Rv [b])) (jj J 0 8 0 (ahP c d e false) (e71 J m Rv [b])))) (fun J=>by kernel_rfl) (by simp only[ay,rW m b a f,ahW m b a f];rfl)
theorem VN m:e71 jn m [1,1] [] ahQ=MC m:=
 tre (g:=fun J=>some true) (fun J=>by kernel_rfl) (by rfl)
theorem Lu m:∀a b c,l71 jn m [1,0,1,0] [] a (vS b c)=xH m a b c
 |0,_,_=>rfl
 |a+1,b,c=>
  trl (g:=fun J=>cond (c<(b.size:Int)) (jj J 0 3 0 (vS b c) (e71 J m Rt [a])) (jj J 0 18 0 ahQ (e71 J m [1,1] []))) (fun J=>by kernel_rfl) (by simp only[ay,ahX m a (xH m a) (Lu m a),VN m];rfl)
theorem ahY m a b:e71 jn m [1,0,1] [] (vS a b)=ak8 m a b:=
 tre (g:=fun J=>jj J 1 2 (succ m) (vS a b) (l71 J m [1,0,1,0] [] (succ m))) (fun J=>by kernel_rfl) (by simp only[ay,Lu m];rfl)
theorem auS m a:e71 jn m [] [] ⟨[(.dat 9 (.str a))],[],0⟩=qO (m+1) a:=
 tre (g:=fun J=>jj J 0 2 0 (vS a 0) (e71 J m [1,0,1] [])) (fun J=>by kernel_rfl) (by simp only[ay,ahY m];rfl)
def Rx:List Nat:=[1,1,0,1,0]
def Ry:List Nat:=[1,1,0,1,0,0,1]
def aol:List Nat:=Ry++[1]
def ahZ:List Nat:=Ry++[0,0,1]
noncomputable def e82(J:Nat->Nat->Nat->St->Option Bool->Option Bool)(m:Nat)(p ms:List Nat)(σ:St):=evAt Tryz.prog env (ct m) J (m+1) 135 28 Tryz.f135 d8 p ms σ
noncomputable def l82(J:Nat->Nat->Nat->St->Option Bool->Option Bool)(m:Nat)(p ms:List Nat)(M:Nat)(σ:St):=loopAt Tryz.prog env (ct m) J (m+1) 135 28 Tryz.f135 d8 p ms M σ
noncomputable def oC(a:ByteArray)(b:Int):St:=⟨tsOf [(0,(.dat 9 (.str a))),(3,(.dat 3 (.int b)))],[],0⟩
noncomputable def ah0(a:ByteArray)(b:Int)(c:Bool):St:=⟨tsOf [(0,(.dat 9 (.str a))),(3,(.dat 3 (.int b))),(27,(.dat 4 (.bool c)))],[],0⟩
noncomputable def aom:St:=⟨tsOf [],[],0⟩
noncomputable def aon(a:ByteArray):St:=⟨tsOf [(0,(.dat 9 (.str a)))],[],0⟩
noncomputable def ah1(a:ByteArray)(b:Bool):St:=⟨tsOf [(0,(.dat 9 (.str a))),(11,(.dat 4 (.bool b)))],[],0⟩
abbrev ah2(m d:Nat)(a:ByteArray->Int->Option Bool):Prop:=∀b c,l82 jn m Rx [] d (oC b c)=a b c
theorem ah3 m b a(e:ah2 m b a) c d:e82 jn m aol [b] (oC c d)=xI m a c d:=
 tre (g:=fun J=>jj J 1 4 b (oC c (wrap .i64 (d+1))) (l82 J m Rx [] b)) (fun J=>by kernel_rfl) (by simp only[ay,e];rfl)
theorem ah4 m b a(f:ah2 m b a) c d e:e82 jn m ahZ [b] (ah0 c d e)=uX m a c d e:=
 tre (g:=fun J=>cond e (some false) (jj J 0 5 0 (oC c d) (e82 J m aol [b]))) (fun J=>by kernel_rfl) (by simp only[ay,ah3 m b a f];rfl)
theorem ah5 m d a(e:ah2 m d a) b c:e82 jn m Ry [d] (oC b c)=xJ m a b c:=
 tre (g:=fun J=>(idxS b c).bind fun f=>cond (f<32) (jj J 0 7 0 (ah0 b c true) (e82 J m ahZ [d])) ((idxS b c).bind fun h=>jj J 0 7 0 (ah0 b c (decide (126<h))) (e82 J m ahZ [d]))) (fun J=>by kernel_rfl) (by simp only[ay,ah4 m d a e];rfl)
theorem ah6 m:e82 jn m [1,1,1] [] aom=xK m:=
 tre (g:=fun J=>some true) (fun J=>by kernel_rfl) (by rfl)
theorem Lv m:∀a b c,l82 jn m Rx [] a (oC b c)=xL m a b c
 |0,_,_=>rfl
 |a+1,b,c=>
  trl (g:=fun J=>cond (c<(b.size:Int)) (jj J 0 6 0 (oC b c) (e82 J m Ry [a])) (jj J 0 8 0 aom (e82 J m [1,1,1] []))) (fun J=>by kernel_rfl) (by simp only[ay,ah5 m a (xL m a) (Lv m a),ah6 m];rfl)
theorem ah7 m a b:e82 jn m [1,1,0,1] [] (oC a b)=xM m a b:=
 tre (g:=fun J=>jj J 1 4 (succ m) (oC a b) (l82 J m Rx [] (succ m))) (fun J=>by kernel_rfl) (by simp only[ay,Lv m];rfl)
theorem ah8 m a:e82 jn m [1,1] [] (aon a)=xO m a:=
 tre (g:=fun J=>jj J 0 4 0 (oC a 0) (e82 J m [1,1,0,1] [])) (fun J=>by kernel_rfl) (by simp only[ay,ah7 m];rfl)
theorem ah9 m a b:e82 jn m [1,0,1] [] (ah1 a b)=uY m a b:=
 tre (g:=fun J=>cond b (some false) (jj J 0 3 0 (aon a) (e82 J m [1,1] []))) (fun J=>by kernel_rfl) (by simp only[ay,ah8 m];rfl)
theorem auT m a:e82 jn m [] [] ⟨[(.dat 9 (.str a))],[],0⟩=qU (m+1) a:=
 tre (g:=fun J=>cond ((a.size:Int)<1) (jj J 0 2 0 (ah1 a true) (e82 J m [1,0,1] [])) (jj J 0 2 0 (ah1 a (decide (128<(a.size:Int)))) (e82 J m [1,0,1] []))) (fun J=>by kernel_rfl) (by simp only[ay,ah9 m];rfl)
def aoo:List Nat:=[1,1,1,1,1]
def Rz:List Nat:=[1,1,1,1,1,1]
def kC:List Nat:=[1,1,1,1,0,1]
def aop:List Nat:=Rz++[1]
def aia:List Nat:=Rz++[0,1]
def Lx:List Nat:=aia++[0]
def aib:List Nat:=Lx++[0,1]
def aoq:List Nat:=aib++[1]
noncomputable def e56(J:Nat->Nat->Nat->St->Option Bool->Option Bool)(m:Nat)(p ms:List Nat)(σ:St):=evAt Tryz.prog env (ct m) J (m+1) 56 138 Tryz.f56 d8 p ms σ
noncomputable def l56(J:Nat->Nat->Nat->St->Option Bool->Option Bool)(m:Nat)(p ms:List Nat)(M:Nat)(σ:St):=loopAt Tryz.prog env (ct m) J (m+1) 56 138 Tryz.f56 d8 p ms M σ
noncomputable def jv(a:Bool)(b:Int)(c:Dt):St:=⟨tsOf [(1,(.dat 4 (.bool a))),(2,(.ptr 0 [] 0)),(7,(.dat 3 (.int b)))],[(.box 26 (.dat 26 c))],0⟩
noncomputable def lS(a:Bool)(b:Dt):St:=⟨tsOf [(1,(.dat 4 (.bool a))),(2,(.ptr 0 [] 0))],[(.box 26 (.dat 26 b))],0⟩
noncomputable def kD(a b:Bool)(c:Dt):St:=⟨tsOf [(1,(.dat 4 (.bool a))),(2,(.ptr 0 [] 0)),(79,(.dat 4 (.bool b)))],[(.box 26 (.dat 26 c))],0⟩
noncomputable def RB(a b c:Bool)(d:Dt):St:=⟨tsOf [(1,(.dat 4 (.bool a))),(2,(.ptr 0 [] 0)),(5,(.dat 4 (.bool b))),(6,(.dat 4 (.bool c)))],[(.box 26 (.dat 26 d))],0⟩
noncomputable def RF(a b:Bool)(c:Dt):St:=⟨tsOf [(1,(.dat 4 (.bool a))),(2,(.ptr 0 [] 0)),(5,(.dat 4 (.bool b)))],[(.box 26 (.dat 26 c))],0⟩
noncomputable def Et(a b:Bool)(c:Dt):St:=⟨tsOf [(1,(.dat 4 (.bool a))),(2,(.ptr 0 [] 0)),(27,(.dat 4 (.bool b)))],[(.box 26 (.dat 26 c))],0⟩
abbrev aor(m e:Nat)(a:Bool->Int->Dt->Option Bool):Prop:=∀b c d,l56 jn m Lx [] e (jv b c d)=a b c d
theorem VO m b a(f:aor m b a) c d e:e56 jn m aoq [b] (jv c d e)=ME m (qE m) (qI m) a c d e:=
 tre (g:=fun J=>jj J 1 19 b (jv c (wrap .i64 (d+1)) e) (l56 J m Lx [] b)) (fun J=>by kernel_rfl) (by simp only[ay,f];rfl)
theorem aic m b a(f:aor m b a) c d e:e56 jn m aib [b] (jv c d e)=XI m (qE m) (qI m) a c d e:=
 tre (g:=fun J=>(idx (L e 3) d).bind fun h=>(qE m h c).bind fun i=>cond (!i) (some false) (jj J 0 20 0 (jv c d e) (e56 J m aoq [b]))) (fun J=>by kernel_rfl) (by simp only[ay,VO m b a f];rfl)
theorem VP m a b:e56 jn m aop [] (lS a b)=MF m (qE m) (qI m) a b:=
 tre (g:=fun J=>(qI m b a).bind fun c=>some c) (fun J=>by kernel_rfl) (by rfl)
theorem LA m:∀a c d b,l56 jn m Lx [] a (jv c d b)=Cu m (qE m) (qI m) a c d b
 |0,_,_,_=>rfl
 |a+1,c,d,b=>
  trl (g:=fun J=>cond (d<((L b 3).length:Int)) (jj J 0 21 0 (jv c d b) (e56 J m aib [a])) (jj J 0 23 0 (lS c b) (e56 J m aop []))) (fun J=>by kernel_rfl) (by simp only[ay,aic m a (Cu m (qE m) (qI m) a) (LA m a),VP m];rfl)
theorem aie m a b c:e56 jn m aia [] (jv a b c)=ak9 m (qE m) (qI m) a b c:=
 tre (g:=fun J=>jj J 1 19 (succ m) (jv a b c) (l56 J m Lx [] (succ m))) (fun J=>by kernel_rfl) (by simp only[ay,LA m];rfl)
theorem aif m a b:e56 jn m Rz [] (lS a b)=XJ m (qE m) (qI m) a b:=
 tre (g:=fun J=>jj J 0 19 0 (jv a 0 b) (e56 J m aia [])) (fun J=>by kernel_rfl) (by simp only[ay,aie m];rfl)
theorem aii m b a:e56 jn m aoo [] (lS b a)=GV m (qE m) (qI m) b a:=
 tre (g:=fun J=>cond (I a 0==9) (cond (I a 1==0) (some true) (some (I a 1==1))) (cond (I a 0==10) (some (decide (0<=I a 1))) (cond (I a 0==4) (cond (((S a 2).size:Int)<=4096) ((qO m (S a 2)).bind fun c=>some c) (some false)) (cond (I a 0==7) (some (decide (((S a 2).size:Int)<=4096))) (cond (I a 0==8) (some (((S a 2).size:Int)==12)) (jj J 0 18 0 (lS b a) (e56 J m Rz []))))))) (fun J=>by kernel_rfl) (by simp only[ay,aif m];rfl)
theorem aij m a b c:e56 jn m kC [] (kD a b c)=jy m (qE m) (qI m) a b c:=
 tre (g:=fun J=>cond b (some false) (jj J 0 7 0 (lS a c) (e56 J m aoo []))) (fun J=>by kernel_rfl) (by simp only[ay,aii m];rfl)
theorem aik m b d c a:e56 jn m [1,1,1,1] [] (RB b d c a)=xP m (qE m) (qI m) b d c a:=
 tre (g:=fun J=>cond (!d) (cond (!(S a 2).toList==[]) (jj J 0 6 0 (kD b true a) (e56 J m kC [])) (cond (!c) (cond (I a 1 !=0) (jj J 0 6 0 (kD b true a) (e56 J m kC [])) (cond (I a 0<1) (jj J 0 6 0 (kD b true a) (e56 J m kC [])) (jj J 0 6 0 (kD b (decide (11<I a 0)) a) (e56 J m kC [])))) (cond (I a 0<1) (jj J 0 6 0 (kD b true a) (e56 J m kC [])) (jj J 0 6 0 (kD b (decide (11<I a 0)) a) (e56 J m kC []))))) (cond (!c) (cond (I a 1 !=0) (jj J 0 6 0 (kD b true a) (e56 J m kC [])) (cond (I a 0<1) (jj J 0 6 0 (kD b true a) (e56 J m kC [])) (jj J 0 6 0 (kD b (decide (11<I a 0)) a) (e56 J m kC [])))) (cond (I a 0<1) (jj J 0 6 0 (kD b true a) (e56 J m kC [])) (jj J 0 6 0 (kD b (decide (11<I a 0)) a) (e56 J m kC []))))) (fun J=>by kernel_rfl) (by simp only[ay,aij m];rfl)
theorem ail m b c a:e56 jn m [1,1,1] [] (RF b c a)=xQ m (qE m) (qI m) b c a:=
 tre (g:=fun J=>cond (I a 0==3) (jj J 0 5 0 (RB b c true a) (e56 J m [1,1,1,1] [])) (cond (I a 0==9) (jj J 0 5 0 (RB b c true a) (e56 J m [1,1,1,1] [])) (jj J 0 5 0 (RB b c (I a 0==10) a) (e56 J m [1,1,1,1] [])))) (fun J=>by kernel_rfl) (by simp only[ay,aik m];rfl)
theorem ain m b a:e56 jn m [1,1] [] (lS b a)=GX m (qE m) (qI m) b a:=
 tre (g:=fun J=>cond (I a 0==4) (jj J 0 4 0 (RF b true a) (e56 J m [1,1,1] [])) (cond (I a 0==7) (jj J 0 4 0 (RF b true a) (e56 J m [1,1,1] [])) (jj J 0 4 0 (RF b (I a 0==8) a) (e56 J m [1,1,1] [])))) (fun J=>by kernel_rfl) (by simp only[ay,ail m];rfl)
theorem aio m a b c:e56 jn m [1,0,1] [] (Et a b c)=xR m (qE m) (qI m) a b c:=
 tre (g:=fun J=>cond b (some false) (jj J 0 3 0 (lS a c) (e56 J m [1,1] []))) (fun J=>by kernel_rfl) (by simp only[ay,ain m];rfl)
theorem auU m a b:e56 jn m [] [] ⟨[(.dat 26 a),(.dat 4 (.bool b))],[],0⟩=qE (m+1) a b:=
 tre (g:=fun J=>cond (I a 0 !=6) (cond (0<((L a 3).length:Int)) (jj J 0 2 0 (Et b true a) (e56 J m [1,0,1] [])) (cond (I a 0 !=5) (jj J 0 2 0 (Et b (decide (0<((L a 4).length:Int))) a) (e56 J m [1,0,1] [])) (jj J 0 2 0 (Et b false a) (e56 J m [1,0,1] [])))) (cond (I a 0 !=5) (jj J 0 2 0 (Et b (decide (0<((L a 4).length:Int))) a) (e56 J m [1,0,1] [])) (jj J 0 2 0 (Et b false a) (e56 J m [1,0,1] [])))) (fun J=>by kernel_rfl) (by simp only[ay,aio m];rfl)
