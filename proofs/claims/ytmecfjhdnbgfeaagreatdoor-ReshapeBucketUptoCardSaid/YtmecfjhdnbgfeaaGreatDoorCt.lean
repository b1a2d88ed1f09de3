/- Generated: the functions as contracts for their callers. -/
import Derived.Test.YtmecfjhdnbgfeaaGreatDoorSh
import Derived.Test.YtmecfjhdnbgfeaaGreatDoorAmG
import Derived.Test.YtmecfjhdnbgfeaaGreatDoorProg
import Derived.KernelRfl
set_option linter.unusedVariables false
set_option linter.unusedSimpArgs false
noncomputable section
namespace Go.Proofs.YtmecfjhdnbgfeaaGreatDoor
open Go.Am
def ZY:List SA:=[.d 29 .a,.d 23 .l,.d 23 .l]
def NV:List SA:=[.d 23 .l]
def Xd:List SA:=[]
def anj:List SA:=[.d 23 .l,.d 23 .l]
def Uk:List SA:=[.d 29 .a]
def oh:List SA:=[.d 26 .a]
def EB:List SA:=[.d 26 .a,.d 26 .a]
def ahZ:List SA:=[.d 29 .a,.d 26 .a]
def ank:List SA:=[.d 23 .l,.d 26 .a,.f 45]
def Jf:List SA:=[.d 26 .a,.d 3 .i]
def ah0:List SA:=[.d 29 .a,.d 3 .i,.d 3 .i]
def y9:List SA:=[.d 3 .i,.d 3 .i]
def ab6:List SA:=[.d 9 .s,.d 9 .s]
def NW:List SA:=[.d 29 .a,.d 26 .a,.d 160 .a]
def vT:List SA:=[.d 3 .i]
def Xe:List SA:=[.d 29 .a,.d 26 .a,.d 161 .l]
def Xf:List SA:=[.d 26 .a,.d 4 .b]
def Xg:List SA:=[.d 26 .a,.d 22 .l]
def Xh:List SA:=[.d 29 .a,.d 23 .l]
def Gc:List SA:=[.d 22 .l]
def uy:List SA:=[.d 9 .s]
def zU:List SA:=[.d 3 .i,.d 23 .l]
def NY:List SA:=[.d 26 .a,.d 9 .s]
def Xi:List SA:=[.d 4 .b]
def ah1:List SA:=[.d 9 .s,.d 4 .b]
def ah2:List SA:=[.d 26 .a,.d 26 .a,.d 26 .a]
def ah3:List SA:=[.d 3 .i,.d 26 .a]
def Xj:List SA:=[.d 23 .l,.d 26 .a]
def ah4:List SA:=[.d 3 .i,.d 26 .a,.d 26 .a]
def ah5:List SA:=[.d 9 .s,.d 3 .i,.d 3 .i]
def Xk:List SA:=[.d 22 .l,.f 198]
def Xl:List SA:=[.d 26 .a,.d 9 .s,.d 26 .a]
def ah6:List SA:=[.d 24 .l]
def ah7:List SA:=[.d 23 .l,.d 3 .i]
def cO:SR:= .d 4 .b
def res1:SR:= .d 26 .a
def res2:SR:= .d 3 .i
def ake:SR:= .t [(3,.i),(4,.b)]
def akf:SR:= .d 9 .s
def Xm:SR:= .d 23 .l
def P5:SR:= .d 31 .i
def akg:SR:= .t [(3,.i),(31,.i)]
def akh:SR:= .t [(26,.a),(4,.b)]
theorem Ul:oksA Tryz.prog ZY:=⟨trivial,⟨_,Tryz.underlying23⟩,⟨_,Tryz.underlying23⟩,trivial⟩
theorem Gd:oksA Tryz.prog NV:=⟨⟨_,Tryz.underlying23⟩,trivial⟩
theorem KL:oksA Tryz.prog Xd:=trivial
theorem aki:oksA Tryz.prog anj:=⟨⟨_,Tryz.underlying23⟩,⟨_,Tryz.underlying23⟩,trivial⟩
theorem KM:oksA Tryz.prog Uk:=⟨trivial,trivial⟩
theorem jS:oksA Tryz.prog oh:=⟨trivial,trivial⟩
theorem zA:oksA Tryz.prog EB:=⟨trivial,trivial,trivial⟩
theorem ab7:oksA Tryz.prog ahZ:=⟨trivial,trivial,trivial⟩
theorem akj:oksA Tryz.prog ank:=⟨⟨_,Tryz.underlying23⟩,trivial,trivial⟩
theorem BZ:oksA Tryz.prog Jf:=⟨trivial,⟨_,Tryz.underlying3⟩,trivial⟩
theorem ah8:oksA Tryz.prog ah0:=⟨trivial,⟨_,Tryz.underlying3⟩,⟨_,Tryz.underlying3⟩,trivial⟩
theorem ze:oksA Tryz.prog y9:=⟨⟨_,Tryz.underlying3⟩,⟨_,Tryz.underlying3⟩,trivial⟩
theorem Xn:oksA Tryz.prog ab6:=⟨Tryz.underlying9,Tryz.underlying9,trivial⟩
theorem NZ:oksA Tryz.prog NW:=⟨trivial,trivial,trivial,trivial⟩
theorem vU:oksA Tryz.prog vT:=⟨⟨_,Tryz.underlying3⟩,trivial⟩
theorem Xo:oksA Tryz.prog Xe:=⟨trivial,trivial,⟨_,Tryz.underlying161⟩,trivial⟩
theorem Xp:oksA Tryz.prog Xf:=⟨trivial,Tryz.underlying4,trivial⟩
theorem Xq:oksA Tryz.prog Xg:=⟨trivial,⟨_,Tryz.underlying22⟩,trivial⟩
theorem Xr:oksA Tryz.prog Xh:=⟨trivial,⟨_,Tryz.underlying23⟩,trivial⟩
theorem Gf:oksA Tryz.prog Gc:=⟨⟨_,Tryz.underlying22⟩,trivial⟩
theorem tF:oksA Tryz.prog uy:=⟨Tryz.underlying9,trivial⟩
theorem zf:oksA Tryz.prog zU:=⟨⟨_,Tryz.underlying3⟩,⟨_,Tryz.underlying23⟩,trivial⟩
theorem N7:oksA Tryz.prog NY:=⟨trivial,Tryz.underlying9,trivial⟩
theorem Xt:oksA Tryz.prog Xi:=⟨Tryz.underlying4,trivial⟩
theorem ah9:oksA Tryz.prog ah1:=⟨Tryz.underlying9,Tryz.underlying4,trivial⟩
theorem aia:oksA Tryz.prog ah2:=⟨trivial,trivial,trivial,trivial⟩
theorem aib:oksA Tryz.prog ah3:=⟨⟨_,Tryz.underlying3⟩,trivial,trivial⟩
theorem Xu:oksA Tryz.prog Xj:=⟨⟨_,Tryz.underlying23⟩,trivial,trivial⟩
theorem aic:oksA Tryz.prog ah4:=⟨⟨_,Tryz.underlying3⟩,trivial,trivial,trivial⟩
theorem aie:oksA Tryz.prog ah5:=⟨Tryz.underlying9,⟨_,Tryz.underlying3⟩,⟨_,Tryz.underlying3⟩,trivial⟩
theorem Xv:oksA Tryz.prog Xk:=⟨⟨_,Tryz.underlying22⟩,trivial⟩
theorem Xw:oksA Tryz.prog Xl:=⟨trivial,Tryz.underlying9,trivial,trivial⟩
theorem aif:oksA Tryz.prog ah6:=⟨⟨_,Tryz.underlying24⟩,trivial⟩
theorem aii:oksA Tryz.prog ah7:=⟨⟨_,Tryz.underlying23⟩,⟨_,Tryz.underlying3⟩,trivial⟩
theorem bC:cO.ok Tryz.prog:=Tryz.underlying4
theorem aW:res1.ok Tryz.prog:=trivial
theorem fF:res2.ok Tryz.prog:=⟨_,Tryz.underlying3⟩
theorem akk:ake.ok Tryz.prog:=⟨⟨_,Tryz.underlying3⟩,Tryz.underlying4,trivial⟩
theorem akl:akf.ok Tryz.prog:=Tryz.underlying9
theorem Um:Xm.ok Tryz.prog:=⟨_,Tryz.underlying23⟩
theorem KN:P5.ok Tryz.prog:=⟨_,Tryz.underlying31⟩
theorem akm:akg.ok Tryz.prog:=⟨⟨_,Tryz.underlying3⟩,⟨_,Tryz.underlying31⟩,trivial⟩
theorem akn:akh.ok Tryz.prog:=⟨trivial,Tryz.underlying4,trivial⟩
def d5:Res→Option (Bool):=SR.g cO
def d16:Res→Option (Dt):=SR.g res1
def d31:Res→Option (Int):=SR.g res2
def d15:Res→Option (Int×Bool):=SR.g ake
def d85:Res→Option (ByteArray):=SR.g akf
def d94:Res→Option (List Dt):=SR.g Xm
def d35:Res→Option (Int):=SR.g P5
def d23:Res→Option (Int×Int):=SR.g akg
def d77:Res→Option (Dt×Bool):=SR.g akh
def ac0 (args:List AV) (objs:List Ob):Option (List Dt):=match args,objs with
 | [.dat T0 x0],[]=>bif Nat.beq T0 23 then some x0.toLst else none
 |_,_=>none
theorem aaG {args:List AV} {objs:List Ob} {l:List Dt} (h:ac0 args objs=some l):CnA Tryz.prog args [.dat 23 (.lst l)]∧CnOL Tryz.prog objs []:=by
 unfold ac0 at h
 split at h
 ·obtain⟨hc,h2⟩:=bif_some h
  cases h2
  have e0:=beq_eq hc
  subst e0
  exact⟨(.cons (.of (.dat (.lst Tryz.underlying23)) rfl rfl) .nil),.nil⟩
 ·cases h
def ako (args:List AV) (objs:List Ob):Option (List Dt):=match args,objs with
 | [.dat T0 x0,.fn T1 []],[]=>bif (Nat.beq T0 23&&Nat.beq T1 17) then some x0.toLst else none
 |_,_=>none
theorem ab8 {args:List AV} {objs:List Ob} {l:List Dt} (h:ako args objs=some l):CnA Tryz.prog args [.dat 23 (.lst l),.fn 17 []]∧CnOL Tryz.prog objs []:=by
 unfold ako at h
 split at h
 ·obtain⟨hc,h2⟩:=bif_some h
  cases h2
  have e0:=beq_eq (and_l hc)
  have e1:=beq_eq (and_r hc)
  subst e0 e1
  exact⟨(.cons (.of (.dat (.lst Tryz.underlying23)) rfl rfl) (.cons (.of (.fn .nil) rfl rfl) .nil)),.nil⟩
 ·cases h
def anl (args:List AV) (objs:List Ob):Option Dt:=match args,objs with
 | [.dat T0 x0],[]=>bif Nat.beq T0 26 then some x0 else none
 |_,_=>none
theorem akp {args:List AV} {objs:List Ob} {l:Dt} (h:anl args objs=some l):CnA Tryz.prog args [.dat 26 l]∧CnOL Tryz.prog objs []:=by
 unfold anl at h
 split at h
 ·obtain⟨hc,h2⟩:=bif_some h
  cases h2
  have e0:=beq_eq hc
  subst e0
  exact⟨(.cons (.of .same rfl rfl) .nil),.nil⟩
 ·cases h
def aij (args:List AV) (objs:List Ob):Option (Dt×Int×Int):=match args,objs with
 | [.dat T0 x0,.dat T1 x1,.ptr n2 p2 o2],[.box T3 (.dat T4 x4)]=>bif (Nat.beq T0 29&&(Nat.beq T1 3&&(Nat.beq n2 0&&(natsB p2 []&&(Nat.beq o2 0&&(Nat.beq T3 3&&Nat.beq T4 3)))))) then some (x0,x1.toInt,x4.toInt) else none
 |_,_=>none
theorem aik {args:List AV} {objs:List Ob} {l:Dt×Int×Int} (h:aij args objs=some l):CnA Tryz.prog args [.dat 29 l.1,.dat 3 (.int l.2.1),.ptr 0 [] 0]∧CnOL Tryz.prog objs [.box 3 (.dat 3 (.int l.2.2))]:=by
 unfold aij at h
 split at h
 ·obtain⟨hc,h2⟩:=bif_some h
  cases h2
  have e0:=beq_eq (and_l hc)
  have e1:=beq_eq (and_l (and_r hc))
  have e2:=beq_eq (and_l (and_r (and_r hc)))
  have e3:=natsB_eq (and_l (and_r (and_r (and_r hc))))
  have e4:=beq_eq (and_l (and_r (and_r (and_r (and_r hc)))))
  have e5:=beq_eq (and_l (and_r (and_r (and_r (and_r (and_r hc))))))
  have e6:=beq_eq (and_r (and_r (and_r (and_r (and_r (and_r hc))))))
  subst e0 e1 e2 e3 e4 e5 e6
  exact⟨(.cons (.of .same rfl rfl) (.cons (.of (.dat (.int Tryz.underlying3)) rfl rfl) (.cons (.of .same rfl rfl) .nil))),(.cons (.box (.dat (.int Tryz.underlying3))) .nil)⟩
 ·cases h
def Z0 (args:List AV) (objs:List Ob):Option (Dt×Int×Int):=match args,objs with
 | [.dat T0 x0,.fn T1 [.ptr n2 p2 o2,.ptr n3 p3 o3]],[.box T4 (.dat T5 x5),.box T6 (.dat T7 x7)]=>bif (Nat.beq T0 26&&(Nat.beq T1 235&&(Nat.beq n2 0&&(natsB p2 []&&(Nat.beq o2 0&&(Nat.beq n3 1&&(natsB p3 []&&(Nat.beq o3 0&&(Nat.beq T4 3&&(Nat.beq T5 3&&(Nat.beq T6 3&&Nat.beq T7 3))))))))))) then some (x0,x5.toInt,x7.toInt) else none
 |_,_=>none
theorem adL {args:List AV} {objs:List Ob} {l:Dt×Int×Int} (h:Z0 args objs=some l):CnA Tryz.prog args [.dat 26 l.1,(.fn 235 [.ptr 0 [] 0,.ptr 1 [] 0])]∧CnOL Tryz.prog objs [.box 3 (.dat 3 (.int l.2.1)),.box 3 (.dat 3 (.int l.2.2))]:=by
 unfold Z0 at h
 split at h
 ·obtain⟨hc,h2⟩:=bif_some h
  cases h2
  have e0:=beq_eq (and_l hc)
  have e1:=beq_eq (and_l (and_r hc))
  have e2:=beq_eq (and_l (and_r (and_r hc)))
  have e3:=natsB_eq (and_l (and_r (and_r (and_r hc))))
  have e4:=beq_eq (and_l (and_r (and_r (and_r (and_r hc)))))
  have e5:=beq_eq (and_l (and_r (and_r (and_r (and_r (and_r hc))))))
  have e6:=natsB_eq (and_l (and_r (and_r (and_r (and_r (and_r (and_r hc)))))))
  have e7:=beq_eq (and_l (and_r (and_r (and_r (and_r (and_r (and_r (and_r hc))))))))
  have e8:=beq_eq (and_l (and_r (and_r (and_r (and_r (and_r (and_r (and_r (and_r hc)))))))))
  have e9:=beq_eq (and_l (and_r (and_r (and_r (and_r (and_r (and_r (and_r (and_r (and_r hc))))))))))
  have e10:=beq_eq (and_l (and_r (and_r (and_r (and_r (and_r (and_r (and_r (and_r (and_r (and_r hc)))))))))))
  have e11:=beq_eq (and_r (and_r (and_r (and_r (and_r (and_r (and_r (and_r (and_r (and_r (and_r hc)))))))))))
  subst e0 e1 e2 e3 e4 e5 e6 e7 e8 e9 e10 e11
  exact⟨(.cons (.of .same rfl rfl) (.cons (.of (.fn (.cons .same (.cons .same .nil))) rfl rfl) .nil)),(.cons (.box (.dat (.int Tryz.underlying3))) (.cons (.box (.dat (.int Tryz.underlying3))) .nil))⟩
 ·cases h
def Un (args:List AV) (objs:List Ob):Option (Dt×Int×Int):=match args,objs with
 | [.dat T0 x0,.ptr n1 p1 o1,.ptr n2 p2 o2],[.box T3 (.dat T4 x4),.box T5 (.dat T6 x6)]=>bif (Nat.beq T0 26&&(Nat.beq n1 0&&(natsB p1 []&&(Nat.beq o1 0&&(Nat.beq n2 1&&(natsB p2 []&&(Nat.beq o2 0&&(Nat.beq T3 3&&(Nat.beq T4 3&&(Nat.beq T5 3&&Nat.beq T6 3)))))))))) then some (x0,x4.toInt,x6.toInt) else none
 |_,_=>none
theorem Rp {args:List AV} {objs:List Ob} {l:Dt×Int×Int} (h:Un args objs=some l):CnA Tryz.prog args [.dat 26 l.1,.ptr 0 [] 0,.ptr 1 [] 0]∧CnOL Tryz.prog objs [.box 3 (.dat 3 (.int l.2.1)),.box 3 (.dat 3 (.int l.2.2))]:=by
 unfold Un at h
 split at h
 ·obtain⟨hc,h2⟩:=bif_some h
  cases h2
  have e0:=beq_eq (and_l hc)
  have e1:=beq_eq (and_l (and_r hc))
  have e2:=natsB_eq (and_l (and_r (and_r hc)))
  have e3:=beq_eq (and_l (and_r (and_r (and_r hc))))
  have e4:=beq_eq (and_l (and_r (and_r (and_r (and_r hc)))))
  have e5:=natsB_eq (and_l (and_r (and_r (and_r (and_r (and_r hc))))))
  have e6:=beq_eq (and_l (and_r (and_r (and_r (and_r (and_r (and_r hc)))))))
  have e7:=beq_eq (and_l (and_r (and_r (and_r (and_r (and_r (and_r (and_r hc))))))))
  have e8:=beq_eq (and_l (and_r (and_r (and_r (and_r (and_r (and_r (and_r (and_r hc)))))))))
  have e9:=beq_eq (and_l (and_r (and_r (and_r (and_r (and_r (and_r (and_r (and_r (and_r hc))))))))))
  have e10:=beq_eq (and_r (and_r (and_r (and_r (and_r (and_r (and_r (and_r (and_r (and_r hc))))))))))
  subst e0 e1 e2 e3 e4 e5 e6 e7 e8 e9 e10
  exact⟨(.cons (.of .same rfl rfl) (.cons (.of .same rfl rfl) (.cons (.of .same rfl rfl) .nil))),(.cons (.box (.dat (.int Tryz.underlying3))) (.cons (.box (.dat (.int Tryz.underlying3))) .nil))⟩
 ·cases h
def Z4 (args:List AV) (objs:List Ob):Option (Dt×Int×Int):=match args,objs with
 | [.dat T0 x0,.fn T1 [.ptr n2 p2 o2,.ptr n3 p3 o3]],[.box T4 (.dat T5 x5),.box T6 (.dat T7 x7)]=>bif (Nat.beq T0 26&&(Nat.beq T1 236&&(Nat.beq n2 0&&(natsB p2 []&&(Nat.beq o2 0&&(Nat.beq n3 1&&(natsB p3 []&&(Nat.beq o3 0&&(Nat.beq T4 3&&(Nat.beq T5 3&&(Nat.beq T6 3&&Nat.beq T7 3))))))))))) then some (x0,x5.toInt,x7.toInt) else none
 |_,_=>none
theorem adM {args:List AV} {objs:List Ob} {l:Dt×Int×Int} (h:Z4 args objs=some l):CnA Tryz.prog args [.dat 26 l.1,(.fn 236 [.ptr 0 [] 0,.ptr 1 [] 0])]∧CnOL Tryz.prog objs [.box 3 (.dat 3 (.int l.2.1)),.box 3 (.dat 3 (.int l.2.2))]:=by
 unfold Z4 at h
 split at h
 ·obtain⟨hc,h2⟩:=bif_some h
  cases h2
  have e0:=beq_eq (and_l hc)
  have e1:=beq_eq (and_l (and_r hc))
  have e2:=beq_eq (and_l (and_r (and_r hc)))
  have e3:=natsB_eq (and_l (and_r (and_r (and_r hc))))
  have e4:=beq_eq (and_l (and_r (and_r (and_r (and_r hc)))))
  have e5:=beq_eq (and_l (and_r (and_r (and_r (and_r (and_r hc))))))
  have e6:=natsB_eq (and_l (and_r (and_r (and_r (and_r (and_r (and_r hc)))))))
  have e7:=beq_eq (and_l (and_r (and_r (and_r (and_r (and_r (and_r (and_r hc))))))))
  have e8:=beq_eq (and_l (and_r (and_r (and_r (and_r (and_r (and_r (and_r (and_r hc)))))))))
  have e9:=beq_eq (and_l (and_r (and_r (and_r (and_r (and_r (and_r (and_r (and_r (and_r hc))))))))))
  have e10:=beq_eq (and_l (and_r (and_r (and_r (and_r (and_r (and_r (and_r (and_r (and_r (and_r hc)))))))))))
  have e11:=beq_eq (and_r (and_r (and_r (and_r (and_r (and_r (and_r (and_r (and_r (and_r (and_r hc)))))))))))
  subst e0 e1 e2 e3 e4 e5 e6 e7 e8 e9 e10 e11
  exact⟨(.cons (.of .same rfl rfl) (.cons (.of (.fn (.cons .same (.cons .same .nil))) rfl rfl) .nil)),(.cons (.box (.dat (.int Tryz.underlying3))) (.cons (.box (.dat (.int Tryz.underlying3))) .nil))⟩
 ·cases h
def ab9 (args:List AV) (objs:List Ob):Option (List Dt):=match args,objs with
 | [.dat T0 x0,.fn T1 []],[]=>bif (Nat.beq T0 23&&Nat.beq T1 33) then some x0.toLst else none
 |_,_=>none
theorem Xx {args:List AV} {objs:List Ob} {l:List Dt} (h:ab9 args objs=some l):CnA Tryz.prog args [(.dat 23 (.lst l)),(.fn 33 [])]∧CnOL Tryz.prog objs []:=by
 unfold ab9 at h
 split at h
 ·obtain⟨hc,h2⟩:=bif_some h
  cases h2
  have e0:=beq_eq (and_l hc)
  have e1:=beq_eq (and_r hc)
  subst e0 e1
  exact⟨(.cons (.of (.dat (.lst Tryz.underlying23)) rfl rfl) (.cons (.of (.fn .nil) rfl rfl) .nil)),.nil⟩
 ·cases h
section
variable {R:Type} (m:Nat) (args:List AV) (objs:List Ob) (K:Res→Option R)
def anm:Option R:=match ako args objs with
 |some l=>(i7 m l).bind fun r=>K ((.dat 4 (.bool r)),[])
 |none=>match ab9 args objs with
 |some l=>(i10 m l).bind fun r=>K ((.dat 4 (.bool r)),[])
 |none=>none
def ano:Option R:=match ako args objs with
 |some l=>(i8 m l).bind fun r=>K ((.dat 3 (.int r)),[])
 |none=>match ab9 args objs with
 |some l=>(i11 m l).bind fun r=>K ((.dat 3 (.int r)),[])
 |none=>none
def ail:Option R:=match aij args objs with
 |some l=>(i40 m l.1 l.2.1 l.2.2).bind fun r=>K ((.dat 31 (.int r.1)),[.box 3 (.dat 3 (.int r.2))])
 |none=>none
def ain:Option R:=match anl args objs with
 |some l=>(bf m l).bind fun r=>K ((.agg 26 [.dat 3 (.int r.1),.dat 3 (.int r.2.1),.dat 9 (.str r.2.2.1),.row 0,.row 1]),[.row 23 r.2.2.2.1,.row 24 r.2.2.2.2])
 |none=>none
def aio:Option R:=match Z0 args objs with
 |some l=>(acU m l.1 l.2.1 l.2.2).bind fun r=>K ((.tup []),[.box 3 (.dat 3 (.int r.1)),.box 3 (.dat 3 (.int r.2))])
 |none=>match Z4 args objs with
 |some l=>(acV m l.1 l.2.1 l.2.2).bind fun r=>K ((.tup []),[.box 3 (.dat 3 (.int r.1)),.box 3 (.dat 3 (.int r.2))])
 |none=>none
def aip:Option R:=match Un args objs with
 |some l=>(Dr m l.1 l.2.1 l.2.2).bind fun r=>K ((.dat 4 (.bool r.1)),[.box 3 (.dat 3 (.int r.2.1)),.box 3 (.dat 3 (.int r.2.2))])
 |none=>none
def aiq:Option R:=match Un args objs with
 |some l=>(Du m l.1 l.2.1 l.2.2).bind fun r=>K ((.dat 4 (.bool r.1)),[.box 3 (.dat 3 (.int r.2.1)),.box 3 (.dat 3 (.int r.2.2))])
 |none=>none
end
def adN (q:Res):Option (Int×Int):=match q with
 |(.tup [],[.box T0 (.dat T1 x1),.box T2 (.dat T3 x3)])=>bif (Nat.beq T0 3&&(Nat.beq T1 3&&(Nat.beq T2 3&&Nat.beq T3 3))) then some (x1.toInt,x3.toInt) else none
 |_=>none
theorem Xy {b:Res} {r:Int×Int} (h:adN b=some r):Sim Tryz.prog b ((.tup []),[.box 3 (.dat 3 (.int r.1)),.box 3 (.dat 3 (.int r.2))]):=by
 unfold adN at h
 split at h
 ·obtain⟨hc,h2⟩:=bif_some h
  cases h2
  have e0:=beq_eq (and_l hc)
  have e1:=beq_eq (and_l (and_r hc))
  have e2:=beq_eq (and_l (and_r (and_r hc)))
  have e3:=beq_eq (and_r (and_r (and_r hc)))
  subst e0 e1 e2 e3
  exact Sim.of (.tup .nil) (.cons (.box (.dat (.int Tryz.underlying3))) (.cons (.box (.dat (.int Tryz.underlying3))) .nil))
 ·cases h
def akq (q:Res):Option (Bool×Int×Int):=match q with
 |(.dat T0 x0,[.box T1 (.dat T2 x2),.box T3 (.dat T4 x4)])=>bif (Nat.beq T0 4&&(Nat.beq T1 3&&(Nat.beq T2 3&&(Nat.beq T3 3&&Nat.beq T4 3)))) then some (x0.toBool,x2.toInt,x4.toInt) else none
 |_=>none
theorem Xz {b:Res} {r:Bool×Int×Int} (h:akq b=some r):Sim Tryz.prog b ((.dat 4 (.bool r.1)),[.box 3 (.dat 3 (.int r.2.1)),.box 3 (.dat 3 (.int r.2.2))]):=by
 unfold akq at h
 split at h
 ·obtain⟨hc,h2⟩:=bif_some h
  cases h2
  have e0:=beq_eq (and_l hc)
  have e1:=beq_eq (and_l (and_r hc))
  have e2:=beq_eq (and_l (and_r (and_r hc)))
  have e3:=beq_eq (and_l (and_r (and_r (and_r hc))))
  have e4:=beq_eq (and_r (and_r (and_r (and_r hc))))
  subst e0 e1 e2 e3 e4
  exact Sim.of (.of (.dat (.bool Tryz.underlying4)) rfl rfl) (.cons (.box (.dat (.int Tryz.underlying3))) (.cons (.box (.dat (.int Tryz.underlying3))) .nil))
 ·cases h
def akr (q:Res):Option (Int×Int×ByteArray×List Dt×List Dt):=match q with
 |(.agg T0 [.dat T1 x1,.dat T2 x2,.dat T3 x3,.row n4,.row n5],[.row T6 x6,.row T7 x7])=>bif (Nat.beq T0 26&&(Nat.beq T1 3&&(Nat.beq T2 3&&(Nat.beq T3 9&&(Nat.beq n4 0&&(Nat.beq n5 1&&(Nat.beq T6 23&&Nat.beq T7 24))))))) then some (x1.toInt,x2.toInt,x3.toStr,x6,x7) else none
 |_=>none
theorem air {b:Res} {r:Int×Int×ByteArray×List Dt×List Dt} (h:akr b=some r):Sim Tryz.prog b ((.agg 26 [.dat 3 (.int r.1),.dat 3 (.int r.2.1),.dat 9 (.str r.2.2.1),.row 0,.row 1]),[.row 23 r.2.2.2.1,.row 24 r.2.2.2.2]):=by
 unfold akr at h
 split at h
 ·obtain⟨hc,h2⟩:=bif_some h
  cases h2
  have e0:=beq_eq (and_l hc)
  have e1:=beq_eq (and_l (and_r hc))
  have e2:=beq_eq (and_l (and_r (and_r hc)))
  have e3:=beq_eq (and_l (and_r (and_r (and_r hc))))
  have e4:=beq_eq (and_l (and_r (and_r (and_r (and_r hc)))))
  have e5:=beq_eq (and_l (and_r (and_r (and_r (and_r (and_r hc))))))
  have e6:=beq_eq (and_l (and_r (and_r (and_r (and_r (and_r (and_r hc)))))))
  have e7:=beq_eq (and_r (and_r (and_r (and_r (and_r (and_r (and_r hc)))))))
  subst e0 e1 e2 e3 e4 e5 e6 e7
  exact Sim.of (.of (.agg (.cons (.dat (.int Tryz.underlying3)) (.cons (.dat (.int Tryz.underlying3)) (.cons (.dat (.str Tryz.underlying9)) (.cons .same (.cons .same .nil)))))) rfl rfl) (.cons .same (.cons .same .nil))
 ·cases h
def d40 (q:Res):Option (Int×Int):=match q with
 |(.dat T0 x0,[.box T1 (.dat T2 x2)])=>bif (Nat.beq T0 31&&(Nat.beq T1 3&&Nat.beq T2 3)) then some (x0.toInt,x2.toInt) else none
 |_=>none
theorem aks {b:Res} {r:Int×Int} (h:d40 b=some r):Sim Tryz.prog b ((.dat 31 (.int r.1)),[.box 3 (.dat 3 (.int r.2))]):=by
 unfold d40 at h
 split at h
 ·obtain⟨hc,h2⟩:=bif_some h
  cases h2
  have e0:=beq_eq (and_l hc)
  have e1:=beq_eq (and_l (and_r hc))
  have e2:=beq_eq (and_r (and_r hc))
  subst e0 e1 e2
  exact Sim.of (.of (.dat (.int Tryz.underlying31)) rfl rfl) (.cons (.box (.dat (.int Tryz.underlying3))) .nil)
 ·cases h
def ctE (m:Nat) (f:FuncId):Option Ent:=
 bif Nat.beq f 4 then some ⟨ZY,cO,ig m⟩ else
 bif Nat.beq f 8 then some ⟨NV,cO,lM m⟩ else
 bif Nat.beq f 10 then some ⟨Xd,cO,EC⟩ else
 bif Nat.beq f 19 then some ⟨ZY,Xm,gI m⟩ else
 bif Nat.beq f 20 then some ⟨ZY,Xm,jM m⟩ else
 bif Nat.beq f 13 then some ⟨anj,cO,aZ m⟩ else
 bif Nat.beq f 9 then some ⟨Uk,P5,iH m⟩ else
 bif Nat.beq f 17 then some ⟨oh,cO,cu m⟩ else
 bif Nat.beq f 33 then some ⟨oh,cO,jZ m⟩ else
 bif Nat.beq f 45 then some ⟨EB,res2,ay m⟩ else
 bif Nat.beq f 40 then some ⟨ahZ,res1,expr_Eval m⟩ else
 bif Nat.beq f 57 then some ⟨ank,ake,i15 m⟩ else
 bif Nat.beq f 58 then some ⟨oh,res1,aL m⟩ else
 bif Nat.beq f 47 then some ⟨Jf,res1,fB m⟩ else
 bif Nat.beq f 21 then some ⟨EB,res2,aA m⟩ else
 bif Nat.beq f 41 then some ⟨ahZ,res1,ref08_Eval m⟩ else
 bif Nat.beq f 52 then some ⟨Jf,res1,iw m⟩ else
 bif Nat.beq f 59 then some ⟨Xd,res1,rz m⟩ else
 bif Nat.beq f 42 then some ⟨EB,cO,bH m⟩ else
 bif Nat.beq f 34 then some ⟨ah0,akg,dL m⟩ else
 bif Nat.beq f 18 then some ⟨oh,cO,eF m⟩ else
 bif Nat.beq f 86 then some ⟨y9,res2,cZ m⟩ else
 bif Nat.beq f 87 then some ⟨ab6,res2,strings_Compare⟩ else
 bif Nat.beq f 82 then some ⟨Uk,P5,p8 m⟩ else
 bif Nat.beq f 84 then some ⟨NW,res1,expr_eval m⟩ else
 bif Nat.beq f 83 then some ⟨oh,res1,aJ m⟩ else
 bif Nat.beq f 48 then some ⟨vT,res1,mh m⟩ else
 bif Nat.beq f 60 then some ⟨y9,res2,bI m⟩ else
 bif Nat.beq f 61 then some ⟨ab6,res2,iq m⟩ else
 bif Nat.beq f 85 then some ⟨Xe,res1,ref08_eval m⟩ else
 bif Nat.beq f 91 then some ⟨vT,res1,oP m⟩ else
 bif Nat.beq f 75 then some ⟨Uk,P5,pV m⟩ else
 bif Nat.beq f 54 then some ⟨oh,res2,lJ m⟩ else
 bif Nat.beq f 55 then some ⟨oh,res2,lK m⟩ else
 bif Nat.beq f 56 then some ⟨Xf,cO,aD m⟩ else
 bif Nat.beq f 128 then some ⟨vT,cO,qg m⟩ else
 bif Nat.beq f 158 then some ⟨Uk,P5,jd m⟩ else
 bif Nat.beq f 121 then some ⟨NW,res1,dG m⟩ else
 bif Nat.beq f 122 then some ⟨oh,cO,jN m⟩ else
 bif Nat.beq f 123 then some ⟨Xd,res1,aT m⟩ else
 bif Nat.beq f 127 then some ⟨Xd,res1,aS m⟩ else
 bif Nat.beq f 124 then some ⟨Xg,res1,fG m⟩ else
 bif Nat.beq f 125 then some ⟨Xe,res1,bD m⟩ else
 bif Nat.beq f 126 then some ⟨Xh,res1,ak m⟩ else
 bif Nat.beq f 65 then some ⟨Gc,cO,gF m⟩ else
 bif Nat.beq f 97 then some ⟨uy,cO,fK m⟩ else
 bif Nat.beq f 108 then some ⟨EB,cO,aF m⟩ else
 bif Nat.beq f 107 then some ⟨Gc,cO,lG m⟩ else
 bif Nat.beq f 106 then some ⟨vT,res2,nO m⟩ else
 bif Nat.beq f 92 then some ⟨Jf,res2,cK m⟩ else
 bif Nat.beq f 93 then some ⟨Jf,res2,gG m⟩ else
 bif Nat.beq f 94 then some ⟨uy,cO,pU m⟩ else
 bif Nat.beq f 95 then some ⟨Xf,cO,bg m⟩ else
 bif Nat.beq f 147 then some ⟨Gc,cO,lX m⟩ else
 bif Nat.beq f 206 then some ⟨uy,cO,jE m⟩ else
 bif Nat.beq f 208 then some ⟨oh,cO,nP m⟩ else
 bif Nat.beq f 207 then some ⟨Gc,cO,dh m⟩ else
 bif Nat.beq f 205 then some ⟨vT,res2,nQ m⟩ else
 bif Nat.beq f 204 then some ⟨y9,cO,oC m⟩ else
 bif Nat.beq f 159 then some ⟨Xg,res1,aR m⟩ else
 bif Nat.beq f 160 then some ⟨NW,res1,bZ m⟩ else
 bif Nat.beq f 161 then some ⟨zU,res1,bM m⟩ else
 bif Nat.beq f 162 then some ⟨y9,res1,gV m⟩ else
 bif Nat.beq f 163 then some ⟨zU,res1,eU m⟩ else
 bif Nat.beq f 164 then some ⟨zU,res1,bR⟩ else
 bif Nat.beq f 165 then some ⟨zU,res1,bF m⟩ else
 bif Nat.beq f 166 then some ⟨vT,res1,aN m⟩ else
 bif Nat.beq f 167 then some ⟨NV,res1,nZ m⟩ else
 bif Nat.beq f 168 then some ⟨Xh,res1,bY m⟩ else
 bif Nat.beq f 169 then some ⟨oh,res2,lN m⟩ else
 bif Nat.beq f 170 then some ⟨oh,res2,lQ m⟩ else
 bif Nat.beq f 171 then some ⟨oh,cO,aI m⟩ else
 bif Nat.beq f 23 then some ⟨NY,akh,qh m⟩ else
 bif Nat.beq f 172 then some ⟨oh,res1,lU m⟩ else
 bif Nat.beq f 173 then some ⟨oh,cO,dY m⟩ else
 bif Nat.beq f 174 then some ⟨zU,res1,dR m⟩ else
 bif Nat.beq f 175 then some ⟨zU,res1,lH m⟩ else
 bif Nat.beq f 176 then some ⟨Xi,res1,aO m⟩ else
 bif Nat.beq f 177 then some ⟨NV,res1,jI m⟩ else
 bif Nat.beq f 178 then some ⟨vT,res1,bO m⟩ else
 bif Nat.beq f 180 then some ⟨ah1,akf,iA m⟩ else
 bif Nat.beq f 179 then some ⟨uy,res1,iT m⟩ else
 bif Nat.beq f 181 then some ⟨ah2,res1,lI m⟩ else
 bif Nat.beq f 182 then some ⟨ah3,res1,jX m⟩ else
 bif Nat.beq f 183 then some ⟨EB,res1,iB m⟩ else
 bif Nat.beq f 184 then some ⟨Xj,cO,iX m⟩ else
 bif Nat.beq f 185 then some ⟨NV,res1,nW m⟩ else
 bif Nat.beq f 186 then some ⟨NV,res1,lT m⟩ else
 bif Nat.beq f 187 then some ⟨ah4,res1,bQ m⟩ else
 bif Nat.beq f 133 then some ⟨oh,Xm,jD m⟩ else
 bif Nat.beq f 134 then some ⟨ah5,cO,pR m⟩ else
 bif Nat.beq f 135 then some ⟨uy,cO,lV m⟩ else
 bif Nat.beq f 197 then some ⟨Xk,cO,i97 m⟩ else
 bif Nat.beq f 230 then some ⟨Xk,res2,i98 m⟩ else
 bif Nat.beq f 198 then some ⟨uy,cO,lW m⟩ else
 bif Nat.beq f 209 then some ⟨oh,res1,fD m⟩ else
 bif Nat.beq f 210 then some ⟨oh,cO,bS m⟩ else
 bif Nat.beq f 211 then some ⟨y9,res2,gB m⟩ else
 bif Nat.beq f 212 then some ⟨Xi,res1,aQ m⟩ else
 bif Nat.beq f 141 then some ⟨EB,cO,iI m⟩ else
 bif Nat.beq f 217 then some ⟨Xj,res1,jF m⟩ else
 bif Nat.beq f 119 then some ⟨Xl,res1,rP m⟩ else
 bif Nat.beq f 218 then some ⟨Jf,res2,jG m⟩ else
 bif Nat.beq f 219 then some ⟨Jf,res2,jH m⟩ else
 bif Nat.beq f 220 then some ⟨uy,cO,utf8_ValidString⟩ else
 bif Nat.beq f 221 then some ⟨ah6,cO,aH m⟩ else
 bif Nat.beq f 62 then some ⟨NY,res2,kU m⟩ else
 bif Nat.beq f 222 then some ⟨ah7,cO,gH m⟩ else
 bif Nat.beq f 223 then some ⟨y9,res2,dw m⟩ else
 bif Nat.beq f 224 then some ⟨EB,cO,iJ m⟩ else
 bif Nat.beq f 105 then some ⟨Xl,res1,nk m⟩ else
 bif Nat.beq f 157 then some ⟨NY,res2,pW m⟩ else
 bif Nat.beq f 238 then some ⟨uy,cO,lZ m⟩ else
 none
def ctX {R:Type} (m:Nat) (f:FuncId) (args:List AV) (objs:List Ob) (K:Res→Option R):Option R:=
 bif Nat.beq f 16 then anm m args objs K else
 bif Nat.beq f 53 then ano m args objs K else
 bif Nat.beq f 120 then ail m args objs K else
 bif Nat.beq f 156 then ain m args objs K else
 bif Nat.beq f 234 then aio m args objs K else
 bif Nat.beq f 235 then aip m args objs K else
 bif Nat.beq f 236 then aiq m args objs K else
 none
def ct {R:Type} (m:Nat) (f:FuncId) (args:List AV) (objs:List Ob) (K:Res→Option R):Option R:=match ctE m f with
 |some e=>e.run args objs K
 |none=>ctX m f args objs K
section
variable {R:Type} {P:Program} {E:Env} {call:FuncId→List AV→List Ob→(Res→Option R)→Option R} {m n M:Nat} {f:FuncId} {fn:Func} {dec:Res→Option R} {p ms:List Nat} {σ:St} {g:(Nat→Nat→Nat→St→Option R→Option R)→Option R} {r:Option R}
theorem tq (e:g jn=r) (h:∀J,evAt P E call J m f n fn dec p ms σ=g J:=by intro J;kernel_rfl):evAt P E call jn m f n fn dec p ms σ=r:=(h jn).trans e
theorem tl (e:g jn=r) (h:∀J,loopAt P E call J m f n fn dec p ms M σ=g J:=by intro J;kernel_rfl):loopAt P E call jn m f n fn dec p ms M σ=r:=(h jn).trans e
end
end Go.Proofs.YtmecfjhdnbgfeaaGreatDoor
