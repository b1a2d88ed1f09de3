/- Generated: the functions as contracts for their callers. -/
import Derived.Test.YtjnkagkoolbodaaGreatDoorSh
import Derived.Test.YtjnkagkoolbodaaGreatDoorAmG
import Derived.Test.YtjnkagkoolbodaaGreatDoorProg
import Derived.KernelRfl
set_option linter.unusedVariables false
set_option linter.unusedSimpArgs false
noncomputable section
namespace Go.Proofs.YtjnkagkoolbodaaGreatDoor
open Go.Am
abbrev tsI (k:Nat) (x:Int):Nat×AV:=(k,.dat 3 (.int x))
abbrev tsB (k:Nat) (x:Bool):Nat×AV:=(k,.dat 4 (.bool x))
abbrev tsS (k:Nat) (x:ByteArray):Nat×AV:=(k,.dat 9 (.str x))
abbrev tsL (k t:Nat) (x:List Dt):Nat×AV:=(k,.dat t (.lst x))
abbrev tsP (k j:Nat):Nat×AV:=(k,.ptr j [] 0)
abbrev obX (t:Nat) (x:Dt):Ob:= .box t (.dat t x)
abbrev stO (l:List (Nat×AV)) (o:List Ob):St:=⟨tsOf l,o,0⟩
def alJ:List SA:=[.d 22 .l]
def aWf:List SA:=[]
def aUF:List SA:=[.d 47 .a,.d 47 .a]
def aUG:List SA:=[.d 22 .l,.d 22 .l]
def aFb:List SA:=[.d 22 .l,.d 3 .i]
def aUH:List SA:=[.d 22 .l,.d 4 .b]
def Uc:List SA:=[.d 39 .a]
def aUI:List SA:=[.d 40 .l,.f 22]
def aUJ:List SA:=[.d 73 .a]
def awO:List SA:=[.d 45 .a]
def aFc:List SA:=[.d 22 .l,.f 25]
def Ej:List SA:=[.d 71 .a]
def aFd:List SA:=[.d 22 .l,.d 3 .i,.d 3 .i]
def aui:List SA:=[.d 39 .a,.d 39 .a]
def auj:List SA:=[.d 40 .l,.d 40 .l]
def auk:List SA:=[.d 45 .a,.d 45 .a]
def aFe:List SA:=[.d 71 .a,.d 71 .a]
def alK:List SA:=[.d 39 .a,.d 4 .b]
def Ud:List SA:=[.d 26 .l]
def sO:List SA:=[.d 30 .a]
def aFf:List SA:=[.d 27 .l,.f 42]
def adq:List SA:=[.d 33 .a]
def El:List SA:=[.d 36 .a]
def aFg:List SA:=[.d 37 .l,.f 20]
def aFh:List SA:=[.d 41 .l,.f 41]
def aFi:List SA:=[.d 42 .l,.f 49]
def aFj:List SA:=[.d 106 .a]
def aFk:List SA:=[.d 43 .l,.f 51]
def aFl:List SA:=[.d 110 .a]
def aFm:List SA:=[.d 59 .l,.f 53]
def aul:List SA:=[.d 114 .a]
def aFo:List SA:=[.d 62 .l,.f 55]
def aum:List SA:=[.d 118 .a]
def aFp:List SA:=[.d 67 .l,.f 57]
def aFq:List SA:=[.d 122 .a]
def aFr:List SA:=[.d 39 .a,.d 3 .i,.d 3 .i]
def adr:List SA:=[.d 26 .l,.d 26 .l]
def aun:List SA:=[.d 30 .a,.d 30 .a]
def aFs:List SA:=[.d 27 .l,.d 27 .l]
def auo:List SA:=[.d 36 .a,.d 36 .a]
def aFt:List SA:=[.d 41 .l,.d 41 .l]
def aFu:List SA:=[.d 33 .a,.d 33 .a]
def aFv:List SA:=[.d 67 .l,.d 67 .l]
def aFw:List SA:=[.d 61 .a,.d 61 .a]
def aFx:List SA:=[.d 64 .a,.d 64 .a]
def aup:List SA:=[.d 43 .l,.d 43 .l]
def aFy:List SA:=[.d 43 .l]
def auq:List SA:=[.d 61 .a]
def aur:List SA:=[.d 64 .a]
def aFz:List SA:=[.d 67 .l]
def aus:List SA:=[.d 69 .a]
def aFA:List SA:=[.d 3 .i,.d 164 .l]
def aFB:List SA:=[.d 66 .a]
def aFC:List SA:=[.d 28 .l,.f 99]
def aFD:List SA:=[.d 156 .a]
def aFE:List SA:=[.d 34 .l,.f 45]
def qb:List SA:=[.d 3 .i]
def Gr:List SA:=[.d 9 .s]
def aFF:List SA:=[.d 40 .l]
def alL:List SA:=[.d 3 .i,.d 3 .i]
def aut:List SA:=[.d 30 .a,.d 4 .b]
def auu:List SA:=[.d 129 .a]
def aFG:List SA:=[.d 36 .a,.d 3 .i,.d 3 .i]
def aFH:List SA:=[.d 9 .s,.d 9 .s]
def auv:List SA:=[.d 26 .l,.f 174]
def ads:List SA:=[.d 30 .a,.d 3 .i]
def aFI:List SA:=[.d 28 .l]
def aFJ:List SA:=[.d 9 .s,.d 3 .i,.d 3 .i]
def auw:SR:= .d 39 .a
def res1:SR:= .d 4 .b
def res2:SR:= .d 90 .l
def wE:SR:= .d 3 .i
def aMO:SR:= .d 26 .l
def aMP:SR:= .d 73 .a
def aMQ:SR:= .d 40 .l
def aMR:SR:= .d 30 .a
def aCL:SR:= .d 27 .l
def aMS:SR:= .d 28 .l
def azN:SR:= .d 156 .a
def azO:SR:= .d 33 .a
def azP:SR:= .d 36 .a
def azQ:SR:= .d 34 .l
def azR:SR:= .d 37 .l
def aqD:SR:= .d 41 .l
def azS:SR:= .d 106 .a
def azT:SR:= .d 42 .l
def azU:SR:= .d 110 .a
def azV:SR:= .d 43 .l
def azW:SR:= .d 45 .a
def azX:SR:= .d 114 .a
def azY:SR:= .d 59 .l
def azZ:SR:= .d 118 .a
def az0:SR:= .d 62 .l
def az1:SR:= .d 22 .l
def az2:SR:= .d 71 .a
def az3:SR:= .d 67 .l
def az4:SR:= .d 122 .a
def dw:SR:= .d 23 .i
def az5:SR:= .t [(3,.i),(23,.i)]
def aqE:SR:= .t [(47,.a),(22,.l)]
theorem adt:oksA Tryz.prog alJ:=⟨⟨_,Tryz.underlying22⟩,trivial⟩
theorem aMT:oksA Tryz.prog aWf:=trivial
theorem aMU:oksA Tryz.prog aUF:=⟨trivial,trivial,trivial⟩
theorem aMV:oksA Tryz.prog aUG:=⟨⟨_,Tryz.underlying22⟩,⟨_,Tryz.underlying22⟩,trivial⟩
theorem az6:oksA Tryz.prog aFb:=⟨⟨_,Tryz.underlying22⟩,⟨_,Tryz.underlying3⟩,trivial⟩
theorem aMW:oksA Tryz.prog aUH:=⟨⟨_,Tryz.underlying22⟩,Tryz.underlying4,trivial⟩
theorem KM:oksA Tryz.prog Uc:=⟨trivial,trivial⟩
theorem aMX:oksA Tryz.prog aUI:=⟨⟨_,Tryz.underlying40⟩,trivial⟩
theorem aMY:oksA Tryz.prog aUJ:=⟨trivial,trivial⟩
theorem arv:oksA Tryz.prog awO:=⟨trivial,trivial⟩
theorem aFK:oksA Tryz.prog aFc:=⟨⟨_,Tryz.underlying22⟩,trivial⟩
theorem Em:oksA Tryz.prog Ej:=⟨trivial,trivial⟩
theorem aFL:oksA Tryz.prog aFd:=⟨⟨_,Tryz.underlying22⟩,⟨_,Tryz.underlying3⟩,⟨_,Tryz.underlying3⟩,trivial⟩
theorem auy:oksA Tryz.prog aui:=⟨trivial,trivial,trivial⟩
theorem auz:oksA Tryz.prog auj:=⟨⟨_,Tryz.underlying40⟩,⟨_,Tryz.underlying40⟩,trivial⟩
theorem auA:oksA Tryz.prog auk:=⟨trivial,trivial,trivial⟩
theorem aFM:oksA Tryz.prog aFe:=⟨trivial,trivial,trivial⟩
theorem alM:oksA Tryz.prog alK:=⟨trivial,Tryz.underlying4,trivial⟩
theorem Ue:oksA Tryz.prog Ud:=⟨⟨_,Tryz.underlying26⟩,trivial⟩
theorem sP:oksA Tryz.prog sO:=⟨trivial,trivial⟩
theorem aFN:oksA Tryz.prog aFf:=⟨⟨_,Tryz.underlying27⟩,trivial⟩
theorem adu:oksA Tryz.prog adq:=⟨trivial,trivial⟩
theorem En:oksA Tryz.prog El:=⟨trivial,trivial⟩
theorem aFO:oksA Tryz.prog aFg:=⟨⟨_,Tryz.underlying37⟩,trivial⟩
theorem aFP:oksA Tryz.prog aFh:=⟨⟨_,Tryz.underlying41⟩,trivial⟩
theorem aFQ:oksA Tryz.prog aFi:=⟨⟨_,Tryz.underlying42⟩,trivial⟩
theorem aFR:oksA Tryz.prog aFj:=⟨trivial,trivial⟩
theorem aFS:oksA Tryz.prog aFk:=⟨⟨_,Tryz.underlying43⟩,trivial⟩
theorem aFT:oksA Tryz.prog aFl:=⟨trivial,trivial⟩
theorem aFU:oksA Tryz.prog aFm:=⟨⟨_,Tryz.underlying59⟩,trivial⟩
theorem auB:oksA Tryz.prog aul:=⟨trivial,trivial⟩
theorem aFV:oksA Tryz.prog aFo:=⟨⟨_,Tryz.underlying62⟩,trivial⟩
theorem auC:oksA Tryz.prog aum:=⟨trivial,trivial⟩
theorem aFW:oksA Tryz.prog aFp:=⟨⟨_,Tryz.underlying67⟩,trivial⟩
theorem aFX:oksA Tryz.prog aFq:=⟨trivial,trivial⟩
theorem aFY:oksA Tryz.prog aFr:=⟨trivial,⟨_,Tryz.underlying3⟩,⟨_,Tryz.underlying3⟩,trivial⟩
theorem adv:oksA Tryz.prog adr:=⟨⟨_,Tryz.underlying26⟩,⟨_,Tryz.underlying26⟩,trivial⟩
theorem auD:oksA Tryz.prog aun:=⟨trivial,trivial,trivial⟩
theorem aFZ:oksA Tryz.prog aFs:=⟨⟨_,Tryz.underlying27⟩,⟨_,Tryz.underlying27⟩,trivial⟩
theorem auE:oksA Tryz.prog auo:=⟨trivial,trivial,trivial⟩
theorem aF0:oksA Tryz.prog aFt:=⟨⟨_,Tryz.underlying41⟩,⟨_,Tryz.underlying41⟩,trivial⟩
theorem aF1:oksA Tryz.prog aFu:=⟨trivial,trivial,trivial⟩
theorem aF2:oksA Tryz.prog aFv:=⟨⟨_,Tryz.underlying67⟩,⟨_,Tryz.underlying67⟩,trivial⟩
theorem aF3:oksA Tryz.prog aFw:=⟨trivial,trivial,trivial⟩
theorem aF4:oksA Tryz.prog aFx:=⟨trivial,trivial,trivial⟩
theorem auF:oksA Tryz.prog aup:=⟨⟨_,Tryz.underlying43⟩,⟨_,Tryz.underlying43⟩,trivial⟩
theorem aF5:oksA Tryz.prog aFy:=⟨⟨_,Tryz.underlying43⟩,trivial⟩
theorem auG:oksA Tryz.prog auq:=⟨trivial,trivial⟩
theorem auH:oksA Tryz.prog aur:=⟨trivial,trivial⟩
theorem aF6:oksA Tryz.prog aFz:=⟨⟨_,Tryz.underlying67⟩,trivial⟩
theorem auI:oksA Tryz.prog aus:=⟨trivial,trivial⟩
theorem aF7:oksA Tryz.prog aFA:=⟨⟨_,Tryz.underlying3⟩,⟨_,Tryz.underlying164⟩,trivial⟩
theorem aF8:oksA Tryz.prog aFB:=⟨trivial,trivial⟩
theorem aF9:oksA Tryz.prog aFC:=⟨⟨_,Tryz.underlying28⟩,trivial⟩
theorem aGa:oksA Tryz.prog aFD:=⟨trivial,trivial⟩
theorem aGb:oksA Tryz.prog aFE:=⟨⟨_,Tryz.underlying34⟩,trivial⟩
theorem qc:oksA Tryz.prog qb:=⟨⟨_,Tryz.underlying3⟩,trivial⟩
theorem Eo:oksA Tryz.prog Gr:=⟨Tryz.underlying9,trivial⟩
theorem aGc:oksA Tryz.prog aFF:=⟨⟨_,Tryz.underlying40⟩,trivial⟩
theorem alN:oksA Tryz.prog alL:=⟨⟨_,Tryz.underlying3⟩,⟨_,Tryz.underlying3⟩,trivial⟩
theorem auJ:oksA Tryz.prog aut:=⟨trivial,Tryz.underlying4,trivial⟩
theorem auK:oksA Tryz.prog auu:=⟨trivial,trivial⟩
theorem aGd:oksA Tryz.prog aFG:=⟨trivial,⟨_,Tryz.underlying3⟩,⟨_,Tryz.underlying3⟩,trivial⟩
theorem aGe:oksA Tryz.prog aFH:=⟨Tryz.underlying9,Tryz.underlying9,trivial⟩
theorem auL:oksA Tryz.prog auv:=⟨⟨_,Tryz.underlying26⟩,trivial⟩
theorem adw:oksA Tryz.prog ads:=⟨trivial,⟨_,Tryz.underlying3⟩,trivial⟩
theorem aGf:oksA Tryz.prog aFI:=⟨⟨_,Tryz.underlying28⟩,trivial⟩
theorem aGg:oksA Tryz.prog aFJ:=⟨Tryz.underlying9,⟨_,Tryz.underlying3⟩,⟨_,Tryz.underlying3⟩,trivial⟩
theorem arw:auw.ok Tryz.prog:=trivial
theorem aH:res1.ok Tryz.prog:=Tryz.underlying4
theorem aMZ:res2.ok Tryz.prog:=⟨_,Tryz.underlying90⟩
theorem pY:wE.ok Tryz.prog:=⟨_,Tryz.underlying3⟩
theorem aM0:aMO.ok Tryz.prog:=⟨_,Tryz.underlying26⟩
theorem aM1:aMP.ok Tryz.prog:=trivial
theorem aM2:aMQ.ok Tryz.prog:=⟨_,Tryz.underlying40⟩
theorem aM3:aMR.ok Tryz.prog:=trivial
theorem az7:aCL.ok Tryz.prog:=⟨_,Tryz.underlying27⟩
theorem aM4:aMS.ok Tryz.prog:=⟨_,Tryz.underlying28⟩
theorem aGh:azN.ok Tryz.prog:=trivial
theorem aGi:azO.ok Tryz.prog:=trivial
theorem aGj:azP.ok Tryz.prog:=trivial
theorem aGk:azQ.ok Tryz.prog:=⟨_,Tryz.underlying34⟩
theorem aGl:azR.ok Tryz.prog:=⟨_,Tryz.underlying37⟩
theorem auM:aqD.ok Tryz.prog:=⟨_,Tryz.underlying41⟩
theorem aGm:azS.ok Tryz.prog:=trivial
theorem aGn:azT.ok Tryz.prog:=⟨_,Tryz.underlying42⟩
theorem aGo:azU.ok Tryz.prog:=trivial
theorem aGp:azV.ok Tryz.prog:=⟨_,Tryz.underlying43⟩
theorem aGq:azW.ok Tryz.prog:=trivial
theorem aGr:azX.ok Tryz.prog:=trivial
theorem aGs:azY.ok Tryz.prog:=⟨_,Tryz.underlying59⟩
theorem aGt:azZ.ok Tryz.prog:=trivial
theorem aGu:az0.ok Tryz.prog:=⟨_,Tryz.underlying62⟩
theorem aGv:az1.ok Tryz.prog:=⟨_,Tryz.underlying22⟩
theorem aGw:az2.ok Tryz.prog:=trivial
theorem aGx:az3.ok Tryz.prog:=⟨_,Tryz.underlying67⟩
theorem aGy:az4.ok Tryz.prog:=trivial
theorem dx:dw.ok Tryz.prog:=⟨_,Tryz.underlying23⟩
theorem aGz:az5.ok Tryz.prog:=⟨⟨_,Tryz.underlying3⟩,⟨_,Tryz.underlying23⟩,trivial⟩
theorem auN:aqE.ok Tryz.prog:=⟨trivial,⟨_,Tryz.underlying22⟩,trivial⟩
def d9:Res→Option (Dt):=SR.g auw
def d17:Res→Option (Bool):=SR.g res1
def d24:Res→Option (List Dt):=SR.g res2
def d7:Res→Option (Int):=SR.g wE
def d29:Res→Option (List Dt):=SR.g aMO
def d13:Res→Option (Dt):=SR.g aMP
def d12:Res→Option (List Dt):=SR.g aMQ
def d30:Res→Option (Dt):=SR.g aMR
def d31:Res→Option (List Dt):=SR.g aCL
def d79:Res→Option (List Dt):=SR.g aMS
def d80:Res→Option (Dt):=SR.g azN
def d32:Res→Option (Dt):=SR.g azO
def d33:Res→Option (Dt):=SR.g azP
def d81:Res→Option (List Dt):=SR.g azQ
def d34:Res→Option (List Dt):=SR.g azR
def d35:Res→Option (List Dt):=SR.g aqD
def d37:Res→Option (Dt):=SR.g azS
def d36:Res→Option (List Dt):=SR.g azT
def d39:Res→Option (Dt):=SR.g azU
def d38:Res→Option (List Dt):=SR.g azV
def d14:Res→Option (Dt):=SR.g azW
def d41:Res→Option (Dt):=SR.g azX
def d40:Res→Option (List Dt):=SR.g azY
def d43:Res→Option (Dt):=SR.g azZ
def d42:Res→Option (List Dt):=SR.g az0
def d15:Res→Option (List Dt):=SR.g az1
def d16:Res→Option (Dt):=SR.g az2
def d44:Res→Option (List Dt):=SR.g az3
def d45:Res→Option (Dt):=SR.g az4
def d70:Res→Option (Int):=SR.g dw
def aUK:Res→Option (Int×Int):=SR.g az5
def d4:Res→Option (Dt×List Dt):=SR.g aqE
def aGA (args:List AV) (objs:List Ob):Option (Dt×Int×Int):=match args,objs with
 | [.dat T0 x0,.dat T1 x1,.ptr n2 p2 o2],[.box T3 (.dat T4 x4)]=>bif (Nat.beq T0 39&&(Nat.beq T1 3&&(Nat.beq n2 0&&(natsB p2 []&&(Nat.beq o2 0&&(Nat.beq T3 3&&Nat.beq T4 3)))))) then some (x0,x1.toInt,x4.toInt) else none
 |_,_=>none
theorem aGB {args:List AV} {objs:List Ob} {l:Dt×Int×Int} (h:aGA args objs=some l):CnA Tryz.prog args [.dat 39 l.1,.dat 3 (.int l.2.1),.ptr 0 [] 0]∧CnOL Tryz.prog objs [.box 3 (.dat 3 (.int l.2.2))]:=by
 unfold aGA at h
 split at h
 ·obtain⟨hc,h2⟩:=bif_some h
  cases h2
  have e0:=beq_eq (and_l hc)
  have e1:=beq_eq (and_l (and_r hc))
  have e2:=beq_eq (and_l (and_r (and_r hc)))
  have e3:=natsB_eq (and_l (and_r (and_r (and_r hc))))
  have e4:=beq_eq (and_l (and_r (and_r (and_r (and_r hc)))))
  have e5:=beq_eq (and_l (and_r (and_r (and_r (and_r (and_r hc))))))
  have e6:=beq_eq (and_r (and_r (and_r (and_r (and_r (and_r hc))))))
  subst e0 e1 e2 e3 e4 e5 e6
  exact⟨(.cons (.of .same rfl rfl) (.cons (.of (.dat (.int Tryz.underlying3)) rfl rfl) (.cons (.of .same rfl rfl) .nil))),(.cons (.box (.dat (.int Tryz.underlying3))) .nil)⟩
 ·cases h
def awP (args:List AV) (objs:List Ob):Option (Dt×Int×Int):=match args,objs with
 | [.dat T0 x0,.dat T1 x1,.ptr n2 p2 o2],[.box T3 (.dat T4 x4)]=>bif (Nat.beq T0 36&&(Nat.beq T1 3&&(Nat.beq n2 0&&(natsB p2 []&&(Nat.beq o2 0&&(Nat.beq T3 3&&Nat.beq T4 3)))))) then some (x0,x1.toInt,x4.toInt) else none
 |_,_=>none
theorem aCM {args:List AV} {objs:List Ob} {l:Dt×Int×Int} (h:awP args objs=some l):CnA Tryz.prog args [.dat 36 l.1,.dat 3 (.int l.2.1),.ptr 0 [] 0]∧CnOL Tryz.prog objs [.box 3 (.dat 3 (.int l.2.2))]:=by
 unfold awP at h
 split at h
 ·obtain⟨hc,h2⟩:=bif_some h
  cases h2
  have e0:=beq_eq (and_l hc)
  have e1:=beq_eq (and_l (and_r hc))
  have e2:=beq_eq (and_l (and_r (and_r hc)))
  have e3:=natsB_eq (and_l (and_r (and_r (and_r hc))))
  have e4:=beq_eq (and_l (and_r (and_r (and_r (and_r hc)))))
  have e5:=beq_eq (and_l (and_r (and_r (and_r (and_r (and_r hc))))))
  have e6:=beq_eq (and_r (and_r (and_r (and_r (and_r (and_r hc))))))
  subst e0 e1 e2 e3 e4 e5 e6
  exact⟨(.cons (.of .same rfl rfl) (.cons (.of (.dat (.int Tryz.underlying3)) rfl rfl) (.cons (.of .same rfl rfl) .nil))),(.cons (.box (.dat (.int Tryz.underlying3))) .nil)⟩
 ·cases h
def awQ (args:List AV) (objs:List Ob):Option (Dt×Int×Int):=match args,objs with
 | [.dat T0 x0,.fn T1 [.ptr n2 p2 o2,.ptr n3 p3 o3]],[.box T4 (.dat T5 x5),.box T6 (.dat T7 x7)]=>bif (Nat.beq T0 30&&(Nat.beq T1 239&&(Nat.beq n2 0&&(natsB p2 []&&(Nat.beq o2 0&&(Nat.beq n3 1&&(natsB p3 []&&(Nat.beq o3 0&&(Nat.beq T4 3&&(Nat.beq T5 3&&(Nat.beq T6 3&&Nat.beq T7 3))))))))))) then some (x0,x5.toInt,x7.toInt) else none
 |_,_=>none
theorem aCN {args:List AV} {objs:List Ob} {l:Dt×Int×Int} (h:awQ args objs=some l):CnA Tryz.prog args [.dat 30 l.1,(.fn 239 [.ptr 0 [] 0,.ptr 1 [] 0])]∧CnOL Tryz.prog objs [.box 3 (.dat 3 (.int l.2.1)),.box 3 (.dat 3 (.int l.2.2))]:=by
 unfold awQ at h
 split at h
 ·obtain⟨hc,h2⟩:=bif_some h
  cases h2
  have e0:=beq_eq (and_l hc)
  have e1:=beq_eq (and_l (and_r hc))
  have e2:=beq_eq (and_l (and_r (and_r hc)))
  have e3:=natsB_eq (and_l (and_r (and_r (and_r hc))))
  have e4:=beq_eq (and_l (and_r (and_r (and_r (and_r hc)))))
  have e5:=beq_eq (and_l (and_r (and_r (and_r (and_r (and_r hc))))))
  have e6:=natsB_eq (and_l (and_r (and_r (and_r (and_r (and_r (and_r hc)))))))
  have e7:=beq_eq (and_l (and_r (and_r (and_r (and_r (and_r (and_r (and_r hc))))))))
  have e8:=beq_eq (and_l (and_r (and_r (and_r (and_r (and_r (and_r (and_r (and_r hc)))))))))
  have e9:=beq_eq (and_l (and_r (and_r (and_r (and_r (and_r (and_r (and_r (and_r (and_r hc))))))))))
  have e10:=beq_eq (and_l (and_r (and_r (and_r (and_r (and_r (and_r (and_r (and_r (and_r (and_r hc)))))))))))
  have e11:=beq_eq (and_r (and_r (and_r (and_r (and_r (and_r (and_r (and_r (and_r (and_r (and_r hc)))))))))))
  subst e0 e1 e2 e3 e4 e5 e6 e7 e8 e9 e10 e11
  exact⟨(.cons (.of .same rfl rfl) (.cons (.of (.fn (.cons .same (.cons .same .nil))) rfl rfl) .nil)),(.cons (.box (.dat (.int Tryz.underlying3))) (.cons (.box (.dat (.int Tryz.underlying3))) .nil))⟩
 ·cases h
def arx (args:List AV) (objs:List Ob):Option (Dt×Int×Int):=match args,objs with
 | [.dat T0 x0,.ptr n1 p1 o1,.ptr n2 p2 o2],[.box T3 (.dat T4 x4),.box T5 (.dat T6 x6)]=>bif (Nat.beq T0 30&&(Nat.beq n1 0&&(natsB p1 []&&(Nat.beq o1 0&&(Nat.beq n2 1&&(natsB p2 []&&(Nat.beq o2 0&&(Nat.beq T3 3&&(Nat.beq T4 3&&(Nat.beq T5 3&&Nat.beq T6 3)))))))))) then some (x0,x4.toInt,x6.toInt) else none
 |_,_=>none
theorem aqF {args:List AV} {objs:List Ob} {l:Dt×Int×Int} (h:arx args objs=some l):CnA Tryz.prog args [.dat 30 l.1,.ptr 0 [] 0,.ptr 1 [] 0]∧CnOL Tryz.prog objs [.box 3 (.dat 3 (.int l.2.1)),.box 3 (.dat 3 (.int l.2.2))]:=by
 unfold arx at h
 split at h
 ·obtain⟨hc,h2⟩:=bif_some h
  cases h2
  have e0:=beq_eq (and_l hc)
  have e1:=beq_eq (and_l (and_r hc))
  have e2:=natsB_eq (and_l (and_r (and_r hc)))
  have e3:=beq_eq (and_l (and_r (and_r (and_r hc))))
  have e4:=beq_eq (and_l (and_r (and_r (and_r (and_r hc)))))
  have e5:=natsB_eq (and_l (and_r (and_r (and_r (and_r (and_r hc))))))
  have e6:=beq_eq (and_l (and_r (and_r (and_r (and_r (and_r (and_r hc)))))))
  have e7:=beq_eq (and_l (and_r (and_r (and_r (and_r (and_r (and_r (and_r hc))))))))
  have e8:=beq_eq (and_l (and_r (and_r (and_r (and_r (and_r (and_r (and_r (and_r hc)))))))))
  have e9:=beq_eq (and_l (and_r (and_r (and_r (and_r (and_r (and_r (and_r (and_r (and_r hc))))))))))
  have e10:=beq_eq (and_r (and_r (and_r (and_r (and_r (and_r (and_r (and_r (and_r (and_r hc))))))))))
  subst e0 e1 e2 e3 e4 e5 e6 e7 e8 e9 e10
  exact⟨(.cons (.of .same rfl rfl) (.cons (.of .same rfl rfl) (.cons (.of .same rfl rfl) .nil))),(.cons (.box (.dat (.int Tryz.underlying3))) (.cons (.box (.dat (.int Tryz.underlying3))) .nil))⟩
 ·cases h
def awR (args:List AV) (objs:List Ob):Option (Dt×Int×Int):=match args,objs with
 | [.dat T0 x0,.fn T1 [.ptr n2 p2 o2,.ptr n3 p3 o3]],[.box T4 (.dat T5 x5),.box T6 (.dat T7 x7)]=>bif (Nat.beq T0 30&&(Nat.beq T1 240&&(Nat.beq n2 0&&(natsB p2 []&&(Nat.beq o2 0&&(Nat.beq n3 1&&(natsB p3 []&&(Nat.beq o3 0&&(Nat.beq T4 3&&(Nat.beq T5 3&&(Nat.beq T6 3&&Nat.beq T7 3))))))))))) then some (x0,x5.toInt,x7.toInt) else none
 |_,_=>none
theorem aCO {args:List AV} {objs:List Ob} {l:Dt×Int×Int} (h:awR args objs=some l):CnA Tryz.prog args [.dat 30 l.1,(.fn 240 [.ptr 0 [] 0,.ptr 1 [] 0])]∧CnOL Tryz.prog objs [.box 3 (.dat 3 (.int l.2.1)),.box 3 (.dat 3 (.int l.2.2))]:=by
 unfold awR at h
 split at h
 ·obtain⟨hc,h2⟩:=bif_some h
  cases h2
  have e0:=beq_eq (and_l hc)
  have e1:=beq_eq (and_l (and_r hc))
  have e2:=beq_eq (and_l (and_r (and_r hc)))
  have e3:=natsB_eq (and_l (and_r (and_r (and_r hc))))
  have e4:=beq_eq (and_l (and_r (and_r (and_r (and_r hc)))))
  have e5:=beq_eq (and_l (and_r (and_r (and_r (and_r (and_r hc))))))
  have e6:=natsB_eq (and_l (and_r (and_r (and_r (and_r (and_r (and_r hc)))))))
  have e7:=beq_eq (and_l (and_r (and_r (and_r (and_r (and_r (and_r (and_r hc))))))))
  have e8:=beq_eq (and_l (and_r (and_r (and_r (and_r (and_r (and_r (and_r (and_r hc)))))))))
  have e9:=beq_eq (and_l (and_r (and_r (and_r (and_r (and_r (and_r (and_r (and_r (and_r hc))))))))))
  have e10:=beq_eq (and_l (and_r (and_r (and_r (and_r (and_r (and_r (and_r (and_r (and_r (and_r hc)))))))))))
  have e11:=beq_eq (and_r (and_r (and_r (and_r (and_r (and_r (and_r (and_r (and_r (and_r (and_r hc)))))))))))
  subst e0 e1 e2 e3 e4 e5 e6 e7 e8 e9 e10 e11
  exact⟨(.cons (.of .same rfl rfl) (.cons (.of (.fn (.cons .same (.cons .same .nil))) rfl rfl) .nil)),(.cons (.box (.dat (.int Tryz.underlying3))) (.cons (.box (.dat (.int Tryz.underlying3))) .nil))⟩
 ·cases h
section
variable {R:Type} (m:Nat) (args:List AV) (objs:List Ob) (K:Res→Option R)
def aUL:Option R:=match aGA args objs with
 |some l=>(i27 m l.1 l.2.1 l.2.2).bind fun r=>K ((.dat 4 (.bool r.1)),[.box 3 (.dat 3 (.int r.2))])
 |none=>none
def aGC:Option R:=match awP args objs with
 |some l=>(OX m l.1 l.2.1 l.2.2).bind fun r=>K ((.dat 23 (.int r.1)),[.box 3 (.dat 3 (.int r.2))])
 |none=>none
def aGD:Option R:=match awQ args objs with
 |some l=>(axE m l.1 l.2.1 l.2.2).bind fun r=>K ((.tup []),[.box 3 (.dat 3 (.int r.1)),.box 3 (.dat 3 (.int r.2))])
 |none=>match awR args objs with
 |some l=>(i160 m l.1 l.2.1 l.2.2).bind fun r=>K ((.tup []),[.box 3 (.dat 3 (.int r.1)),.box 3 (.dat 3 (.int r.2))])
 |none=>none
def aGE:Option R:=match arx args objs with
 |some l=>(i159 m l.1 l.2.1 l.2.2).bind fun r=>K ((.dat 4 (.bool r.1)),[.box 3 (.dat 3 (.int r.2.1)),.box 3 (.dat 3 (.int r.2.2))])
 |none=>none
def aGF:Option R:=match arx args objs with
 |some l=>(GK m l.1 l.2.1 l.2.2).bind fun r=>K ((.dat 4 (.bool r.1)),[.box 3 (.dat 3 (.int r.2.1)),.box 3 (.dat 3 (.int r.2.2))])
 |none=>none
end
def d27 (q:Res):Option (Bool×Int):=match q with
 |(.dat T0 x0,[.box T1 (.dat T2 x2)])=>bif (Nat.beq T0 4&&(Nat.beq T1 3&&Nat.beq T2 3)) then some (x0.toBool,x2.toInt) else none
 |_=>none
theorem aM5 {b:Res} {r:Bool×Int} (h:d27 b=some r):Sim Tryz.prog b ((.dat 4 (.bool r.1)),[.box 3 (.dat 3 (.int r.2))]):=by
 unfold d27 at h
 split at h
 ·obtain⟨hc,h2⟩:=bif_some h
  cases h2
  have e0:=beq_eq (and_l hc)
  have e1:=beq_eq (and_l (and_r hc))
  have e2:=beq_eq (and_r (and_r hc))
  subst e0 e1 e2
  exact Sim.of (.of (.dat (.bool Tryz.underlying4)) rfl rfl) (.cons (.box (.dat (.int Tryz.underlying3))) .nil)
 ·cases h
def aCP (q:Res):Option (Int×Int):=match q with
 |(.tup [],[.box T0 (.dat T1 x1),.box T2 (.dat T3 x3)])=>bif (Nat.beq T0 3&&(Nat.beq T1 3&&(Nat.beq T2 3&&Nat.beq T3 3))) then some (x1.toInt,x3.toInt) else none
 |_=>none
theorem auO {b:Res} {r:Int×Int} (h:aCP b=some r):Sim Tryz.prog b ((.tup []),[.box 3 (.dat 3 (.int r.1)),.box 3 (.dat 3 (.int r.2))]):=by
 unfold aCP at h
 split at h
 ·obtain⟨hc,h2⟩:=bif_some h
  cases h2
  have e0:=beq_eq (and_l hc)
  have e1:=beq_eq (and_l (and_r hc))
  have e2:=beq_eq (and_l (and_r (and_r hc)))
  have e3:=beq_eq (and_r (and_r (and_r hc)))
  subst e0 e1 e2 e3
  exact Sim.of (.tup .nil) (.cons (.box (.dat (.int Tryz.underlying3))) (.cons (.box (.dat (.int Tryz.underlying3))) .nil))
 ·cases h
def aM6 (q:Res):Option (Bool×Int×Int):=match q with
 |(.dat T0 x0,[.box T1 (.dat T2 x2),.box T3 (.dat T4 x4)])=>bif (Nat.beq T0 4&&(Nat.beq T1 3&&(Nat.beq T2 3&&(Nat.beq T3 3&&Nat.beq T4 3)))) then some (x0.toBool,x2.toInt,x4.toInt) else none
 |_=>none
theorem auP {b:Res} {r:Bool×Int×Int} (h:aM6 b=some r):Sim Tryz.prog b ((.dat 4 (.bool r.1)),[.box 3 (.dat 3 (.int r.2.1)),.box 3 (.dat 3 (.int r.2.2))]):=by
 unfold aM6 at h
 split at h
 ·obtain⟨hc,h2⟩:=bif_some h
  cases h2
  have e0:=beq_eq (and_l hc)
  have e1:=beq_eq (and_l (and_r hc))
  have e2:=beq_eq (and_l (and_r (and_r hc)))
  have e3:=beq_eq (and_l (and_r (and_r (and_r hc))))
  have e4:=beq_eq (and_r (and_r (and_r (and_r hc))))
  subst e0 e1 e2 e3 e4
  exact Sim.of (.of (.dat (.bool Tryz.underlying4)) rfl rfl) (.cons (.box (.dat (.int Tryz.underlying3))) (.cons (.box (.dat (.int Tryz.underlying3))) .nil))
 ·cases h
def aM7 (q:Res):Option (Int×Int):=match q with
 |(.dat T0 x0,[.box T1 (.dat T2 x2)])=>bif (Nat.beq T0 23&&(Nat.beq T1 3&&Nat.beq T2 3)) then some (x0.toInt,x2.toInt) else none
 |_=>none
theorem aGG {b:Res} {r:Int×Int} (h:aM7 b=some r):Sim Tryz.prog b ((.dat 23 (.int r.1)),[.box 3 (.dat 3 (.int r.2))]):=by
 unfold aM7 at h
 split at h
 ·obtain⟨hc,h2⟩:=bif_some h
  cases h2
  have e0:=beq_eq (and_l hc)
  have e1:=beq_eq (and_l (and_r hc))
  have e2:=beq_eq (and_r (and_r hc))
  subst e0 e1 e2
  exact Sim.of (.of (.dat (.int Tryz.underlying23)) rfl rfl) (.cons (.box (.dat (.int Tryz.underlying3))) .nil)
 ·cases h
def ctE (m:Nat) (f:FuncId):Option Ent:=
 bif Nat.beq f 3 then some ⟨alJ,res1,nR m⟩ else
 bif Nat.beq f 5 then some ⟨alJ,dw,rJ m⟩ else
 bif Nat.beq f 6 then some ⟨aWf,res1,amq⟩ else
 bif Nat.beq f 7 then some ⟨alJ,aqE,pW m⟩ else
 bif Nat.beq f 8 then some ⟨alJ,aqE,vX m⟩ else
 bif Nat.beq f 9 then some ⟨aUF,res1,jV m⟩ else
 bif Nat.beq f 10 then some ⟨aUG,res1,bg m⟩ else
 bif Nat.beq f 14 then some ⟨aFb,wE,bB m⟩ else
 bif Nat.beq f 15 then some ⟨aUH,dw,aF m⟩ else
 bif Nat.beq f 18 then some ⟨alJ,auw,rO m⟩ else
 bif Nat.beq f 19 then some ⟨Uc,dw,kV m⟩ else
 bif Nat.beq f 20 then some ⟨Uc,auw,aQ m⟩ else
 bif Nat.beq f 21 then some ⟨aUI,aMQ,i12 m⟩ else
 bif Nat.beq f 22 then some ⟨aUJ,aMP,fG m⟩ else
 bif Nat.beq f 23 then some ⟨awO,azW,bW m⟩ else
 bif Nat.beq f 24 then some ⟨aFc,az1,i15 m⟩ else
 bif Nat.beq f 25 then some ⟨Ej,az2,aX m⟩ else
 bif Nat.beq f 26 then some ⟨aFd,res1,oH m⟩ else
 bif Nat.beq f 28 then some ⟨aFb,auw,u7 m⟩ else
 bif Nat.beq f 27 then some ⟨Uc,dw,mG m⟩ else
 bif Nat.beq f 29 then some ⟨aui,res1,aR m⟩ else
 bif Nat.beq f 13 then some ⟨auj,res1,gF m⟩ else
 bif Nat.beq f 30 then some ⟨auk,res1,vw m⟩ else
 bif Nat.beq f 31 then some ⟨aFe,res1,bH m⟩ else
 bif Nat.beq f 34 then some ⟨Ej,res2,oI m⟩ else
 bif Nat.beq f 36 then some ⟨Ej,dw,dR m⟩ else
 bif Nat.beq f 35 then some ⟨Ej,res1,qX m⟩ else
 bif Nat.beq f 40 then some ⟨alK,dw,bC m⟩ else
 bif Nat.beq f 41 then some ⟨Ud,aMO,aM m⟩ else
 bif Nat.beq f 42 then some ⟨sO,aMR,aS m⟩ else
 bif Nat.beq f 43 then some ⟨aFf,aCL,i31 m⟩ else
 bif Nat.beq f 44 then some ⟨adq,azO,dD m⟩ else
 bif Nat.beq f 45 then some ⟨El,azP,aK m⟩ else
 bif Nat.beq f 46 then some ⟨aFg,azR,i34 m⟩ else
 bif Nat.beq f 47 then some ⟨aFh,aqD,i35 m⟩ else
 bif Nat.beq f 48 then some ⟨aFi,azT,i36 m⟩ else
 bif Nat.beq f 49 then some ⟨aFj,azS,fH m⟩ else
 bif Nat.beq f 50 then some ⟨aFk,azV,i38 m⟩ else
 bif Nat.beq f 51 then some ⟨aFl,azU,dH m⟩ else
 bif Nat.beq f 52 then some ⟨aFm,azY,i40 m⟩ else
 bif Nat.beq f 53 then some ⟨aul,azX,iC m⟩ else
 bif Nat.beq f 54 then some ⟨aFo,az0,i42 m⟩ else
 bif Nat.beq f 55 then some ⟨aum,azZ,iD m⟩ else
 bif Nat.beq f 56 then some ⟨aFp,az3,i44 m⟩ else
 bif Nat.beq f 57 then some ⟨aFq,az4,aZ m⟩ else
 bif Nat.beq f 58 then some ⟨aFr,wE,bF m⟩ else
 bif Nat.beq f 59 then some ⟨alK,dw,aN m⟩ else
 bif Nat.beq f 33 then some ⟨adr,res1,aL m⟩ else
 bif Nat.beq f 60 then some ⟨aun,res1,aC m⟩ else
 bif Nat.beq f 61 then some ⟨aFs,res1,cu m⟩ else
 bif Nat.beq f 62 then some ⟨auo,res1,dz m⟩ else
 bif Nat.beq f 63 then some ⟨aFt,res1,cB m⟩ else
 bif Nat.beq f 72 then some ⟨aFu,res1,aW m⟩ else
 bif Nat.beq f 71 then some ⟨aFv,res1,bO m⟩ else
 bif Nat.beq f 68 then some ⟨auo,res1,aD m⟩ else
 bif Nat.beq f 69 then some ⟨aFw,res1,jW m⟩ else
 bif Nat.beq f 70 then some ⟨aFx,res1,iU m⟩ else
 bif Nat.beq f 64 then some ⟨aui,res1,aY m⟩ else
 bif Nat.beq f 65 then some ⟨auk,res1,bM m⟩ else
 bif Nat.beq f 66 then some ⟨aup,res1,ni m⟩ else
 bif Nat.beq f 67 then some ⟨auj,res1,dA m⟩ else
 bif Nat.beq f 80 then some ⟨awO,dw,vY m⟩ else
 bif Nat.beq f 81 then some ⟨aFy,dw,vZ m⟩ else
 bif Nat.beq f 82 then some ⟨auq,dw,wh m⟩ else
 bif Nat.beq f 83 then some ⟨aur,dw,oN m⟩ else
 bif Nat.beq f 84 then some ⟨Ej,dw,gY m⟩ else
 bif Nat.beq f 85 then some ⟨aFz,dw,gZ m⟩ else
 bif Nat.beq f 86 then some ⟨Ej,dw,rZ m⟩ else
 bif Nat.beq f 87 then some ⟨Ej,dw,zy m⟩ else
 bif Nat.beq f 88 then some ⟨aus,dw,vJ m⟩ else
 bif Nat.beq f 89 then some ⟨Ej,dw,oM m⟩ else
 bif Nat.beq f 74 then some ⟨aFA,res1,bY m⟩ else
 bif Nat.beq f 75 then some ⟨El,res1,dB m⟩ else
 bif Nat.beq f 79 then some ⟨aus,res1,fA m⟩ else
 bif Nat.beq f 76 then some ⟨auq,res1,iF m⟩ else
 bif Nat.beq f 77 then some ⟨aur,res1,dQ m⟩ else
 bif Nat.beq f 78 then some ⟨aFB,res1,bL m⟩ else
 bif Nat.beq f 97 then some ⟨alK,dw,fF m⟩ else
 bif Nat.beq f 98 then some ⟨aFC,aMS,i79 m⟩ else
 bif Nat.beq f 99 then some ⟨aFD,azN,bn m⟩ else
 bif Nat.beq f 100 then some ⟨aFE,azQ,i81 m⟩ else
 bif Nat.beq f 104 then some ⟨qb,res1,iY m⟩ else
 bif Nat.beq f 105 then some ⟨Ud,res1,bG m⟩ else
 bif Nat.beq f 106 then some ⟨qb,res1,gP m⟩ else
 bif Nat.beq f 107 then some ⟨sO,res1,dJ m⟩ else
 bif Nat.beq f 102 then some ⟨qb,res1,bX m⟩ else
 bif Nat.beq f 109 then some ⟨adq,dw,iG m⟩ else
 bif Nat.beq f 110 then some ⟨Uc,res1,l5 m⟩ else
 bif Nat.beq f 111 then some ⟨El,dw,aV m⟩ else
 bif Nat.beq f 108 then some ⟨qb,res1,fZ m⟩ else
 bif Nat.beq f 101 then some ⟨Uc,res1,vo m⟩ else
 bif Nat.beq f 103 then some ⟨Uc,res1,iZ m⟩ else
 bif Nat.beq f 73 then some ⟨adr,res1,jc m⟩ else
 bif Nat.beq f 112 then some ⟨aup,res1,cO m⟩ else
 bif Nat.beq f 113 then some ⟨awO,aqD,qY m⟩ else
 bif Nat.beq f 114 then some ⟨adr,res1,gM m⟩ else
 bif Nat.beq f 115 then some ⟨Gr,res1,bR m⟩ else
 bif Nat.beq f 116 then some ⟨aul,dw,zY m⟩ else
 bif Nat.beq f 117 then some ⟨aFF,dw,mE m⟩ else
 bif Nat.beq f 118 then some ⟨aum,dw,zZ m⟩ else
 bif Nat.beq f 119 then some ⟨Gr,res1,eF m⟩ else
 bif Nat.beq f 120 then some ⟨aun,wE,aJ m⟩ else
 bif Nat.beq f 129 then some ⟨qb,res1,cZ m⟩ else
 bif Nat.beq f 131 then some ⟨qb,res1,gG m⟩ else
 bif Nat.beq f 132 then some ⟨Ud,res1,pq m⟩ else
 bif Nat.beq f 133 then some ⟨qb,res1,fJ m⟩ else
 bif Nat.beq f 134 then some ⟨sO,res1,jA m⟩ else
 bif Nat.beq f 136 then some ⟨adq,dw,CU m⟩ else
 bif Nat.beq f 137 then some ⟨Uc,res1,j5 m⟩ else
 bif Nat.beq f 138 then some ⟨El,dw,sw m⟩ else
 bif Nat.beq f 135 then some ⟨qb,res1,dF m⟩ else
 bif Nat.beq f 130 then some ⟨Uc,res1,gW m⟩ else
 bif Nat.beq f 128 then some ⟨alL,res1,jR m⟩ else
 bif Nat.beq f 139 then some ⟨sO,wE,rG m⟩ else
 bif Nat.beq f 140 then some ⟨sO,wE,rH m⟩ else
 bif Nat.beq f 141 then some ⟨aut,res1,aB m⟩ else
 bif Nat.beq f 142 then some ⟨auu,res1,xW m⟩ else
 bif Nat.beq f 143 then some ⟨qb,res1,qx m⟩ else
 bif Nat.beq f 146 then some ⟨El,res1,je m⟩ else
 bif Nat.beq f 145 then some ⟨adq,res1,jd m⟩ else
 bif Nat.beq f 144 then some ⟨sO,res1,gq m⟩ else
 bif Nat.beq f 147 then some ⟨aFG,az5,bS m⟩ else
 bif Nat.beq f 148 then some ⟨adr,res1,zA m⟩ else
 bif Nat.beq f 149 then some ⟨alL,wE,gX m⟩ else
 bif Nat.beq f 150 then some ⟨aFH,wE,oK m⟩ else
 bif Nat.beq f 173 then some ⟨auv,res1,aDf m⟩ else
 bif Nat.beq f 209 then some ⟨auv,wE,i127 m⟩ else
 bif Nat.beq f 174 then some ⟨Gr,res1,wJ m⟩ else
 bif Nat.beq f 175 then some ⟨sO,wE,ru m⟩ else
 bif Nat.beq f 176 then some ⟨sO,wE,rz m⟩ else
 bif Nat.beq f 177 then some ⟨sO,res1,aI m⟩ else
 bif Nat.beq f 179 then some ⟨auu,res1,qZ m⟩ else
 bif Nat.beq f 178 then some ⟨qb,res1,fC m⟩ else
 bif Nat.beq f 180 then some ⟨sO,res1,gH m⟩ else
 bif Nat.beq f 181 then some ⟨qb,res1,jZ m⟩ else
 bif Nat.beq f 182 then some ⟨El,res1,eG m⟩ else
 bif Nat.beq f 214 then some ⟨El,dw,qO m⟩ else
 bif Nat.beq f 184 then some ⟨ads,wE,bV m⟩ else
 bif Nat.beq f 185 then some ⟨ads,wE,eO m⟩ else
 bif Nat.beq f 186 then some ⟨Gr,res1,CY m⟩ else
 bif Nat.beq f 187 then some ⟨aut,res1,bf m⟩ else
 bif Nat.beq f 188 then some ⟨El,dw,zF m⟩ else
 bif Nat.beq f 210 then some ⟨ads,wE,vP m⟩ else
 bif Nat.beq f 211 then some ⟨ads,wE,vQ m⟩ else
 bif Nat.beq f 212 then some ⟨Gr,res1,utf8_ValidString⟩ else
 bif Nat.beq f 213 then some ⟨aFI,res1,aG m⟩ else
 bif Nat.beq f 245 then some ⟨Gr,res1,rA m⟩ else
 bif Nat.beq f 247 then some ⟨sO,res1,vR m⟩ else
 bif Nat.beq f 246 then some ⟨Ud,res1,iV m⟩ else
 bif Nat.beq f 244 then some ⟨qb,wE,CX m⟩ else
 bif Nat.beq f 243 then some ⟨alL,res1,Bl m⟩ else
 bif Nat.beq f 215 then some ⟨sO,aCL,rF m⟩ else
 bif Nat.beq f 216 then some ⟨aFJ,res1,zC m⟩ else
 bif Nat.beq f 217 then some ⟨Gr,res1,zD m⟩ else
 bif Nat.beq f 219 then some ⟨Ud,res1,zX m⟩ else
 bif Nat.beq f 218 then some ⟨qb,wE,Df m⟩ else
 bif Nat.beq f 242 then some ⟨Gr,res1,wN m⟩ else
 none
def ctX {R:Type} (m:Nat) (f:FuncId) (args:List AV) (objs:List Ob) (K:Res→Option R):Option R:=
 bif Nat.beq f 39 then aUL m args objs K else
 bif Nat.beq f 183 then aGC m args objs K else
 bif Nat.beq f 238 then aGD m args objs K else
 bif Nat.beq f 239 then aGE m args objs K else
 bif Nat.beq f 240 then aGF m args objs K else
 none
def ct {R:Type} (m:Nat) (f:FuncId) (args:List AV) (objs:List Ob) (K:Res→Option R):Option R:=match ctE m f with
 |some e=>e.run args objs K
 |none=>ctX m f args objs K
section
variable {R:Type} {P:Program} {E:Env} {call:FuncId→List AV→List Ob→(Res→Option R)→Option R} {m n M:Nat} {f:FuncId} {fn:Func} {dec:Res→Option R} {p ms:List Nat} {σ:St} {g:(Nat→Nat→Nat→St→Option R→Option R)→Option R} {r:Option R}
theorem tq (e:g jn=r) (h:∀J,evAt P E call J m f n fn dec p ms σ=g J:=by intro J;kernel_rfl):evAt P E call jn m f n fn dec p ms σ=r:=(h jn).trans e
theorem tl (e:g jn=r) (h:∀J,loopAt P E call J m f n fn dec p ms M σ=g J:=by intro J;kernel_rfl):loopAt P E call jn m f n fn dec p ms M σ=r:=(h jn).trans e
end
end Go.Proofs.YtjnkagkoolbodaaGreatDoor
