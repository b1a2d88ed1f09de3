/- Total preorders by comparing functions, in plain Lean: products, lists, values. -/
import Derived.Test.YtjnkagkoolbodaaGreatDoorAm20
import Derived.Lib.Bytealg
set_option linter.unusedVariables false
set_option linter.unusedSimpArgs false
namespace Go.Am
structure TPO {A:Type} (c:A→A→Int):Prop where
 rng:∀a b,c a b= -1∨c a b=0∨c a b=1
 anti:∀a b,c b a= -c a b
 tr:∀a b d,c a b≤0→c b d≤0→c a d≤0
theorem wX {X:Type} {x y:Int} {u v:X} (h:x≠y):(bif x !=y then u else v)=u:=by
 have:(x !=y)=true:=by simpa using h
 rw[this];rfl
theorem LH {X:Type} {x y:Int} {u v:X} (h:x=y):(bif x !=y then u else v)=v:=by subst h;simp
namespace TPO
variable {A B:Type} {c c':A→A→Int}
theorem refl (h:TPO c) (a:A):c a a=0:=by have:=h.anti a a;omega
theorem eql (h:TPO c) {a b d:A} (e:c a b=0):c a d=c b d:=by
 have h1:=h.anti a b
 have h2:=h.anti a d
 have h3:=h.anti b d
 have t1:=h.tr a b d
 have t2:=h.tr b a d
 have t3:=h.tr d a b
 have t4:=h.tr d b a
 have r1:=h.rng a d
 have r2:=h.rng b d
 omega
theorem zero:TPO (fun _ _:A=>0):=⟨fun _ _=> .inr (.inl rfl),fun _ _=>rfl,fun _ _ _ _ _=>Int.le_refl 0⟩
theorem key (h:TPO c) (k:B→A):TPO (fun a b=>c (k a) (k b)):=⟨fun _ _=>h.rng _ _,fun _ _=>h.anti _ _,fun _ _ _=>h.tr _ _ _⟩
theorem neg (h:TPO c):TPO (fun a b=> -c a b):=⟨fun a b=>by have:=h.rng a b;omega,fun a b=>by have:=h.anti a b;omega,fun a b d h1 h2=>by
 have a1:=h.anti a b
 have a2:=h.anti b d
 have a3:=h.anti a d
 have:=h.tr d b a (by omega) (by omega)
 omega⟩
end TPO
def sM (a b:Int):Int:=bif decide (a<b) then -1 else bif decide (b<a) then 1 else 0
theorem dS (a b:Int):(a<b∧sM a b= -1)∨(a=b∧sM a b=0)∨(b<a∧sM a b=1):=by
 unfold sM
 by_cases h:a<b
 ·exact .inl ⟨h,by simp[h]⟩
 ·by_cases h2:b<a
  ·exact .inr (.inr ⟨h2,by simp[h,h2]⟩)
  ·exact .inr (.inl ⟨by omega,by simp[h,h2]⟩)
def cmpL {A:Type} (c:A→A→Int):List A→List A→Int
 |a::r,b::s=>bif c a b !=0 then c a b else cmpL c r s
 | [],[]=>0
 | [],_::_=> -1
 |_::_,[]=>1
theorem oz {A:Type} {c c':A→A→Int}:∀{l r:List A},(∀a∈l,∀b∈r,c a b=c' a b)→cmpL c l r=cmpL c' l r
 | [],[],_=>rfl
 | [],_::_,_=>rfl
 |_::_,[],_=>rfl
 |a::l,b::r,h=>by
  simp only[cmpL,h a (by simp) b (by simp),oz (l:=l) (r:=r) fun x hx y hy=>h x (by simp[hx]) y (by simp[hy])]
def Iq (a b:UInt8):Int:=sM (a.toNat:Int) (b.toNat:Int)
theorem UY:∀l r:List UInt8,Lib.compareBytes l r=cmpL Iq l r
 | [],[]=>rfl
 | [],_::_=>rfl
 |_::_,[]=>rfl
 |a::l,b::r=>by
  simp only[Lib.compareBytes,cmpL,UY l r]
  have hab:a<b↔a.toNat<b.toNat:=UInt8.lt_iff_toNat_lt
  have hba:b<a↔b.toNat<a.toNat:=UInt8.lt_iff_toNat_lt
  rcases dS (a.toNat:Int) (b.toNat:Int) with⟨h,e⟩| ⟨h,e⟩| ⟨h,e⟩
  ·have h1:a<b:=hab.2 (by omega)
   have e':Iq a b= -1:=e
   simp[h1,e']
  ·have h1:¬a<b:=fun x=>by have:=hab.1 x;omega
   have h2:¬b<a:=fun x=>by have:=hba.1 x;omega
   have e':Iq a b=0:=e
   simp[h1,h2,e']
  ·have h1:¬a<b:=fun x=>by have:=hab.1 x;omega
   have h2:b<a:=hba.2 (by omega)
   have e':Iq a b=1:=e
   simp[h1,h2,e']
def Ir (a b:ByteArray):Int:=Lib.compareBytes a.data.toList b.data.toList
def LJ (c:Dt→Dt→Int) (f g:Dt):Int:=bif Ir (Dt.S f 0) (Dt.S g 0) !=0 then Ir (Dt.S f 0) (Dt.S g 0) else c (Dt.fld f 1) (Dt.fld g 1)
def ayT (c:Dt→Dt→Int) (k:Int) (a b:Dt):Int:=
 bif (k==3||k==9||k==10) then sM (Dt.I a 1) (Dt.I b 1)
 else bif (k==4||k==7||k==8) then Ir (Dt.S a 2) (Dt.S b 2)
 else bif k==6 then cmpL c (Dt.L a 3) (Dt.L b 3)
 else bif k==5 then cmpL (LJ c) (Dt.L a 4) (Dt.L b 4) else 0
def qd:Nat→Dt→Dt→Int
 |0,_,_=>0
 |n+1,a,b=>bif (Dt.I a 0 !=Dt.I b 0) then sM (Dt.I a 0) (Dt.I b 0) else ayT (qd n) (Dt.I a 0) a b
end Go.Am
namespace Go.Am.Srt
variable {A:Type} (lt:A→A→Bool)
structure SWO:Prop where
 irr:∀x,lt x x=false
 tr:∀x y z,lt x y=true→lt y z=true→lt x z=true
 ntr:∀x y z,lt x y=false→lt y z=false→lt x z=false
variable {lt}
end Go.Am.Srt
