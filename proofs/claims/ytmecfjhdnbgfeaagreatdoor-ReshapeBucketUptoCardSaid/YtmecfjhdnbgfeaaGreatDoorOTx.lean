/- expr.ofTexts: the contract, put together out of the walk (joining) and the generated part (all else). -/
import Derived.Test.YtmecfjhdnbgfeaaGreatDoorOA
import Derived.Test.YtmecfjhdnbgfeaaGreatDoorP1Fx
set_option linter.unusedVariables false
set_option linter.unusedSimpArgs false
namespace Go.Am
section
variable {P:Program} {V F L D I S:TypeId} {fv ff:Array Field} (hT:VTy P V F L D I S fv ff) {w:World} {ok:Nat→Prop}
include hT
theorem VTy.nil_l:RD P ok w L (.lst []) [.slice none 0 0]:= .lst ⟨0,0,none⟩ (fun _=>[]) hT.l rfl (Nat.le_refl _) (by unfold maxLen;omega) (fun h=>absurd h (by omega)) (fun i hi=>absurd hi (by omega)) (fun i d h=>by simp at h)
theorem VTy.nil_d:RD P ok w D (.lst []) [.slice none 0 0]:= .lst ⟨0,0,none⟩ (fun _=>[]) hT.d rfl (Nat.le_refl _) (by unfold maxLen;omega) (fun h=>absurd h (by omega)) (fun i hi=>absurd hi (by omega)) (fun i d h=>by simp at h)
theorem VTy.mk_v {k n:Int} {s:ByteArray} (hk:IntKind.i64.min≤k∧k≤IntKind.i64.max) (hn:IntKind.i64.min≤n∧n≤IntKind.i64.max) (hs:s.size≤maxLen):
  RD P ok w V (.agg [.int k,.int n,.str s,.lst [],.lst []]) [.int .i64 k,.int .i64 n,.string s,.slice none 0 0,.slice none 0 0]:=by
 refine .agg hT.v (by rw[hT.size_v];rfl) (by rw[hT.cv];rfl) (by simp[Value.oneCell']) (fun i f d hf hd=>?_)
 rcases i with _|_|_|_|_|i
 ·obtain⟨f',h1,h2,h3⟩:=hT.fld_v 0 I 0 rfl
  rw[hf] at h1;cases h1;cases hd;rw[h2,h3,hT.ci]
  exact .int hT.i hk.1 hk.2
 ·obtain⟨f',h1,h2,h3⟩:=hT.fld_v 1 I 1 rfl
  rw[hf] at h1;cases h1;cases hd;rw[h2,h3,hT.ci]
  exact .int hT.i hn.1 hn.2
 ·obtain⟨f',h1,h2,h3⟩:=hT.fld_v 2 S 2 rfl
  rw[hf] at h1;cases h1;cases hd;rw[h2,h3,hT.cs]
  exact .str hT.s hs
 ·obtain⟨f',h1,h2,h3⟩:=hT.fld_v 3 L 3 rfl
  rw[hf] at h1;cases h1;cases hd;rw[h2,h3,hT.cl]
  exact hT.nil_l
 ·obtain⟨f',h1,h2,h3⟩:=hT.fld_v 4 D 4 rfl
  rw[hf] at h1;cases h1;cases hd;rw[h2,h3,hT.cd]
  exact hT.nil_d
 ·cases hd
end
end Go.Am
namespace Go.Proofs.YtmecfjhdnbgfeaaGreatDoor
open Go.Am
noncomputable def bR (op:Int) (l:List Dt):Option Dt:=
 bif op==21 then
  bif Nat.ble (catB l).length 137438953472 then some (bif l.all (fun d=>Dt.I d 0==4) then y8 ⟨(catB l).toArray⟩ else aqt) else none
 else P1.expr_ofTexts 100 op l
theorem Vq {l:List Dt} (h:(catB l).length≤137438953472):FX Tryz.prog 164 [.dat 3 (.int 21),.dat 23 (.lst l)] [] (.dat 26 (bif l.all (fun d=>Dt.I d 0==4) then y8 ⟨(catB l).toArray⟩ else aqt)) []:=by
 refine KC fun ok w β vs hok hvs htab=>?_
 obtain⟨z1,z2,rfl,h1,h2⟩:=alz hvs
 obtain⟨_,rfl,_⟩:=RV.int Tryz.underlying3 h1
 obtain⟨fv,ff,hT⟩:=tV
 obtain⟨_,hrd,_⟩:=RV.lst hT.l h2
 refine(Xc l ok w z2 hrd hok h).mono ?_
 rintro e w' ⟨rfl,hb⟩
 have hag:bW Tryz.prog 26=true:=by kernel_rfl
 have i0:IntKind.i64.min≤0∧(0:Int)≤IntKind.i64.max:=by simp[IntKind.min,IntKind.max,IntKind.signed,IntKind.bits]
 have i2:IntKind.i64.min≤2∧(2:Int)≤IntKind.i64.max:=by simp[IntKind.min,IntKind.max,IntKind.signed,IntKind.bits]
 have i4:IntKind.i64.min≤4∧(4:Int)≤IntKind.i64.max:=by simp[IntKind.min,IntKind.max,IntKind.signed,IntKind.bits]
 refine⟨_,rfl,hb,(RV.dat_agg hag).2 ?_⟩
 cases l.all (fun d=>Dt.I d 0==4) with
 |true=>exact⟨_,rfl,hT.mk_v i4 i0 (by
  show (List.toArray _).size≤_
  rw[List.size_toArray];unfold maxLen;omega)⟩
 |false=>exact⟨_,rfl,hT.mk_v i2 i0 (by show (#[]:Array UInt8).size≤_;simp)⟩
theorem Gx {op:Int} {l:List Dt} {r:Dt} (h:bR op l=some r):FX Tryz.prog 164 [.dat 3 (.int op),.dat 23 (.lst l)] [] (.dat 26 r) []:=by
 unfold bR at h
 cases h0:op==21 with
 |true=>
  rw[h0,cond_true] at h
  have e0:op=21:=by simpa using h0
  subst e0
  cases h1:Nat.ble (catB l).length 137438953472 with
  |true=>
   rw[h1,cond_true] at h
   cases h
   exact Vq (Nat.le_of_ble_eq_true h1)
  |false=>rw[h1] at h;cases h
 |false=>
  rw[h0,cond_false] at h
  exact P1.expr_ofTexts_fx 99 (P1.ct_ok 99) op l h
end Go.Proofs.YtmecfjhdnbgfeaaGreatDoor
