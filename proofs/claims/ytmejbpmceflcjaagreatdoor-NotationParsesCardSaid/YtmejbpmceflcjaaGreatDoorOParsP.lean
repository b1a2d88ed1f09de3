/- strconv.ParseInt at base 10 and 64 bits, at numerals, as the machine sees it. -/
import Derived.Shelf.Strconv.ParseIntPublic10
import Derived.Lib.AtoiErrMem
import Derived.Test.YtmejbpmceflcjaaGreatDoorOLibN
import Derived.Test.YtmejbpmceflcjaaGreatDoorOAppF
set_option linter.unusedVariables false
set_option linter.unusedSimpArgs false
namespace Go.Proofs.YtmejbpmceflcjaaGreatDoor
open Go.RowKit Go.Lib Go.Am
def numOf (s:List UInt8):NumEnd Int→Option (Int×Bool)
 | .ok v=>some (v,true)
 | .range=>some (intSat 64 s,false)
 |_=>none
def strconv_ParseInt (s:ByteArray) (b z:Int):Option (Int×Bool):=
 bif (decide (b=10)&&(decide (z=64)&&Nat.ble s.size 1000000000)) then
    (numOf s.data.toList (parseIntB 64 s.data.toList)).bind fun v=>bif (decide (-9223372036854775808≤v.1)&&decide (v.1≤9223372036854775807)) then some v else none
 else none
theorem hbP:HasBody Tryz.prog 73:=⟨_,Tryz.func73,rfl,by decide⟩
theorem rv_numNif {ok:Nat→Prop} {w:World} {β:Nat→Option Value} {v:Int} {z:Value} {b:Bool} (h0: -9223372036854775808≤v) (h1:v≤9223372036854775807) (hz:RA Tryz.prog ok w β (.nif b) [z]):RV Tryz.prog ok w β (.tup [.dat 2 (.int v),.nif b]) (.tuple #[.int .i64 v,z]):=by
 refine⟨#[.int .i64 v,z],rfl,rfl,fun i av hi=>?_⟩
 match i,hi with
 |0,hi=>
  cases hi
  exact RV.to1 (by simp) (by simp) (RV.mk_int Tryz.underlying2 h0 h1)
 |1,hi=>
  cases hi
  exact⟨fun hi=>by simp[AV.isAgg] at hi,fun _=>hz⟩
 |i+2,hi=>simp at hi
theorem ParseInt_fx {s:ByteArray} {b z:Int} {r:Int×Bool} (h:strconv_ParseInt s b z=some r):FX Tryz.prog 73 [.dat 9 (.str s),.dat 3 (.int b),.dat 3 (.int z)] [] (.tup [.dat 2 (.int r.1),.nif r.2]) []:=by
 unfold strconv_ParseInt at h
 obtain⟨hc,h⟩:=bif_some h
 obtain⟨v',hv,h⟩:=Option.bind_eq_some_iff.1 h
 obtain⟨hr,h⟩:=bif_some h
 cases h
 have hb:b=10:=of_decide_eq_true (and_l hc)
 have hz:z=64:=of_decide_eq_true (and_l (and_r hc))
 subst hb hz
 have hs1:=Nat.le_of_ble_eq_true (and_r (and_r hc))
 have h0:=of_decide_eq_true (and_l hr)
 have h1:=of_decide_eq_true (and_r hr)
 refine fx_nilT fun ok w β vs hok hvs htab=>?_
 obtain⟨z0,rest,rfl,hz0,hvs⟩:∃z0 rest,vs=z0::rest∧RV Tryz.prog ok w β (.dat 9 (.str s)) z0∧RVsX Tryz.prog ok w β [.dat 3 (.int 10),.dat 3 (.int 64)] rest:=by cases hvs with|cons h r=>exact⟨_,_,rfl,h,r⟩
 obtain⟨z1,z2,rfl,hz1,hz2⟩:=rvs2 hvs
 have e0:=(RV.str Tryz.underlying9 hz0).2.1
 obtain⟨_,rfl,_⟩:=RV.int Tryz.underlying3 hz1
 obtain⟨_,rfl,_⟩:=RV.int Tryz.underlying3 hz2
 have e0:z0= .string s:=e0
 subst e0
 cases hp:parseIntB 64 s.data.toList with
 |ok v=>
  rw[hp] at hv
  cases hv
  refine(Any.strconv_ParseInt_10_at64_ok Tryz.laysC174 s (by omega) v hp w).mono ?_
  rintro e w' ⟨rfl,hw⟩
  refine⟨_,rfl,?_,rv_numNif h0 h1 .nif⟩
  rcases hw with rfl| ⟨t,rfl⟩
  ·exact Below.refl _ _
  ·exact bytesWorld_below w _ t
 |range=>
  rw[hp] at hv
  cases hv
  obtain⟨_,ev,T,fr,hb,hev⟩:=htab.2 4 (by decide)
  have hcell:w.cell? ⟨4,0,none⟩=some ev:=by simp only[World.cell?,hb];rfl
  refine(Any.strconv_ParseInt_10_at64_range Tryz.laysC174 s (by omega) hp ev w hcell hev).mono ?_
  rintro e w' ⟨N,rfl,_,_,hbl⟩
  exact⟨_,rfl,hbl,rv_numNif h0 h1 .nni⟩
 |_=>rw[hp] at hv;cases hv
end Go.Proofs.YtmejbpmceflcjaaGreatDoor
