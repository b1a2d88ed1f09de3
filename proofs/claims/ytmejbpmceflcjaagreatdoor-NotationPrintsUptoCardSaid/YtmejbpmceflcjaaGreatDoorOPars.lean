/- internal/strconv.ParseInt at base 10 and 64 bits, where it succeeds, as the machine sees it. -/
import Derived.Shelf.Strconv.ParseInt10At64
import Derived.Lib.AtoiErrMem
import Derived.Test.YtmejbpmceflcjaaGreatDoorOLibN
import Derived.Test.YtmejbpmceflcjaaGreatDoorOAppF
set_option linter.unusedVariables false
set_option linter.unusedSimpArgs false
namespace Go.Proofs.YtmejbpmceflcjaaGreatDoor
open Go.RowKit Go.Lib Go.Am

def okInt : NumEnd Int → Option Int
  | .ok v => some v
  | _ => none
theorem okInt_some {e : NumEnd Int} {v : Int} (h : okInt e = some v) : e = .ok v := by
  cases e with
  | ok u => cases h; rfl
  | _ => cases h
def parse_Int (s : ByteArray) (b z : Int) : Option Int :=
  bif (decide (b = 10) && (decide (z = 64) && (!Nat.beq s.size 0 && Nat.ble s.size 1000000000))) then
    (okInt (parseIntB 64 s.data.toList)).bind fun v => bif (decide (-9223372036854775808 ≤ v) && decide (v ≤ 9223372036854775807)) then some v else none
  else none
theorem hbP : HasBody Tryz.prog 92 := ⟨_, Tryz.func92, rfl, by decide⟩
theorem ParseInt_fx {s : ByteArray} {b z v : Int} (h : parse_Int s b z = some v) : FX Tryz.prog 92 [.dat 9 (.str s), .dat 3 (.int b), .dat 3 (.int z)] [] (.tup [.dat 2 (.int v), .nif]) [] := by
  unfold parse_Int at h
  obtain ⟨hc, h⟩ := bif_some h
  obtain ⟨v', hv, h⟩ := Option.bind_eq_some_iff.1 h
  obtain ⟨hr, h⟩ := bif_some h
  cases h
  have hb : b = 10 := of_decide_eq_true (and_l hc)
  have hz : z = 64 := of_decide_eq_true (and_l (and_r hc))
  subst hb hz
  have hs0 := nbeq (and_l (and_r (and_r hc)))
  have hs1 := Nat.le_of_ble_eq_true (and_r (and_r (and_r hc)))
  have h0 := of_decide_eq_true (and_l hr)
  have h1 := of_decide_eq_true (and_r hr)
  refine fx_nilT fun ok w β vs hok hvs htab => ?_
  obtain ⟨z0, rest, rfl, hz0, hvs⟩ : ∃ z0 rest, vs = z0 :: rest ∧ RV Tryz.prog ok w β (.dat 9 (.str s)) z0 ∧ RVsX Tryz.prog ok w β [.dat 3 (.int 10), .dat 3 (.int 64)] rest := by cases hvs with | cons h r => exact ⟨_, _, rfl, h, r⟩
  obtain ⟨z1, z2, rfl, hz1, hz2⟩ := rvs2 hvs
  have e0 := (RV.str Tryz.underlying9 hz0).2.1
  obtain ⟨_, rfl, _⟩ := RV.int Tryz.underlying3 hz1
  obtain ⟨_, rfl, _⟩ := RV.int Tryz.underlying3 hz2
  have e0 : z0 = .string s := e0
  subst e0
  refine (Any.internal_strconv_ParseInt_10_at64 Tryz.laysC247 s hs0 (by omega) w).mono ?_
  rintro e w' ⟨rfl, hw⟩
  rw [okInt_some hv]
  refine ⟨_, rfl, ?_, ?_⟩
  · rcases hw with rfl | ⟨t, rfl⟩
    · exact Below.refl _ _
    · exact bytesWorld_below w _ t
  · refine ⟨#[.int .i64 v, .nilIface], rfl, rfl, fun i av hi => ?_⟩
    match i, hi with
    | 0, hi =>
      cases hi
      exact RV.to1 (by simp) (by simp) (RV.mk_int Tryz.underlying2 h0 h1)
    | 1, hi =>
      cases hi
      exact ⟨fun hi => by simp [AV.isAgg] at hi, fun _ => .nif⟩
    | i + 2, hi => simp at hi
end Go.Proofs.YtmejbpmceflcjaaGreatDoor
