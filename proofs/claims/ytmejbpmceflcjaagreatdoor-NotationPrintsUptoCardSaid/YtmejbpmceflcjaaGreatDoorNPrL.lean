/- The law on printing values, in plain Lean. -/
import Derived.Test.YtmejbpmceflcjaaGreatDoorNTxt
import Derived.Test.YtmejbpmceflcjaaGreatDoorNTxr
import Derived.Test.YtmejbpmceflcjaaGreatDoorMFew
import Derived.Test.YtmejbpmceflcjaaGreatDoorFx
set_option linter.unusedVariables false
set_option linter.unusedSimpArgs false
namespace Go.Proofs.YtmejbpmceflcjaaGreatDoor
open Go.Am

theorem okF_snd {d : Dt} (h : okF d = true) : sndF wd d.bulk d = true := by
  unfold okF at h
  exact (Bool.and_eq_true_iff.1 h).2
/-- What is printed. -/
def prt (d : Dt) : ByteArray × Int := bif okF d then (bif perr d.bulk d == 0 then (⟨(txt d.bulk d).toArray⟩, 0) else (ByteArray.mk (List.toArray []), perr d.bulk d)) else (ByteArray.mk (List.toArray []), 8)
theorem Print_eq {d : Dt} (hw : WV d) (hr : WR d) (hb : d.bulk ≤ 20000000) (m : Nat) (hm : 40 * d.bulk + 1000 ≤ m) : notation_Print (m + 7) d = some (prt d) := by
  have h1 : notation_wellFormed (m + 6) d = some (okF d) := wellFormed_eq hw (m + 1) (by omega) (by omega)
  unfold prt
  simp only [notation_Print, h1, Option.bind_some]
  cases hok : okF d
  · rfl
  obtain ⟨r, h2, h3⟩ := text_eq d.bulk d (Nat.le_refl _) (by omega) hw hr (okF_snd hok) (m + 5) (by omega) [] (by simp; omega)
  have h2' : i7 (m + 6) d [] = some (perr d.bulk d, r) := h2
  simp only [Bool.not_true, cond_false, cond_true, notation_Print_j0, h2', Option.bind_some, bne]
  cases he : (perr d.bulk d == 0)
  · rfl
  · have e := h3 (by simpa using he)
    have hl := txt_len d.bulk d hw hr (Nat.le_refl _)
    rw [List.nil_append] at e
    subst e
    have hbl : Nat.ble (bytesI (txt d.bulk d)).length 137438953472 = true := ble_of (by rw [bytesI_len]; omega)
    simp only [Bool.not_true, cond_false, cond_true, notation_Print_j1, hbl, strI_ok, Option.bind_some]
theorem rPrint_eq {d : Dt} (hw : WV d) (hr : WR d) (hb : d.bulk ≤ 20000000) (m : Nat) (hm : 40 * d.bulk + 1000 ≤ m) (hm2 : m < 100000000000000000) : ref05_Print (m + 7) d = some (prt d) := by
  have h1 : ref05_WellFormed (m + 6) d = some (okF d) := rWellFormed_eq hw (m + 2) (by omega) (by omega) (by omega)
  unfold prt
  simp only [ref05_Print, h1, Option.bind_some]
  cases hok : okF d
  · rfl
  have h2 : ref05_printable (m + 6) d = some (perr d.bulk d) := printable_eq d.bulk d (Nat.le_refl _) (by omega) hw (okF_snd hok) (m + 5) (by omega)
  have h3 : ref05_text (m + 6) d = some ⟨(txt d.bulk d).toArray⟩ := rtext_eq d.bulk d (Nat.le_refl _) (by omega) hw hr (okF_snd hok) (m + 5) (by omega)
  simp only [Bool.not_true, cond_false, cond_true, ref05_Print_j0, h2, Option.bind_some, bne]
  cases he : (perr d.bulk d == 0)
  · rfl
  · simp only [Bool.not_true, cond_false, cond_true, ref05_Print_j1, h3, Option.bind_some]
theorem law_nprints (d : Dt) (hw : WV d) (hr : WR d) (hb : d.bulk ≤ 1048576) : law05_NotationPrints (400000000000 + 1) d = some true := by
  obtain ⟨b, hf⟩ := few_tot hw (by omega) 399999999998 (by omega) 3000
  have hf' : ref02_Few 400000000000 d 3000 = some b := hf
  have h1 : notation_Print 400000000000 d = some (prt d) := Print_eq hw hr (by omega) 399999999993 (by omega)
  have h2 : ref05_Print 400000000000 d = some (prt d) := rPrint_eq hw hr (by omega) 399999999993 (by omega) (by omega)
  rw [law05_NotationPrints]
  simp only [law05_NotationPrints_j0, hf', h1, h2, Option.bind_some, awakeC, beq_self_eq_true, cond_true]
  cases b <;> rfl
theorem nprints_fx {ds : List Dt} (h : HasTys Tryz.prog Tryz.f3.params.toList ds) (hb : Dt.bulkL ds ≤ 1048576) : FX Tryz.prog 3 (dats Tryz.f3.params.toList ds) [] (.dat 4 (.bool true)) [] := by
  have h' : HasTys Tryz.prog [25] ds := h
  cases h' with
  | @cons _ d _ _ h1 r =>
    cases r
    simp only [Dt.bulkL] at hb
    exact law05_NotationPrints_fx 400000000000 (ct_ok 400000000000) _ (law_nprints d (wv_of h1) (wr_of h1) (by omega))
end Go.Proofs.YtmejbpmceflcjaaGreatDoor
