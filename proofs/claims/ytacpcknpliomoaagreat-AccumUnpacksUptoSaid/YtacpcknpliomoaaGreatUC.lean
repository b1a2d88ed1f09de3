/- Accumulators: the reference's Unpack. -/
import Derived.Test.YtacpcknpliomoaaGreatUB
set_option linter.unusedVariables false
set_option linter.unusedSimpArgs false
namespace Go.Proofs.YtacpcknpliomoaaGreat
open Go.Am
theorem zP_eq : kzc575d = zP := rfl
def kOK (a : Int) (l k : List Dt) : Bool := bif a == 10 then (k.length == l.length && k.all fun e => Dt.I e 0 == 6) else k.isEmpty
theorem ref_keys (m : Nat) (v z : Dt) (a b c : Int) (w : Dt) (l k : List Dt) (hl : k.length < 9223372036854775807) : ∀ (M i : Nat), i ≤ k.length → k.length - i < M →
    ref32_Unpack_l8 m M (i : Int) v z (PD a b c w l k) = bif (k.drop i).all (fun e => Dt.I e 0 == 6) then ref32_Unpack_j11 m v z (PD a b c w l k) else some (zP, 4)
  | 0, i, _, h => by omega
  | M + 1, i, hi, h => by
    rw [ref32_Unpack_l8]
    show (bif (decide ((i : Int) < (k.length : Int))) then _ else _) = _
    rw [dlt]
    by_cases hlt : i < k.length
    · rw [show decide (i < k.length) = true by simp [hlt], cond_true, ref32_Unpack_j9]
      show Option.bind (idx k (i : Int)) _ = _
      rw [idx_lt hlt, Option.bind_some, List.drop_eq_getElem_cons hlt, List.all_cons]
      by_cases h6 : Dt.I k[i] 0 = 6
      · have e1 : (Dt.I k[i] 0 != 6) = false := by rw [h6]; rfl
        have e2 : (Dt.I k[i] 0 == 6) = true := by rw [h6]; rfl
        rw [e1, cond_false, e2, Bool.true_and, ref32_Unpack_j10, wrapS (by omega)]
        exact ref_keys m v z a b c w l k hl M (i + 1) (by omega) (by omega)
      · have e1 : (Dt.I k[i] 0 != 6) = true := by simp [h6]
        have e2 : (Dt.I k[i] 0 == 6) = false := by simp [h6]
        rw [e1, cond_true, e2, Bool.false_and]
        rfl
    · have e : i = k.length := by omega
      subst e
      simp
theorem bulkL_app : ∀ a b : List Dt, Dt.bulkL (a ++ b) = Dt.bulkL a + Dt.bulkL b
  | [], b => by simp [Dt.bulkL]
  | x :: a, b => by simp only [List.cons_append, Dt.bulkL, bulkL_app a b]; omega
theorem pk_bulk (a b c : Int) (w : Dt) (l k : List Dt) : (pkD a b c w l k).bulk ≤ w.bulk + Dt.bulkL l + Dt.bulkL k + 100 := by
  have h1 : Dt.bulkL (oV w) ≤ w.bulk + 7 := by
    unfold oV
    split
    · simp [Dt.bulkL]
    · simp only [fV, Dt.bulkL, Dt.bulk, show nmValue.size = 5 from rfl]; omega
  have h2 : ∀ (s : ByteArray) (l : List Dt), s.size ≤ 5 → Dt.bulkL (oL s l) ≤ Dt.bulkL l + 20 := by
    intro s l hs
    cases l with
    | nil => simp [oL, Dt.bulkL]
    | cons e r => simp only [oL, fV, lV, Dt.bulkL, Dt.bulk, show emp.size = 0 from rfl]; omega
  have h3 := h2 nmList l (by decide)
  have h4 := h2 nmKeys k (by decide)
  unfold pkD pkDoc
  simp only [Dt.bulk, Dt.bulkL, fV, iV, bulkL_app, show emp.size = 0 from rfl, show nmOp.size = 2 from rfl, show nmSum.size = 3 from rfl, show nmCount.size = 5 from rfl]
  omega
theorem pk_wv {a b c : Int} {w : Dt} {l k : List Dt} (hw : WV w) (hl : ∀ e ∈ l, WV e) (hk : ∀ e ∈ k, WV e) : WV (pkD a b c w l k) := by
  refine .mk (by simp) fun f hf => ?_
  have hi : ∀ n, WV (iV n) := fun n => .mk (by simp) (by simp)
  have ho : ∀ (s : ByteArray) (l : List Dt), (∀ e ∈ l, WV e) → ∀ f ∈ oL s l, WF f := by
    intro s l hl f hf
    cases l with
    | nil => simp [oL] at hf
    | cons e r =>
      simp only [oL, List.mem_singleton] at hf
      subst hf
      exact .mk (.mk hl (by simp))
  simp only [pkDoc, List.mem_cons, List.mem_append] at hf
  rcases hf with rfl | rfl | rfl | hf | hf | hf
  · exact .mk (hi _)
  · exact .mk (hi _)
  · exact .mk (hi _)
  · unfold oV at hf
    split at hf
    · simp at hf
    · simp only [List.mem_singleton] at hf
      subst hf
      exact .mk hw
  · exact ho _ _ hl f hf
  · exact ho _ _ hk f hf
theorem ref_j6 (m : Nat) (v : Dt) (hw : WV v) (hb : v.bulk ≤ 1048576) (hm : 1000000000 ≤ m) {B : Nat} (hB : B ≤ 1048586) {p : Dt} {a b c : Int} {w : Dt} {l k : List Dt} (h : PI B p a b c w l k) :
    ∃ r, ref32_Unpack_j6 m v kzc575d p = some r ∧ ((k.all fun e => Dt.I e 0 == 6) = true → pkD a b c w l k = v → r = (p, 0)) ∧ ((k.all fun e => Dt.I e 0 == 6) = false ∨ pkD a b c w l k ≠ v → r = (zP, 4)) := by
  obtain ⟨m, rfl⟩ : ∃ q, m = q + 2 := ⟨m - 2, by omega⟩
  have e := h.e
  subst e
  have hlk := len_bulk k
  have h3 := h.bk
  have h4 := h.bl
  have h5 := h.bv
  have key := ref_keys (m + 2) v kzc575d a b c w l k (by omega) (m + 3) 0 (by omega) (by omega)
  have e6 : ref32_Unpack_j6 (m + 2) v kzc575d (PD a b c w l k) = ref32_Unpack_l8 (m + 2) (m + 3) ((0 : Nat) : Int) v kzc575d (PD a b c w l k) := rfl
  rw [e6, key, List.drop_zero]
  cases ha : k.all fun e => Dt.I e 0 == 6 with
  | false => exact ⟨_, rfl, fun h => by simp at h, fun _ => rfl⟩
  | true =>
    rw [cond_true, ref32_Unpack_j11, ref_pack m 0, Option.bind_some]
    have hpb := pk_bulk a b c w l k
    have hpw := pk_wv (a := a) (b := b) (c := c) h.hv h.hl h.hk
    obtain ⟨r, h1, h2⟩ := same_sound (pkD a b c w l k).bulk (pkD a b c w l k) v (Nat.le_refl _) (by omega) hpw hw (m + 1) (by omega)
    rw [h1, Option.bind_some]
    cases r with
    | true =>
      have e := h2 rfl
      exact ⟨_, rfl, fun _ _ => rfl, fun h => h.elim (fun h => by simp at h) fun h => absurd e h⟩
    | false =>
      refine ⟨_, rfl, fun _ e => ?_, fun _ => rfl⟩
      rw [e, same_refl v.bulk v (Nat.le_refl _) (by omega) hw (m + 1) (by omega)] at h1
      simp at h1
theorem ref_char (m : Nat) (v : Dt) (hw : WV v) (hb : v.bulk ≤ 1048576) (hm : 1000000000 ≤ m) : ∃ a b c w l k, PI 1048586 ((Dt.L v 4).foldl stepR zP) a b c w l k ∧
    ∃ r, ref32_Unpack (m + 1) v = some r ∧ (kOK a l k = true → pkD a b c w l k = v → r = (PD a b c w l k, 0)) ∧ (kOK a l k = false ∨ pkD a b c w l k ≠ v → r = (zP, 4)) := by
  have h0 : PI 1048586 zP 0 0 0 zV [] [] := ⟨rfl, wv_zV, by simp, by simp, by simp [zV, Dt.bulk, Dt.bulkL, show emp.size = 0 from rfl], by simp [Dt.bulkL], by simp [Dt.bulkL]⟩
  have hp := wv_parts hw
  have hb6 := wv_bulk6 hw
  obtain ⟨a, b, c, w, l, k, h⟩ := fold_pi (ds := Dt.L v 4) h0 (fun f hf => by
    have hbm := bulk_mem hf
    refine ⟨?_, by omega⟩
    cases hw with
    | @mk k i t l ds hl hd => exact hd f hf)
  refine ⟨a, b, c, w, l, k, h, ?_⟩
  have hf : ref32_Unpack (m + 1) v = ref32_Unpack_j4 m v kzc575d ((Dt.L v 4).foldl stepR zP) := by
    have := ref_fold m v kzc575d (by omega) (m + 1) 0 zP (by omega) (by omega)
    rw [List.drop_zero] at this
    exact this
  obtain ⟨r, r1, r2, r3⟩ := ref_j6 m v hw hb hm (Nat.le_refl _) h
  have e := h.e
  rw [e] at hf r1 r2
  have hl2 := h.bl
  rw [ref32_Unpack_j4] at hf
  have hj : ∀ t : Bool, ref32_Unpack_j5 m t v kzc575d (PD a b c w l k) = bif t then some (zP, 4) else ref32_Unpack_j6 m v kzc575d (PD a b c w l k) := fun t => by cases t <;> rfl
  simp only [hj] at hf
  have hf' : ref32_Unpack (m + 1) v = (bif (a == 10) then (bif ((k.length : Int) != (l.length : Int)) then some (zP, 4) else bif (a != 10) then (bif (decide (0 < (k.length : Int))) then some (zP, 4) else ref32_Unpack_j6 m v kzc575d (PD a b c w l k)) else ref32_Unpack_j6 m v kzc575d (PD a b c w l k)) else
      (bif (a != 10) then (bif (decide (0 < (k.length : Int))) then some (zP, 4) else ref32_Unpack_j6 m v kzc575d (PD a b c w l k)) else ref32_Unpack_j6 m v kzc575d (PD a b c w l k))) := hf
  rw [r1] at hf'
  unfold kOK
  by_cases ha : a = 10
  · have e1 : (a == 10) = true := by rw [ha]; rfl
    have e2 : (a != 10) = false := by rw [ha]; rfl
    rw [e1, e2] at hf'
    rw [e1]
    simp only [cond_true, cond_false] at hf' ⊢
    by_cases hkl : k.length = l.length
    · have e3 : ((k.length : Int) != (l.length : Int)) = false := by rw [hkl]; exact bne_self_eq_false _
      have e4 : (k.length == l.length) = true := by rw [hkl]; exact beq_self_eq_true _
      rw [e3, cond_false] at hf'
      rw [e4, Bool.true_and]
      exact ⟨r, hf', r2, r3⟩
    · have e3 : ((k.length : Int) != (l.length : Int)) = true := by rw [bne_iff_ne]; omega
      have e4 : (k.length == l.length) = false := by rw [beq_eq_false_iff_ne]; exact hkl
      rw [e3, cond_true] at hf'
      rw [e4, Bool.false_and]
      exact ⟨_, hf', fun h => by simp at h, fun _ => rfl⟩
  · have e1 : (a == 10) = false := by simp [ha]
    have e2 : (a != 10) = true := by simp [ha]
    rw [e1, e2] at hf'
    rw [e1]
    simp only [cond_true, cond_false] at hf' ⊢
    cases k with
    | nil =>
      have e3 : decide (0 < ((([] : List Dt).length : Nat) : Int)) = false := by decide
      rw [e3, cond_false] at hf'
      exact ⟨r, hf', fun _ h => r2 rfl h, fun h => r3 (h.elim (fun h => by simp at h) .inr)⟩
    | cons x k =>
      have e3 : decide (0 < (((x :: k).length : Nat) : Int)) = true := by rw [decide_eq_true_iff]; simp only [List.length_cons]; omega
      rw [e3, cond_true] at hf'
      exact ⟨_, hf', fun h => by simp at h, fun _ => rfl⟩
end Go.Proofs.YtacpcknpliomoaaGreat
