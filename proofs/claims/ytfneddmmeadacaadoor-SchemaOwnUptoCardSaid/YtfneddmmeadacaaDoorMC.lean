/- Valid and well-formed values: the program's test and the reference's, in plain Lean.
Values: how many levels a value has; valid and well-formed values: the program and the reference agree.
How much the parts of a datum hold. -/
import Derived.Test.YtfneddmmeadacaaDoorMA
import Derived.Test.YtfneddmmeadacaaDoorMB
set_option linter.unusedVariables false
set_option linter.unusedSimpArgs false
namespace Go.Proofs.YtfneddmmeadacaaDoor
open Go.Am

/-- The parts of a value that its kind does not use are empty. -/
def shp (d : Dt) : Bool :=
  (Dt.I d 0 == 3 || Dt.I d 0 == 9 || Dt.I d 0 == 10 || Dt.I d 1 == 0) && (Dt.I d 0 == 4 || Dt.I d 0 == 7 || Dt.I d 0 == 8 || (Dt.S d 2).toList == []) &&
  (Dt.I d 0 == 6 || !(decide ((0 : Int) < ((Dt.L d 3).length : Int)))) && (Dt.I d 0 == 5 || !(decide ((0 : Int) < ((Dt.L d 4).length : Int))))
/-- Fields with good, different names and good values. -/
def fl (p : ByteArray → Bool) (self : Dt → Bool) : List ByteArray → List Dt → Bool
  | _, [] => true
  | seen, f :: r => p (Dt.S f 0) && !(seen.any (eqb (Dt.S f 0))) && self (Dt.fld f 1) && fl p self (seen ++ [Dt.S f 0]) r
def sndF (p : ByteArray → Bool) : Nat → Dt → Bool
  | 0, _ => false
  | n + 1, d => shp d && (bif Dt.I d 0 == 9 then (Dt.I d 1 == 0 || Dt.I d 1 == 1) else bif Dt.I d 0 == 10 then decide ((0 : Int) ≤ Dt.I d 1) else bif Dt.I d 0 == 4 then (decide (((Dt.S d 2).size : Int) ≤ 4096) && Lib.validD (Dt.S d 2).data.toList) else
    bif Dt.I d 0 == 7 then decide (((Dt.S d 2).size : Int) ≤ 4096) else bif Dt.I d 0 == 8 then (((Dt.S d 2).size : Int) == 12) else bif Dt.I d 0 == 6 then (Dt.L d 3).all (sndF p n) else bif Dt.I d 0 == 5 then fl p (sndF p n) [] (Dt.L d 4) else (decide (1 ≤ Dt.I d 0) && decide (Dt.I d 0 ≤ 11)))
theorem kcase (k : Int) : k = 1 ∨ k = 2 ∨ k = 3 ∨ k = 4 ∨ k = 5 ∨ k = 6 ∨ k = 7 ∨ k = 8 ∨ k = 9 ∨ k = 10 ∨ k = 11 ∨ (k < 1 ∨ 11 < k) := by omega
theorem kno {k : Int} (h : k < 1 ∨ 11 < k) : (k == 1) = false ∧ (k == 2) = false ∧ (k == 3) = false ∧ (k == 4) = false ∧ (k == 5) = false ∧ (k == 6) = false ∧ (k == 7) = false ∧ (k == 8) = false ∧ (k == 9) = false ∧ (k == 10) = false ∧ (k == 11) = false := by
  refine ⟨?_, ?_, ?_, ?_, ?_, ?_, ?_, ?_, ?_, ?_, ?_⟩ <;> rw [beq_eq_false_iff_ne] <;> omega

-- names
theorem value_isName_nml (m : Nat) (s : ByteArray) (hs : s.size < 9223372036854775807) : ∀ (M i : Nat), i ≤ s.size → s.size - i < M → value_isName_l3 m M s (s.size : Int) (i : Int) = some ((s.data.toList.drop i).all okB)
  | 0, i, _, h => by omega
  | M + 1, i, hi, h => by
    simp only [value_isName_l3, dlt]
    by_cases hlt : i < s.size
    · rw [getB s i hlt]
      simp only [hlt, decide_true, cond_true, value_isName_j6, value_isName_j5, value_isName_j4, value_isName_j7, value_isName_j2, value_isName_j1, value_isName_j0, idxS_lt hlt, Option.bind_some, wrapS (show i < 9223372036854775807 by omega), value_isName_nml m s hs M (i + 1) (by omega) (by omega), List.all_cons, okB]
      cases decide (((s[i]).toNat : Int) < 33) <;> cases decide ((126 : Int) < ((s[i]).toNat : Int)) <;> cases (((s[i]).toNat : Int) == 46) <;> rfl
    · have : i = s.size := by omega
      subst this
      rw [List.drop_eq_nil_of_le (by rw [lenB]; omega)]
      simp [value_isName_j6, value_isName_j5, value_isName_j4, value_isName_j7, value_isName_j2, value_isName_j1, value_isName_j0]
theorem value_isName_nm (m : Nat) (hm : 33 ≤ m) (s : ByteArray) : value_isName (m + 1) s = some (nm s) := by
  simp only [value_isName]
  by_cases h1 : s.size < 1
  · have : decide ((s.size : Int) < 1) = true := by simp; omega
    simp only [this, cond_true, value_isName_j6, value_isName_j5, value_isName_j4, value_isName_j7, value_isName_j2, value_isName_j1, value_isName_j0, nm_short s h1]
  have e1 : decide ((s.size : Int) < 1) = false := by simp; omega
  by_cases h2 : 32 < s.size
  · have : decide ((32 : Int) < (s.size : Int)) = true := by simp; omega
    simp only [e1, this, cond_true, cond_false, value_isName_j6, value_isName_j5, value_isName_j4, value_isName_j7, value_isName_j2, value_isName_j1, value_isName_j0, nm_long s h2]
  have e2 : decide ((32 : Int) < (s.size : Int)) = false := by simp; omega
  have hx := idxS_lt (s := s) (i := 0) (by omega)
  have hl := value_isName_nml m s (by omega) (m + 1) 0 (by omega) (by omega)
  rw [List.drop_zero] at hl
  have hl' : value_isName_l3 m (Nat.succ m) s (s.size : Int) 0 = some (s.data.toList.all okB) := hl
  simp only [e1, e2, cond_false, show idxS s 0 = _ from hx, Option.bind_some, value_isName_j6, value_isName_j5, value_isName_j4, value_isName_j7, value_isName_j2, value_isName_j1, value_isName_j0, hl', nm_parts s (by omega) (by omega)]
  cases (((s[0]).toNat : Int) == 36) <;> rfl
theorem schema_isName_nml (m : Nat) (s : ByteArray) (hs : s.size < 9223372036854775807) : ∀ (M i : Nat), i ≤ s.size → s.size - i < M → schema_isName_l3 m M s (s.size : Int) (i : Int) = some ((s.data.toList.drop i).all okB)
  | 0, i, _, h => by omega
  | M + 1, i, hi, h => by
    simp only [schema_isName_l3, dlt]
    by_cases hlt : i < s.size
    · rw [getB s i hlt]
      simp only [hlt, decide_true, cond_true, schema_isName_j6, schema_isName_j5, schema_isName_j4, schema_isName_j7, schema_isName_j2, schema_isName_j1, schema_isName_j0, idxS_lt hlt, Option.bind_some, wrapS (show i < 9223372036854775807 by omega), schema_isName_nml m s hs M (i + 1) (by omega) (by omega), List.all_cons, okB]
      cases decide (((s[i]).toNat : Int) < 33) <;> cases decide ((126 : Int) < ((s[i]).toNat : Int)) <;> cases (((s[i]).toNat : Int) == 46) <;> rfl
    · have : i = s.size := by omega
      subst this
      rw [List.drop_eq_nil_of_le (by rw [lenB]; omega)]
      simp [schema_isName_j6, schema_isName_j5, schema_isName_j4, schema_isName_j7, schema_isName_j2, schema_isName_j1, schema_isName_j0]
theorem schema_isName_nm (m : Nat) (hm : 33 ≤ m) (s : ByteArray) : schema_isName (m + 1) s = some (nm s) := by
  simp only [schema_isName]
  by_cases h1 : s.size < 1
  · have : decide ((s.size : Int) < 1) = true := by simp; omega
    simp only [this, cond_true, schema_isName_j6, schema_isName_j5, schema_isName_j4, schema_isName_j7, schema_isName_j2, schema_isName_j1, schema_isName_j0, nm_short s h1]
  have e1 : decide ((s.size : Int) < 1) = false := by simp; omega
  by_cases h2 : 32 < s.size
  · have : decide ((32 : Int) < (s.size : Int)) = true := by simp; omega
    simp only [e1, this, cond_true, cond_false, schema_isName_j6, schema_isName_j5, schema_isName_j4, schema_isName_j7, schema_isName_j2, schema_isName_j1, schema_isName_j0, nm_long s h2]
  have e2 : decide ((32 : Int) < (s.size : Int)) = false := by simp; omega
  have hx := idxS_lt (s := s) (i := 0) (by omega)
  have hl := schema_isName_nml m s (by omega) (m + 1) 0 (by omega) (by omega)
  rw [List.drop_zero] at hl
  have hl' : schema_isName_l3 m (Nat.succ m) s (s.size : Int) 0 = some (s.data.toList.all okB) := hl
  simp only [e1, e2, cond_false, show idxS s 0 = _ from hx, Option.bind_some, schema_isName_j6, schema_isName_j5, schema_isName_j4, schema_isName_j7, schema_isName_j2, schema_isName_j1, schema_isName_j0, hl', nm_parts s (by omega) (by omega)]
  cases (((s[0]).toNat : Int) == 36) <;> rfl
def okW (c : UInt8) : Bool := !(decide ((c.toNat : Int) < 32) || decide ((126 : Int) < c.toNat))
/-- A name of a well-formed value. -/
def wd (s : ByteArray) : Bool := decide (1 ≤ s.size) && decide (s.size ≤ 128) && s.data.toList.all okW
theorem sf_loop (m : Nat) (hm : 34 ≤ m) (self : Dt → Option Bool) (g : Dt → Bool) (L : List Dt) (hl : L.length < 9223372036854775807) (hs : ∀ f ∈ L, self (Dt.fld f 1) = some (g (Dt.fld f 1))) : ∀ (M i : Nat) (mp : List Dt), i ≤ L.length → L.length - i < M → MapS mp ((L.take i).map fun f => Dt.S f 0) →
    value_soundFields_l1 m self M L (L.length : Int) (i : Int) mp = some (fl nm g ((L.take i).map fun f => Dt.S f 0) (L.drop i))
  | 0, i, _, _, h, _ => by omega
  | M + 1, i, mp, hi, h, hmp => by
    obtain ⟨m, rfl⟩ : ∃ q, m = q + 1 := ⟨m - 1, by omega⟩
    simp only [value_soundFields_l1, dlt]
    by_cases hlt : i < L.length
    · have hr := hs _ (List.getElem_mem hlt)
      have hp := hmp (Dt.S L[i] 0)
      have hmp' := mapS_put hmp (Dt.S L[i] 0)
      have et : (L.take (i + 1)).map (fun f => Dt.S f 0) = ((L.take i).map fun f => Dt.S f 0) ++ [Dt.S L[i] 0] := by
        rw [List.take_succ_eq_append_getElem hlt, List.map_append]; rfl
      rw [← et] at hmp'
      have ih := sf_loop (m + 1) hm self g L hl hs M (i + 1) _ (by omega) (by omega) hmp'
      rw [List.drop_eq_getElem_cons hlt, fl, ← et]
      simp only [hlt, decide_true, cond_true, value_soundFields_j5, value_soundFields_j4, value_soundFields_j3, value_soundFields_j2, value_soundFields_j6, value_soundFields_j0, idx_lt hlt, Option.bind_some, hr, hp, value_isName_nm m (by omega), wrapS (show i < 9223372036854775807 by omega), ih]
      cases nm (Dt.S L[i] 0) <;> cases ((L.take i).map fun f => Dt.S f 0).any (eqb (Dt.S L[i] 0)) <;> cases g (Dt.fld L[i] 1) <;> rfl
    · have : i = L.length := by omega
      subst this
      simp [value_soundFields_j5, value_soundFields_j4, value_soundFields_j3, value_soundFields_j2, value_soundFields_j6, value_soundFields_j0, fl]
theorem sl_loop (m : Nat) (self : Dt → Option Bool) (self2 : List Dt → Option Bool) (g : Dt → Bool) (L : List Dt) (hl : L.length < 9223372036854775807) (hs : ∀ e ∈ L, self e = some (g e)) : ∀ (M i : Nat), i ≤ L.length → L.length - i < M →
    value_sound_l8 m self self2 M L (L.length : Int) (i : Int) = some ((L.drop i).all g)
  | 0, i, _, h => by omega
  | M + 1, i, hi, h => by
    simp only [value_sound_l8, dlt]
    by_cases hlt : i < L.length
    · have hr := hs _ (List.getElem_mem hlt)
      have ih := sl_loop m self self2 g L hl hs M (i + 1) (by omega) (by omega)
      rw [List.drop_eq_getElem_cons hlt, List.all_cons]
      simp only [hlt, decide_true, cond_true, value_sound_j10, value_sound_j9, value_sound_j11, value_sound_j7, value_sound_j12, value_sound_j6, value_sound_j5, value_sound_j4, value_sound_j3, value_sound_j2, value_sound_j1, value_sound_j0, idx_lt hlt, Option.bind_some, hr, wrapS (show i < 9223372036854775807 by omega), ih]
      cases g L[i] <;> rfl
    · have : i = L.length := by omega
      subst this
      simp [value_sound_j10, value_sound_j9, value_sound_j11, value_sound_j7, value_sound_j12, value_sound_j6, value_sound_j5, value_sound_j4, value_sound_j3, value_sound_j2, value_sound_j1, value_sound_j0]
theorem vs_top (m : Nat) (d : Dt) : value_sound (m + 1) d = bif shp d then value_sound_j6 m (value_sound m) (value_soundFields m) (Dt.I d 0) (Dt.I d 0 == 1 || Dt.I d 0 == 2 || Dt.I d 0 == 11 || Dt.I d 0 == 3) d else some false := by
  have e5 : ∀ s1 s2, value_sound_j5 m s1 s2 d = value_sound_j6 m s1 s2 (Dt.I d 0) (Dt.I d 0 == 1 || Dt.I d 0 == 2 || Dt.I d 0 == 11 || Dt.I d 0 == 3) d := fun s1 s2 => by
    simp only [value_sound_j5]
    cases (Dt.I d 0 == 1) <;> cases (Dt.I d 0 == 2) <;> cases (Dt.I d 0 == 11) <;> rfl
  have e3 : ∀ s1 s2, value_sound_j3 m s1 s2 d = bif (Dt.I d 0 == 6 || !(decide ((0 : Int) < ((Dt.L d 3).length : Int)))) && (Dt.I d 0 == 5 || !(decide ((0 : Int) < ((Dt.L d 4).length : Int)))) then value_sound_j5 m s1 s2 d else some false := fun s1 s2 => by
    simp only [value_sound_j3, value_sound_j4, bne]
    cases (Dt.I d 0 == 6) <;> cases (Dt.I d 0 == 5) <;> cases decide ((0 : Int) < ((Dt.L d 3).length : Int)) <;> cases decide ((0 : Int) < ((Dt.L d 4).length : Int)) <;> rfl
  have e1 : ∀ s1 s2 x0 x1, value_sound_j1 m s1 s2 x0 x1 d = bif (x0 || Dt.I d 1 == 0) && (x1 || (Dt.S d 2).toList == []) then value_sound_j3 m s1 s2 d else some false := fun s1 s2 x0 x1 => by
    simp only [value_sound_j1, value_sound_j2, bne]
    cases x0 <;> cases x1 <;> cases (Dt.I d 1 == 0) <;> cases ((Dt.S d 2).toList == []) <;> rfl
  have e0 : ∀ s1 s2 x0, value_sound_j0 m s1 s2 x0 d = value_sound_j1 m s1 s2 x0 (Dt.I d 0 == 4 || Dt.I d 0 == 7 || Dt.I d 0 == 8) d := fun s1 s2 x0 => by
    simp only [value_sound_j0]
    cases (Dt.I d 0 == 4) <;> cases (Dt.I d 0 == 7) <;> rfl
  have e : value_sound (m + 1) d = value_sound_j0 m (value_sound m) (value_soundFields m) (Dt.I d 0 == 3 || Dt.I d 0 == 9 || Dt.I d 0 == 10) d := by
    simp only [value_sound]
    cases (Dt.I d 0 == 3) <;> cases (Dt.I d 0 == 9) <;> rfl
  rw [e, e0, e1, e3, e5]
  unfold shp
  cases (Dt.I d 0 == 3 || Dt.I d 0 == 9 || Dt.I d 0 == 10 || Dt.I d 1 == 0) <;> cases (Dt.I d 0 == 4 || Dt.I d 0 == 7 || Dt.I d 0 == 8 || (Dt.S d 2).toList == []) <;> cases (Dt.I d 0 == 6 || !(decide ((0 : Int) < ((Dt.L d 3).length : Int)))) <;> cases (Dt.I d 0 == 5 || !(decide ((0 : Int) < ((Dt.L d 4).length : Int)))) <;> rfl
theorem vsound_eq : ∀ (N : Nat) (d : Dt), d.bulk ≤ N → N ≤ 137438953472 → WV d → ∀ m, 2 * N + 40 ≤ m → value_sound (m + 1) d = some (sndF nm N d)
  | 0, d, h, _, _, _, _ => by have := bulk_pos d; omega
  | N + 1, d, h, hN, hw, m, hm => by
    obtain ⟨m, rfl⟩ : ∃ q, m = q + 2 := ⟨m - 2, by omega⟩
    obtain ⟨p1, p2, p3, p4⟩ := wv_parts hw
    have ih : ∀ e : Dt, WV e → e.bulk ≤ N → ∀ q, 2 * N + 40 ≤ q → value_sound (q + 1) e = some (sndF nm N e) := fun e hwe hbe q hq => vsound_eq N e hbe (by omega) hwe q hq
    have k1 := sl_loop (m + 2) (value_sound (m + 2)) (value_soundFields (m + 2)) (sndF nm N) (Dt.L d 3) (by omega) (fun e he => ih e (p3 e he).1 (by have := (p3 e he).2; omega) (m + 1) (by omega)) (m + 3) 0 (Nat.zero_le _) (by omega)
    have k2 := sf_loop (m + 1) (by omega) (value_sound (m + 1)) (sndF nm N) (Dt.L d 4) (by omega) (fun f hf => ih _ (p4 f hf).1 (by have := (p4 f hf).2; omega) m (by omega)) (m + 2) 0 [] (Nat.zero_le _) (by omega) mapS_nil
    rw [List.drop_zero] at k1 k2
    have k1' : value_sound_l8 (m + 2) (value_sound (m + 2)) (value_soundFields (m + 2)) (Nat.succ (m + 2)) (Dt.L d 3) ((Dt.L d 3).length : Int) 0 = some ((Dt.L d 3).all (sndF nm N)) := k1
    have k2' : value_soundFields (m + 2) (Dt.L d 4) = some (fl nm (sndF nm N) [] (Dt.L d 4)) := by
      simp only [value_soundFields, value_soundFields_j5, value_soundFields_j4, value_soundFields_j3, value_soundFields_j2, value_soundFields_j6, value_soundFields_j0]
      exact k2
    rw [vs_top]
    have hj : value_sound_j7 (m + 2) (value_sound (m + 2)) (value_soundFields (m + 2)) (Dt.L d 3) ((Dt.L d 3).length : Int) 0 = some ((Dt.L d 3).all (sndF nm N)) := k1'
    simp only [value_sound_j6, value_sound_j12, hj, k2', Option.bind_some, utf8_ValidString, sndF]
    cases shp d
    · rfl
    simp only [cond_true, Bool.true_and]
    generalize (Dt.L d 3).all (sndF nm N) = a1
    generalize fl nm (sndF nm N) [] (Dt.L d 4) = a2
    generalize Lib.validD (Dt.S d 2).data.toList = a3
    generalize Dt.I d 0 = k
    generalize ((Dt.S d 2).size : Int) = sz
    generalize Dt.I d 1 = n
    rcases kcase k with rfl | rfl | rfl | rfl | rfl | rfl | rfl | rfl | rfl | rfl | rfl | hk
    case inr.inr.inr.inr.inr.inr.inr.inr.inr.inr.inr =>
      obtain ⟨q1, q2, q3, q4, q5, q6, q7, q8, q9, q10, q11⟩ := kno hk
      simp only [q1, q2, q3, q4, q5, q6, q7, q8, q9, q10, q11, Bool.or_self, cond_false]
      have : (decide (1 ≤ k) && decide (k ≤ 11)) = false := by rw [Bool.and_eq_false_iff]; simp; omega
      rw [this]
    all_goals first | rfl | (cases (n == 0) <;> rfl) | (show (bif decide (sz ≤ 4096) then some a3 else some false) = some (decide (sz ≤ 4096) && a3); cases decide (sz ≤ 4096) <;> rfl)
-- the reference's test
def nmP (names : Bool) (s : ByteArray) : Bool := bif names then nm s else wd s
theorem len0 {l : List Dt} (h : (!(decide ((0 : Int) < (l.length : Int)))) = true) : l = [] := by
  refine List.eq_nil_of_length_eq_zero ?_
  have : decide ((0 : Int) < (l.length : Int)) = false := by simpa using h
  have := of_decide_eq_false this
  omega
end Go.Proofs.YtfneddmmeadacaaDoor
namespace Go.Proofs.YtfneddmmeadacaaDoor
open Go.Am

def mx (f : Dt → Nat) : List Dt → Nat
  | [] => 0
  | e :: r => max (f e) (mx f r)
theorem mx_congr {f g : Dt → Nat} : ∀ {L : List Dt}, (∀ e ∈ L, f e = g e) → mx f L = mx g L
  | [], _ => rfl
  | e :: r, h => by simp only [mx, h e (List.mem_cons_self ..), mx_congr fun x hx => h x (List.mem_cons_of_mem _ hx)]
theorem mx_map (f : Dt → Nat) (k : Dt → Dt) : ∀ L : List Dt, mx f (L.map k) = mx (fun x => f (k x)) L
  | [] => rfl
  | e :: r => by simp only [List.map_cons, mx, mx_map f k r]
theorem mx_drop (f : Dt → Nat) {L : List Dt} {i : Nat} (h : i < L.length) : mx f (L.drop i) = max (f L[i]) (mx f (L.drop (i + 1))) := by rw [List.drop_eq_getElem_cons h]; rfl
def dptF : Nat → Dt → Nat
  | 0, _ => 1
  | n + 1, d => 1 + mx (dptF n) (prts d)
theorem dptF_fuel : ∀ (n n' : Nat) (d : Dt), WV d → d.bulk ≤ n → d.bulk ≤ n' → dptF n d = dptF n' d
  | 0, _, d, _, h, _ => by have := bulk_pos d; omega
  | _ + 1, 0, d, _, _, h => by have := bulk_pos d; omega
  | n + 1, n' + 1, d, hw, h, h' => by
    simp only [dptF]
    congr 1
    refine mx_congr fun e he => ?_
    have := prts_wv hw e he
    exact dptF_fuel n n' e this.1 (by omega) (by omega)
def dpt (d : Dt) : Nat := dptF d.bulk d
theorem dpt_eq {d : Dt} (hw : WV d) : dpt d = 1 + mx dpt (prts d) := by
  obtain ⟨k, hk⟩ : ∃ k, d.bulk = k + 1 := ⟨d.bulk - 1, by have := bulk_pos d; omega⟩
  unfold dpt
  rw [hk]
  simp only [dptF]
  congr 1
  refine mx_congr fun e he => ?_
  have := prts_wv hw e he
  exact dptF_fuel _ _ e this.1 (by omega) (Nat.le_refl _)
theorem max_int (a b : Nat) : (bif decide ((a : Int) < (b : Int)) then (b : Int) else (a : Int)) = ((max a b : Nat) : Int) := by
  rw [dlt]
  by_cases h : a < b
  · simp only [h, decide_true, cond_true]; omega
  · simp only [h, decide_false, cond_false]; omega

theorem each2_l (m : Nat) (self : Dt → Int → Int → Option (Bool × Int × Int)) (L : List Dt) (hl : L.length < 9223372036854775807) (most : Nat) (hs : ∀ e ∈ L, ∀ k : Nat, k < most - 1 → self e (k : Int) (most : Int) = some (decide (((max k (min (dpt e) (most - 1)) : Nat) : Int) < ((most - 1 : Nat) : Int)), ((max k (min (dpt e) (most - 1)) : Nat) : Int), (most : Int))) : ∀ (M i acc : Nat), i ≤ L.length → L.length - i < M → acc < most - 1 →
    i51_l1 m self M L (L.length : Int) (i : Int) (acc : Int) (most : Int) = some (((max acc (min (mx dpt (L.drop i)) (most - 1)) : Nat) : Int), (most : Int))
  | 0, i, _, _, h, _ => by omega
  | M + 1, i, acc, hi, h, ha => by
    simp only [i51_l1, dlt]
    by_cases hlt : i < L.length
    · have hr := hs _ (List.getElem_mem hlt) acc ha
      simp only [hlt, decide_true, cond_true, i51_j3, i51_j2, i51_j0, i51_j7, i51_j6, i51_j4, idx_lt hlt, Option.bind_some, hr, dlt, wrapS (show i < 9223372036854775807 by omega), mx_drop dpt hlt]
      by_cases hm : max acc (min (dpt L[i]) (most - 1)) < most - 1
      · simp only [hm, decide_true, Bool.not_true, cond_false, each2_l m self L hl most hs M (i + 1) (max acc (min (dpt L[i]) (most - 1))) (by omega) (by omega) hm]
        congr 3
        omega
      · simp only [hm, decide_false, Bool.not_false, cond_true]
        congr 3
        omega
    · rw [List.drop_eq_nil_of_le (by omega)]
      simp only [hlt, decide_false, cond_false, mx]
      congr 3
      omega
theorem each2_d (m : Nat) (self : Dt → Int → Int → Option (Bool × Int × Int)) (L : List Dt) (hl : L.length < 9223372036854775807) (most : Nat) (hs : ∀ e ∈ L, ∀ k : Nat, k < most - 1 → self (Dt.fld e 1) (k : Int) (most : Int) = some (decide (((max k (min (dpt (Dt.fld e 1)) (most - 1)) : Nat) : Int) < ((most - 1 : Nat) : Int)), ((max k (min (dpt (Dt.fld e 1)) (most - 1)) : Nat) : Int), (most : Int))) : ∀ (M i acc : Nat), i ≤ L.length → L.length - i < M → acc < most - 1 →
    i51_l5 m self M L (L.length : Int) (i : Int) (acc : Int) (most : Int) = some (((max acc (min (mx (fun f => dpt (Dt.fld f 1)) (L.drop i)) (most - 1)) : Nat) : Int), (most : Int))
  | 0, i, _, _, h, _ => by omega
  | M + 1, i, acc, hi, h, ha => by
    simp only [i51_l5, dlt]
    by_cases hlt : i < L.length
    · have hr := hs _ (List.getElem_mem hlt) acc ha
      simp only [hlt, decide_true, cond_true, i51_j3, i51_j2, i51_j0, i51_j7, i51_j6, i51_j4, idx_lt hlt, Option.bind_some, hr, dlt, wrapS (show i < 9223372036854775807 by omega), mx_drop (fun f => dpt (Dt.fld f 1)) hlt]
      by_cases hm : max acc (min (dpt (Dt.fld L[i] 1)) (most - 1)) < most - 1
      · simp only [hm, decide_true, Bool.not_true, cond_false, each2_d m self L hl most hs M (i + 1) (max acc (min (dpt (Dt.fld L[i] 1)) (most - 1))) (by omega) (by omega) hm]
        congr 3
        omega
      · simp only [hm, decide_false, Bool.not_false, cond_true]
        congr 3
        omega
    · rw [List.drop_eq_nil_of_le (by omega)]
      simp only [hlt, decide_false, cond_false, mx]
      congr 3
      omega
theorem vdepth_eq : ∀ (N : Nat) (d : Dt), d.bulk ≤ N → N ≤ 137438953472 → WV d → ∀ m, 3 * N ≤ m → ∀ most : Nat, 1 ≤ most → most < 1000000 → value_depth (m + 1) d (most : Int) = some ((min (dpt d) most : Nat) : Int)
  | 0, d, h, _, _, _, _, _, _, _ => by have := bulk_pos d; omega
  | N + 1, d, h, hN, hw, m, hm, most, h1, h2 => by
    obtain ⟨m, rfl⟩ : ∃ q, m = q + 3 := ⟨m - 3, by omega⟩
    simp only [value_depth]
    have hd := dpt_eq hw
    by_cases e1 : most = 1
    · subst e1
      have : ((((1 : Nat) : Int)) == (1 : Int)) = true := rfl
      simp only [this, cond_true]
      congr 1
      omega
    · have e2 : (((most : Int)) == (1 : Int)) = false := by rw [beq_eq_false_iff_ne]; omega
      have hc : ∀ e : Dt, WV e → e.bulk ≤ N → ∀ k : Nat, k < most - 1 → i52 (m + 2) e (k : Int) (most : Int) = some (decide (((max k (min (dpt e) (most - 1)) : Nat) : Int) < ((most - 1 : Nat) : Int)), ((max k (min (dpt e) (most - 1)) : Nat) : Int), (most : Int)) := fun e hwe hbe k hk => by
        have hw1 : IntKind.wrap IntKind.i64 ((most : Int) - 1) = ((most - 1 : Nat) : Int) := by rw [wrap64 (by omega) (by omega)]; omega
        have hr := vdepth_eq N e hbe (by omega) hwe m (by omega) (most - 1) (by omega) (by omega)
        simp only [i52, hw1, hr, Option.bind_some, max_int]
      obtain ⟨p1, p2, p3, p4⟩ := wv_parts hw
      have k1 := each2_l (m + 2) (i52 (m + 2)) (Dt.L d 3) (by omega) most (fun e he => hc e (p3 e he).1 (by have := (p3 e he).2; omega)) (m + 3) 0 0 (Nat.zero_le _) (by omega) (by omega)
      have k2 := each2_d (m + 2) (i52 (m + 2)) (Dt.L d 4) (by omega) most (fun e he => hc _ (p4 e he).1 (by have := (p4 e he).2; omega)) (m + 3) 0 0 (Nat.zero_le _) (by omega) (by omega)
      rw [List.drop_zero] at k1 k2
      unfold prts at hd
      have fin : ∀ x : Nat, x < most → IntKind.wrap IntKind.i64 ((1 : Int) + (x : Int)) = ((1 + x : Nat) : Int) := fun x hx => by rw [wrap64 (by omega) (by omega)]; omega
      simp only [e2, cond_false, value_depth_j0, i51]
      cases h6 : (Dt.I d 0 == 6)
      · rw [h6] at hd
        cases h5 : (Dt.I d 0 == 5)
        · rw [h5] at hd
          simp only [cond_false, mx] at hd
          simp only [cond_false, Option.bind_some]
          rw [show ((0 : Int)) = ((0 : Nat) : Int) from rfl, fin 0 (by omega), hd]
          congr 2
          omega
        · rw [h5] at hd
          simp only [cond_false, cond_true, mx_map] at hd
          have k2' : i51_l5 (m + 2) (i52 (m + 2)) (Nat.succ (m + 2)) (Dt.L d 4) ((Dt.L d 4).length : Int) 0 0 (most : Int) = _ := k2
          simp only [cond_false, cond_true, i51_j3, i51_j2, i51_j0, i51_j7, i51_j6, i51_j4, k2', Option.bind_some]
          rw [fin _ (by omega), hd]
          congr 2
          omega
      · rw [h6] at hd
        simp only [cond_true] at hd
        have k1' : i51_l1 (m + 2) (i52 (m + 2)) (Nat.succ (m + 2)) (Dt.L d 3) ((Dt.L d 3).length : Int) 0 0 (most : Int) = _ := k1
        simp only [cond_true, i51_j3, i51_j2, i51_j0, i51_j7, i51_j6, i51_j4, k1', Option.bind_some]
        rw [fin _ (by omega), hd]
        congr 2
        omega
theorem vDepth_eq {d : Dt} (hw : WV d) (hb : d.bulk ≤ 137438953472) (m : Nat) (hm : 3 * d.bulk ≤ m) : value_Depth (m + 2) d = some ((min (dpt d) 17 : Nat) : Int) := by
  simp only [value_Depth]
  rw [show ((17 : Int)) = ((17 : Nat) : Int) from rfl, vdepth_eq d.bulk d (Nat.le_refl _) hb hw m hm 17 (by omega) (by omega)]
  rfl

/-- A valid value. -/
def okV (d : Dt) : Bool := decide (nds d ≤ 1024) && decide (dpt d ≤ 16) && sndF nm d.bulk d
theorem lim (n k : Nat) (h : k < 1000000) : decide (((min n (k + 1) : Nat) : Int) ≤ ((k : Nat) : Int)) = decide (n ≤ k) := by
  rw [dle, Bool.eq_iff_iff]; simp only [decide_eq_true_eq]; omega
theorem vValid_eq {d : Dt} (hw : WV d) (m : Nat) (hm : 3 * d.bulk + 300 ≤ m) (hb : d.bulk ≤ 100000000000) : value_Valid (m + 3) d = some (okV d) := by
  have h1 : value_Nodes (m + 2) d = some ((min (nds d) (1024 + 1) : Nat) : Int) := vNodes_eq hw (by omega) m (by omega)
  have h2 : value_Depth (m + 2) d = some ((min (dpt d) (16 + 1) : Nat) : Int) := vDepth_eq hw (by omega) m (by omega)
  have h3 : value_sound (m + 2) d = some (sndF nm d.bulk d) := vsound_eq d.bulk d (Nat.le_refl _) (by omega) hw (m + 1) (by omega)
  have l1 : decide (((min (nds d) (1024 + 1) : Nat) : Int) ≤ 1024) = decide (nds d ≤ 1024) := lim _ 1024 (by omega)
  have l2 : decide (((min (dpt d) (16 + 1) : Nat) : Int) ≤ 16) = decide (dpt d ≤ 16) := lim _ 16 (by omega)
  simp only [value_Valid, h1, h2, h3, Option.bind_some, l1, l2, okV]
  cases decide (nds d ≤ 1024) <;> cases decide (dpt d ≤ 16) <;> rfl
end Go.Proofs.YtfneddmmeadacaaDoor
namespace Go.Proofs.YtfneddmmeadacaaDoor
open Go.Am
theorem bulk_posA (d : Dt) : 1 ≤ d.bulk := by cases d <;> simp [Dt.bulk]
theorem bulk_memA {e : Dt} : ∀ {l : List Dt}, e ∈ l → e.bulk ≤ Dt.bulkL l
  | a :: r, h => by
    simp only [Dt.bulkL]
    rcases List.mem_cons.1 h with rfl | h
    · omega
    · have := bulk_memA h; omega
theorem len_bulkA : ∀ l : List Dt, l.length ≤ Dt.bulkL l
  | [] => by simp [Dt.bulkL]
  | a :: r => by have := len_bulkA r; have := bulk_posA a; simp only [Dt.bulkL, List.length_cons]; omega
theorem fld_bulk (d : Dt) (i : Nat) : (Dt.fld d i).bulk ≤ d.bulk := by
  cases d with
  | agg ds =>
    simp only [Dt.fld, Dt.bulk, List.getD]
    cases h : ds[i]? with
    | none => simp [Dt.bulk]
    | some e => have := bulk_memA (List.mem_of_getElem? h); simp; omega
  | _ => simp only [Dt.fld, Dt.bulk]; omega
theorem L_bulk (d : Dt) (i : Nat) : Dt.bulkL (Dt.L d i) < d.bulk := by
  have h := fld_bulk d i
  unfold Dt.L
  cases e : Dt.fld d i with
  | lst es => rw [e] at h; simp only [Dt.bulk] at h; simp only [Dt.toLst]; omega
  | _ => have := bulk_posA d; simp only [Dt.toLst, Dt.bulkL]; omega
theorem L_mem {d e : Dt} {i : Nat} (h : e ∈ Dt.L d i) : e.bulk < d.bulk := by
  have := L_bulk d i
  have := bulk_memA h
  omega
theorem L_len (d : Dt) (i : Nat) : (Dt.L d i).length < d.bulk := by
  have := L_bulk d i
  have := len_bulkA (Dt.L d i)
  omega
theorem S_size (d : Dt) (i : Nat) : (Dt.S d i).size < d.bulk := by
  have h := fld_bulk d i
  unfold Dt.S
  cases e : Dt.fld d i with
  | str s => rw [e] at h; simp only [Dt.bulk] at h; simp only [Dt.toStr]; omega
  | _ => have := bulk_posA d; simp only [Dt.toStr]; exact Nat.lt_of_lt_of_le (by decide) this
end Go.Proofs.YtfneddmmeadacaaDoor
