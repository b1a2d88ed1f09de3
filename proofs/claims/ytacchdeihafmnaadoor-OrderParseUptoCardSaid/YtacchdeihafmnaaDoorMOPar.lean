/- Sort orders out of values, in plain Lean: the program's function is the reference's. -/
import Derived.Test.YtacchdeihafmnaaDoorMOVal
import Derived.Test.YtacchdeihafmnaaDoorMBulk
set_option linter.unusedVariables false
set_option linter.unusedSimpArgs false
namespace Go.Proofs.YtacchdeihafmnaaDoor
open Go.Am

def parS (s : ByteArray) : List Dt × Int := bif vld ((splitOn 46 s.data.toList).map strD) then ((splitOn 46 s.data.toList).map strD, 0) else ([], 10)
theorem pParse_eq (m : Nat) (hm : 40 ≤ m) (s : ByteArray) (hs : s.size < 4294967281) : path_Parse (m + 4) s = some (parS s) := by
  have h0 : strings_Split s (ByteArray.mk (List.toArray [(46 : UInt8)])) = some ((splitOn 46 s.data.toList).map strD) := split_eq s hs
  simp only [path_Parse, h0, Option.bind_some, valid_eq m hm, parS]
  cases vld ((splitOn 46 s.data.toList).map strD) <;> rfl
theorem rParse_eq (m : Nat) (hm : 41 ≤ m) (s : ByteArray) (hs : s.size ≤ m) (hm2 : m ≤ 100000000) : ref04_Parse (m + 2) s = some (parS s) := by
  obtain ⟨m, rfl⟩ : ∃ k, m = k + 1 := ⟨m - 1, by omega⟩
  simp only [ref04_Parse, refsplit_eq (m + 1) s hs hm2, Option.bind_some, refvalid_eq (m + 1) (by omega), parS]
  cases vld ((splitOn 46 s.data.toList).map strD) <;> rfl
theorem parS_len (s : ByteArray) : (parS s).1.length ≤ 16 := by
  unfold parS
  cases h : vld ((splitOn 46 s.data.toList).map strD)
  · simp
  · exact vld_len h
theorem idx_mem {l : List Dt} {i : Int} {e : Dt} (h : idx l i = some e) : e ∈ l := List.mem_of_getElem? (idx_some h).2
theorem opar_sim (m m' : Nat) (d : Dt) (hP : ∀ e ∈ Dt.L d 4, path_Parse m (Dt.S e 0) = ref04_Parse m' (Dt.S e 0)) (hV : ∀ l, order_Valid m l = ref12_Valid m' l) : ∀ (M : Nat) (i : Int) (out : List Dt),
    order_Parse_l2 m M (Dt.L d 4) (((Dt.L d 4).length : Nat) : Int) i out = ref12_Parse_l2 m' M i d out
  | 0, _, _ => rfl
  | M + 1, i, out => by
    have ih := opar_sim m m' d hP hV M
    simp only [order_Parse_l2, ref12_Parse_l2, order_Parse_j3, ref12_Parse_j3, order_Parse_j7, ref12_Parse_j7, hV]
    cases hb : decide (i < (((Dt.L d 4).length : Nat) : Int))
    · rfl
    · simp only [cond_true]
      cases hi : idx (Dt.L d 4) i with
      | none => rfl
      | some e =>
        simp only [Option.bind_some, hP e (idx_mem hi)]
        cases hr : ref04_Parse m' (Dt.S e 0) with
        | none => rfl
        | some r =>
          simp only [Option.bind_some]
          cases hb2 : (Prod.snd r != (0 : Int))
          · simp only [cond_false, order_Parse_j4, ref12_Parse_j4, order_Parse_j5, ref12_Parse_j5, order_Parse_j6, ref12_Parse_j6, hi, Option.bind_some, ih, Dt.I]
          · rfl
structure OrdOK (l : List Dt) : Prop where
  len : l.length ≤ 100
  path : ∀ o ∈ l, (Dt.L o 0).length ≤ 16
theorem opar_tot (m : Nat) (hm : 50 ≤ m) (hm2 : m < 9223372036854775800) (l : List Dt) (hl : l.length ≤ 100) (hs : ∀ e ∈ l, (Dt.S e 0).size < 4294967281) : ∀ (M i : Nat) (out : List Dt), i ≤ l.length → l.length - i < M → out.length ≤ i → (∀ o ∈ out, (Dt.L o 0).length ≤ 16) →
    ∃ r, order_Parse_l2 (m + 4) M l (l.length : Int) (i : Int) out = some r ∧ OrdOK r.1
  | 0, i, _, _, h, _, _ => by omega
  | M + 1, i, out, hi, h, ho, hp => by
    simp only [order_Parse_l2, dlt]
    by_cases hlt : i < l.length
    · simp only [hlt, decide_true, cond_true, order_Parse_j3, idx_lt hlt, Option.bind_some, pParse_eq m (by omega) _ (hs _ (List.getElem_mem hlt))]
      have happ : ∀ b, app out [Dt.agg [Dt.lst (parS (Dt.S l[i] 0)).1, Dt.bool b]] = some (out ++ [Dt.agg [Dt.lst (parS (Dt.S l[i] 0)).1, Dt.bool b]]) := fun b => app_le (by simp; omega)
      have hnext : ∀ b, ∃ r, order_Parse_l2 (m + 4) M l (l.length : Int) ((i + 1 : Nat) : Int) (out ++ [Dt.agg [Dt.lst (parS (Dt.S l[i] 0)).1, Dt.bool b]]) = some r ∧ OrdOK r.1 := fun b => opar_tot m hm hm2 l hl hs M (i + 1) _ (by omega) (by omega) (by simp; omega) (fun o hq => by
        rcases List.mem_append.1 hq with hq | hq
        · exact hp o hq
        · rw [List.mem_singleton] at hq
          subst hq
          exact parS_len _)
      cases hb : ((parS (Dt.S l[i] 0)).2 != (0 : Int))
      · simp only [cond_false, order_Parse_j4, order_Parse_j5, order_Parse_j6, happ, Option.bind_some, wrapS (show i < 9223372036854775807 by omega)]
        obtain ⟨r, h1, h2⟩ := hnext ((Dt.fld l[i] 1).I 1 == -1)
        cases (Dt.I (Dt.fld l[i] 1) 0 != 3)
        · cases (Dt.I (Dt.fld l[i] 1) 1 != 1)
          · exact ⟨r, h1, h2⟩
          · cases (Dt.I (Dt.fld l[i] 1) 1 != -1)
            · exact ⟨r, h1, h2⟩
            · exact ⟨_, rfl, by simp, by simp⟩
        · exact ⟨_, rfl, by simp, by simp⟩
      · exact ⟨_, rfl, by simp, by simp⟩
    · simp only [hlt, decide_false, cond_false, order_Parse_j7, oval_eq m hm (by omega), Option.bind_some]
      cases (errO out != 0)
      · exact ⟨_, rfl, by show out.length ≤ 100; omega, hp⟩
      · exact ⟨_, rfl, by simp, by simp⟩
theorem osame_loop (m : Nat) (hm : 100 ≤ m) (hm2 : m < 9223372036854775800) (l : List Dt) (hl : OrdOK l) : ∀ (M i : Nat), i ≤ l.length → l.length - i < M → law12_Same_l2 (m + 1) M l l (l.length : Int) (i : Int) = some true
  | 0, i, _, h => by omega
  | M + 1, i, hi, h => by
    have := hl.len
    simp only [law12_Same_l2, dlt]
    by_cases hlt : i < l.length
    · simp only [hlt, decide_true, cond_true, law12_Same_j3, idx_lt hlt, Option.bind_some, beq_self_eq_true, Bool.not_true, cond_false, sEqual_eq m (Dt.L l[i] 0) (Dt.L l[i] 0) (.inl (Nat.le_trans (hl.path _ (List.getElem_mem hlt)) (by omega))) (by omega), eqP_refl, law12_Same_j4, wrapS (show i < 9223372036854775807 by omega)]
      exact osame_loop m hm hm2 l hl M (i + 1) (by omega) (by omega)
    · simp only [hlt, decide_false, cond_false, law12_Same_j5]
theorem osame_refl (m : Nat) (hm : 100 ≤ m) (hm2 : m < 9223372036854775800) (l : List Dt) (hl : OrdOK l) : law12_Same (m + 2) l l = some true := by
  have := hl.len
  simp only [law12_Same, bne_self_eq_false, cond_false, law12_Same_j0, law12_Same_j1]
  exact osame_loop m hm hm2 l hl (m + 2) 0 (by omega) (by omega)
theorem law_opar (m : Nat) (hm : 1100 ≤ m) (hm2 : m ≤ 99999990) (d : Dt) (hs : ∀ e ∈ Dt.L d 4, (Dt.S e 0).size ≤ m) : law12_OrderParse (m + 7) d = some true := by
  simp only [law12_OrderParse]
  by_cases h1 : 100 < (Dt.L d 4).length
  · have e : decide ((100 : Int) < (((Dt.L d 4).length : Nat) : Int)) = true := by simp; omega
    simp only [e, cond_true, awakeC, Option.bind_some]
  · have e : decide ((100 : Int) < (((Dt.L d 4).length : Nat) : Int)) = false := by simp; omega
    simp only [e, cond_false, law12_OrderParse_j0]
    have hP : ∀ e ∈ Dt.L d 4, path_Parse (m + 5) (Dt.S e 0) = ref04_Parse (m + 5) (Dt.S e 0) := fun e he => by
      rw [show m + 5 = (m + 1) + 4 from rfl, pParse_eq (m + 1) (by omega) _ (by have := hs e he; omega), show (m + 1) + 4 = (m + 3) + 2 from rfl, rParse_eq (m + 3) (by omega) _ (by have := hs e he; omega) (by omega)]
    have hV : ∀ l, order_Valid (m + 5) l = ref12_Valid (m + 5) l := fun l => by
      rw [show m + 5 = (m + 1) + 4 from rfl, oval_eq (m + 1) (by omega) (by omega), show (m + 1) + 4 = (m + 3) + 2 from rfl, rval_eq (m + 3) (by omega) (by omega)]
    have hsim : order_Parse (m + 6) d = ref12_Parse (m + 6) d := by
      simp only [order_Parse, ref12_Parse, order_Parse_j0, order_Parse_j1, ref12_Parse_j0, ref12_Parse_j1, opar_sim (m + 5) (m + 5) d hP hV]
    have htot : ∃ r, order_Parse (m + 6) d = some r ∧ OrdOK r.1 := by
      simp only [order_Parse]
      cases (Dt.I d 0 != 5)
      · simp only [cond_false, order_Parse_j0, order_Parse_j1]
        exact opar_tot (m + 1) (by omega) (by omega) (Dt.L d 4) (by omega) (fun e he => by have := hs e he; omega) (m + 6) 0 [] (by omega) (by omega) (by simp) (by simp)
      · exact ⟨_, rfl, by simp, by simp⟩
    obtain ⟨r, h2, h3⟩ := htot
    rw [← hsim, h2]
    simp only [Option.bind_some, beq_self_eq_true, cond_true, osame_refl (m + 4) (by omega) (by omega) r.1 h3, awakeC]
theorem opar_fx {ds : List Dt} (h : HasTys Tryd.prog Tryd.f4.params.toList ds) (hb : Dt.bulkL ds ≤ 1048576) : FX Tryd.prog 4 (dats Tryd.f4.params.toList ds) [] (.dat 4 (.bool true)) [] := by
  have h' : HasTys Tryd.prog [30] ds := h
  cases h' with
  | @cons _ d _ _ h1 r =>
    cases r
    simp only [Dt.bulkL] at hb
    exact law12_OrderParse_fx 2000006 (ct_ok 2000006) _ (law_opar 2000000 (by omega) (by omega) d fun e he => by have := L_mem he; have := S_size e 0; omega)
end Go.Proofs.YtacchdeihafmnaaDoor
