/- Sort keys: the program's function and the reference's, in plain Lean. -/
import Derived.Test.YtacchdeihafmnaaDoorMReach
import Derived.Test.YtacchdeihafmnaaDoorMCmp
set_option linter.unusedVariables false
set_option linter.unusedSimpArgs false
namespace Go.Proofs.YtacchdeihafmnaaDoor
open Go.Am
/-- A value that may be looked into. -/
structure DocOK (d : Dt) : Prop where
  wv : WV d
  bulk : d.bulk ≤ 1048576
  dl : DL 16 d
noncomputable def rchR (d : Dt) (p : List Dt) : List Dt := (ref04_Reach 300000000001 d p).getD []
theorem rchR_eq {d : Dt} (h : DocOK d) (p : List Dt) : (∀ x ∈ rchR d p, WV x) ∧ rchR d p ≠ [] ∧ Dt.bulkL (rchR d p) ≤ 68719476736 ∧ (∀ m, 300000000000 ≤ m → path_Reach (m + 1) d p = some (rchR d p)) ∧ (∀ m, 300000000000 ≤ m → ref04_Reach (m + 1) d p = some (rchR d p)) := by
  obtain ⟨r, h1, ⟨h2, _⟩, h3, h4, h5⟩ := reach_eq d h.bulk h.wv h.dl p 300000000000 300000000000 (by omega) (by omega)
  have e : rchR d p = r := by
    have h4' : ref04_Reach 300000000001 d p = some r := h4
    unfold rchR
    rw [h4']
    rfl
  rw [e]
  refine ⟨h1, h2, h3, fun m hm => ?_, fun m hm => ?_⟩
  · obtain ⟨r', _, _, _, g4, g5⟩ := reach_eq d h.bulk h.wv h.dl p m 300000000000 hm (by omega)
    rw [h4] at g4
    cases g4
    exact g5
  · obtain ⟨r', _, _, _, g4, g5⟩ := reach_eq d h.bulk h.wv h.dl p 300000000000 m (by omega) hm
    rw [h5] at g5
    cases g5
    exact g4
def nullV : Dt := .agg [.int 2, .int 0, .str (ByteArray.mk (List.toArray [])), .lst [], .lst []]
def vals1 (v : Dt) : List Dt := bif Dt.I v 0 == 0 then [nullV] else bif (Dt.I v 0 == 6 && decide (0 < (Dt.L v 3).length)) then Dt.L v 3 else [v]
def vals (r : List Dt) : List Dt := r.flatMap vals1
def better (desc : Bool) (c : Int) : Bool := (decide (c < 0) && !desc) || (decide (0 < c) && desc)
def bestS (desc : Bool) : Dt → List Dt → Dt
  | b, [] => b
  | b, v :: r => bif better desc (cmpD v b) then bestS desc v r else bestS desc b r
def keyS (desc : Bool) : List Dt → Dt
  | [] => zeroVal
  | v :: r => bestS desc v r
theorem vals1_ne (v : Dt) : vals1 v ≠ [] := by
  unfold vals1
  cases Dt.I v 0 == 0
  · cases h : (Dt.I v 0 == 6 && decide (0 < (Dt.L v 3).length))
    · simp
    · simp only [Bool.and_eq_true, decide_eq_true_eq] at h
      simp only [cond_false, cond_true]
      intro e
      rw [e] at h
      simp at h
  · simp
theorem null_wv : WV nullV := .mk (by simp) (by simp)
theorem vals1_wv {v : Dt} (h : WV v) : (∀ x ∈ vals1 v, WV x ∧ x.bulk ≤ v.bulk) ∧ (vals1 v).length ≤ v.bulk := by
  have hb : 6 ≤ v.bulk := by
    cases h with
    | @mk k i t l ds hl hd => rw [bulk_val]; omega
  unfold vals1
  cases Dt.I v 0 == 0
  · cases (Dt.I v 0 == 6 && decide (0 < (Dt.L v 3).length))
    · exact ⟨fun x hx => by simp at hx; subst hx; exact ⟨h, Nat.le_refl _⟩, by simp; omega⟩
    · refine ⟨fun x hx => ?_, ?_⟩
      · have := L_mem (d := v) (i := 3) hx
        cases h with
        | @mk k i t l ds hl hd => exact ⟨hl x hx, by omega⟩
      · have := L_len v 3
        simp only [cond_false, cond_true]; omega
  · refine ⟨fun x hx => ?_, by simp; omega⟩
    simp at hx
    subst hx
    exact ⟨null_wv, by show 6 ≤ v.bulk; exact hb⟩
theorem vals_cons (v : Dt) (r : List Dt) : vals (v :: r) = vals1 v ++ vals r := by simp [vals]
theorem vals_wv {r : List Dt} (h : ∀ x ∈ r, WV x) : (∀ x ∈ vals r, WV x ∧ x.bulk ≤ Dt.bulkL r) ∧ (vals r).length ≤ Dt.bulkL r := by
  induction r with
  | nil => exact ⟨by simp [vals], by simp [vals]⟩
  | cons v r ih =>
    obtain ⟨i1, i2⟩ := ih fun x hx => h x (by simp [hx])
    obtain ⟨g1, g2⟩ := vals1_wv (h v (by simp))
    have e : vals (v :: r) = vals1 v ++ vals r := by simp [vals]
    rw [e]
    simp only [Dt.bulkL]
    refine ⟨fun x hx => ?_, by rw [List.length_append]; omega⟩
    rcases List.mem_append.1 hx with hx | hx
    · exact ⟨(g1 x hx).1, by have := (g1 x hx).2; omega⟩
    · exact ⟨(i1 x hx).1, by have := (i1 x hx).2; omega⟩
theorem vals_ne {r : List Dt} (h : r ≠ []) : vals r ≠ [] := by
  cases r with
  | nil => exact absurd rfl h
  | cons v r =>
    intro e
    have : vals1 v ++ vals r = [] := by simpa [vals] using e
    exact vals1_ne v (List.append_eq_nil_iff.1 this).1
theorem okey_l1 (m : Nat) (r : List Dt) (o z : Dt) (hl : Dt.bulkL r ≤ 68719476736) : ∀ (M i : Nat) (out : List Dt), i ≤ r.length → r.length - i < M → out.length + Dt.bulkL (r.drop i) ≤ 68719476736 → (∀ x ∈ r, WV x) →
    order_key_l1 m M r (r.length : Int) (i : Int) o z out = order_key_j4 m o z (out ++ vals (r.drop i))
  | 0, i, _, _, h, _, _ => by omega
  | M + 1, i, out, hi, h, hb, hw => by
    have hlr := len_bulk r
    simp only [order_key_l1, dlt]
    by_cases hlt : i < r.length
    · obtain ⟨_, g2⟩ := vals1_wv (hw _ (List.getElem_mem hlt))
      have hbp := bulk_pos r[i]
      have hd : r.drop i = r[i] :: r.drop (i + 1) := List.drop_eq_getElem_cons hlt
      rw [hd] at hb
      simp only [Dt.bulkL] at hb
      have ih := okey_l1 m r o z hl M (i + 1) (out ++ vals1 r[i]) (by omega) (by omega) (by rw [List.length_append]; omega) hw
      have e : out ++ vals (r.drop i) = out ++ vals1 r[i] ++ vals (r.drop (i + 1)) := by rw [hd, vals_cons, List.append_assoc]
      rw [e, ← ih]
      have ha : ∀ L : List Dt, L.length ≤ r[i].bulk → app out L = some (out ++ L) := fun L hL => app_le (by omega)
      simp only [hlt, decide_true, cond_true, order_key_j2, order_key_j3, idx_lt hlt, Option.bind_some, wrapS (show i < 9223372036854775807 by omega)]
      unfold vals1 at g2 ⊢
      cases h0 : (Dt.I r[i] 0 == 0)
      · cases h6 : (Dt.I r[i] 0 == 6)
        · simp only [cond_false, Bool.false_and]
          rw [ha [r[i]] (by simp; omega)]; rfl
        · have e3 : decide ((0 : Int) < (((Dt.L r[i] 3).length : Nat) : Int)) = decide (0 < (Dt.L r[i] 3).length) := dlt (i := 0)
          rw [h0, h6] at g2
          simp only [cond_false, cond_true, Bool.true_and, e3] at g2 ⊢
          cases h3 : decide (0 < (Dt.L r[i] 3).length)
          · simp only [cond_false]
            rw [ha [r[i]] (by simp; omega)]; rfl
          · rw [h3] at g2
            simp only [cond_true] at g2 ⊢
            rw [ha _ g2]; rfl
      · simp only [cond_true]
        rw [show [Dt.agg [Dt.int 2, Dt.int 0, Dt.str (ByteArray.mk (List.toArray [])), Dt.lst [], Dt.lst []]] = [nullV] from rfl, ha [nullV] (by simp; omega)]; rfl
    · have : i = r.length := by omega
      subst this
      simp [vals]
theorem okey_l6 (m : Nat) (V : List Dt) (o z : Dt) (hl : V.length < 1000000000000) (hm : 80000000000 ≤ m) (hV : ∀ x ∈ V, x.bulk ≤ 68719476736) : ∀ (M i : Nat) (b : Dt), i ≤ V.length → V.length - i < M →
    order_key_l6 m M V (V.length : Int) (i : Int) o z b = some (bestS (Dt.B o 1) b (V.drop i))
  | 0, i, _, _, h => by omega
  | M + 1, i, b, hi, h => by
    obtain ⟨m, rfl⟩ : ∃ k, m = k + 3 := ⟨m - 3, by omega⟩
    simp only [order_key_l6, dlt]
    by_cases hlt : i < V.length
    · have hb := hV _ (List.getElem_mem hlt)
      rw [List.drop_eq_getElem_cons hlt]
      simp only [hlt, decide_true, cond_true, order_key_j7, order_key_j8, idx_lt hlt, Option.bind_some, vcmp_D V[i] b m (by omega) (by omega), wrapS (show i < 9223372036854775807 by omega), okey_l6 (m + 3) V o z hl hm hV M (i + 1) _ (by omega) (by omega), bestS, better]
      cases decide (cmpD V[i] b < 0) <;> cases decide (0 < cmpD V[i] b) <;> cases Dt.B o 1 <;> rfl
    · have : i = V.length := by omega
      subst this
      simp [order_key_j9, bestS]
theorem inL_hd (x : Dt) (V : List Dt) : inL (x :: V) 0 = some () := by
  unfold inL
  rw [if_pos ⟨by omega, by rw [List.length_cons]; omega⟩]
theorem okey_eq {d : Dt} (h : DocOK d) (o : Dt) (m : Nat) (hm : 300000000000 ≤ m) : order_key (m + 2) o d = some (keyS (Dt.B o 1) (vals (rchR d (Dt.L o 0)))) := by
  obtain ⟨h1, h2, h3, h4, _⟩ := rchR_eq h (Dt.L o 0)
  obtain ⟨v1, v2⟩ := vals_wv h1
  simp only [order_key, h4 m hm, Option.bind_some, order_key_j0]
  have e1 := okey_l1 (m + 1) (rchR d (Dt.L o 0)) o zeroVal h3 (m + 2) 0 [] (Nat.zero_le _) (by have := len_bulk (rchR d (Dt.L o 0)); omega) (by simp; omega) h1
  rw [List.drop_zero, List.nil_append] at e1
  have e1' : order_key_l1 (m + 1) (Nat.succ (m + 1)) (rchR d (Dt.L o 0)) (((rchR d (Dt.L o 0)).length : Nat) : Int) 0 o (Dt.agg [Dt.int 0, Dt.int 0, Dt.str (ByteArray.mk (List.toArray [])), Dt.lst [], Dt.lst []]) [] = _ := e1
  rw [e1']
  cases hv : vals (rchR d (Dt.L o 0)) with
  | nil => exact absurd hv (vals_ne h2)
  | cons x V =>
    rw [hv] at v1 v2
    have ex : inL (x :: V) 0 = some () := inL_hd x V
    have ec : cutL (x :: V) 1 (((x :: V).length : Nat) : Int) = some V := cutL_tail x V
    have e6 := okey_l6 (m + 1) V o zeroVal (by simp only [List.length_cons] at v2; omega) (by omega) (fun y hy => by have := (v1 y (by simp [hy])).2; omega) (m + 2) 0 x (Nat.zero_le _) (by simp only [List.length_cons] at v2; omega)
    rw [List.drop_zero] at e6
    have e6' : order_key_l6 (m + 1) (Nat.succ (m + 1)) V ((V.length : Nat) : Int) 0 o zeroVal x = _ := e6
    simp only [order_key_j4, ex, ec, List.getElem?_cons_zero, Option.bind_some, order_key_j5, keyS]
    exact e6'
theorem rvals_l1 (m : Nat) (r : List Dt) (hl : Dt.bulkL r ≤ 68719476736) : ∀ (M i : Nat) (out : List Dt), i ≤ r.length → r.length - i < M → out.length + Dt.bulkL (r.drop i) ≤ 68719476736 → (∀ x ∈ r, WV x) →
    ref12_Values_l1 m M r (i : Int) out = some (out ++ vals (r.drop i))
  | 0, i, _, _, h, _, _ => by omega
  | M + 1, i, out, hi, h, hb, hw => by
    have hlr := len_bulk r
    simp only [ref12_Values_l1, dlt]
    by_cases hlt : i < r.length
    · obtain ⟨_, g2⟩ := vals1_wv (hw _ (List.getElem_mem hlt))
      have hbp := bulk_pos r[i]
      have hd : r.drop i = r[i] :: r.drop (i + 1) := List.drop_eq_getElem_cons hlt
      rw [hd] at hb
      simp only [Dt.bulkL] at hb
      have ih := rvals_l1 m r hl M (i + 1) (out ++ vals1 r[i]) (by omega) (by omega) (by rw [List.length_append]; omega) hw
      have e : out ++ vals (r.drop i) = out ++ vals1 r[i] ++ vals (r.drop (i + 1)) := by rw [hd, vals_cons, List.append_assoc]
      rw [e, ← ih]
      have ha : ∀ L : List Dt, L.length ≤ r[i].bulk → app out L = some (out ++ L) := fun L hL => app_le (by omega)
      simp only [hlt, decide_true, cond_true, ref12_Values_j2, ref12_Values_j3, idx_lt hlt, Option.bind_some, wrapS (show i < 9223372036854775807 by omega)]
      unfold vals1 at g2 ⊢
      cases h0 : (Dt.I r[i] 0 == 0)
      · cases h6 : (Dt.I r[i] 0 == 6)
        · simp only [cond_false, Bool.false_and]
          rw [ha [r[i]] (by simp; omega)]; rfl
        · have e3 : decide ((0 : Int) < (((Dt.L r[i] 3).length : Nat) : Int)) = decide (0 < (Dt.L r[i] 3).length) := dlt (i := 0)
          rw [h0, h6] at g2
          simp only [cond_false, cond_true, Bool.true_and, e3] at g2 ⊢
          cases h3 : decide (0 < (Dt.L r[i] 3).length)
          · simp only [cond_false]
            rw [ha [r[i]] (by simp; omega)]; rfl
          · rw [h3] at g2
            simp only [cond_true] at g2 ⊢
            rw [ha _ g2]; rfl
      · simp only [cond_true]
        rw [show [Dt.agg [Dt.int 2, Dt.int 0, Dt.str (ByteArray.mk (List.toArray [])), Dt.lst [], Dt.lst []]] = [nullV] from rfl, ha [nullV] (by simp; omega)]; rfl
    · have : i = r.length := by omega
      subst this
      simp [vals, ref12_Values_j4]
theorem rkey_l1 (m : Nat) (V : List Dt) (o z : Dt) (hl : V.length < 1000000000000) (hm : 80000000000 ≤ m) (hm2 : m < 900000000000) (hV : ∀ x ∈ V, x.bulk ≤ 68719476736) : ∀ (M i : Nat) (b : Dt), i ≤ V.length → V.length - i < M →
    ref12_key_l1 m M V (i : Int) o z b = some (bestS (Dt.B o 1) b (V.drop i))
  | 0, i, _, _, h => by omega
  | M + 1, i, b, hi, h => by
    obtain ⟨m, rfl⟩ : ∃ k, m = k + 3 := ⟨m - 3, by omega⟩
    simp only [ref12_key_l1, dlt]
    by_cases hlt : i < V.length
    · have hb := hV _ (List.getElem_mem hlt)
      rw [List.drop_eq_getElem_cons hlt]
      simp only [hlt, decide_true, cond_true, ref12_key_j2, ref12_key_j3, idx_lt hlt, Option.bind_some, rcmp_D V[i] b m (by omega) (by omega), wrapS (show i < 9223372036854775807 by omega), rkey_l1 (m + 3) V o z hl hm hm2 hV M (i + 1) _ (by omega) (by omega), bestS, better]
      cases decide (cmpD V[i] b < 0) <;> cases decide (0 < cmpD V[i] b) <;> cases Dt.B o 1 <;> rfl
    · have : i = V.length := by omega
      subst this
      simp [ref12_key_j4, bestS]
theorem rkey_eq {d : Dt} (h : DocOK d) (o : Dt) (m : Nat) (hm : 300000000000 ≤ m) (hm2 : m < 800000000000) : ref12_key (m + 3) o d = some (keyS (Dt.B o 1) (vals (rchR d (Dt.L o 0)))) := by
  obtain ⟨h1, h2, h3, _, h4⟩ := rchR_eq h (Dt.L o 0)
  obtain ⟨v1, v2⟩ := vals_wv h1
  have e1 := rvals_l1 (m + 1) (rchR d (Dt.L o 0)) h3 (m + 2) 0 [] (Nat.zero_le _) (by have := len_bulk (rchR d (Dt.L o 0)); omega) (by simp; omega) h1
  rw [List.drop_zero, List.nil_append] at e1
  have e1' : ref12_Values_l1 (m + 1) (Nat.succ (m + 1)) (rchR d (Dt.L o 0)) 0 [] = _ := e1
  simp only [ref12_key, ref12_Values, h4 m hm, Option.bind_some, ref12_Values_j0, e1']
  cases hv : vals (rchR d (Dt.L o 0)) with
  | nil => exact absurd hv (vals_ne h2)
  | cons x V =>
    rw [hv] at v1 v2
    have e6 := rkey_l1 (m + 2) (x :: V) o zeroVal (by omega) (by omega) (by omega) (fun y hy => by have := (v1 y hy).2; omega) (m + 3) 1 x (by simp) (by simp only [List.length_cons] at v2 ⊢; omega)
    have e6' : ref12_key_l1 (m + 2) (Nat.succ (m + 2)) (x :: V) 1 o zeroVal x = _ := e6
    simp only [idx_head, Option.bind_some, ref12_key_j0, keyS]
    exact e6'
theorem bestS_mem (desc : Bool) : ∀ (b : Dt) (V : List Dt), bestS desc b V = b ∨ bestS desc b V ∈ V
  | b, [] => .inl rfl
  | b, v :: V => by
    unfold bestS
    cases better desc (cmpD v b)
    · rcases bestS_mem desc b V with h | h
      · exact .inl h
      · exact .inr (by simp only [cond_false]; exact List.mem_cons_of_mem _ h)
    · rcases bestS_mem desc v V with h | h
      · exact .inr (by simp only [cond_true]; rw [h]; exact List.mem_cons_self)
      · exact .inr (by simp only [cond_true]; exact List.mem_cons_of_mem _ h)
noncomputable def keyD (o d : Dt) : Dt := keyS (Dt.B o 1) (vals (rchR d (Dt.L o 0)))
theorem keyD_wv {d : Dt} (h : DocOK d) (o : Dt) : WV (keyD o d) ∧ (keyD o d).bulk ≤ 68719476736 := by
  obtain ⟨h1, h2, h3, _, _⟩ := rchR_eq h (Dt.L o 0)
  obtain ⟨v1, v2⟩ := vals_wv h1
  unfold keyD
  cases hv : vals (rchR d (Dt.L o 0)) with
  | nil => exact absurd hv (vals_ne h2)
  | cons x V =>
    rw [hv] at v1
    have : bestS (Dt.B o 1) x V ∈ x :: V := by
      rcases bestS_mem (Dt.B o 1) x V with e | e
      · rw [e]; exact List.mem_cons_self
      · exact List.mem_cons_of_mem _ e
    exact ⟨(v1 _ this).1, by have := (v1 _ this).2; show (bestS (Dt.B o 1) x V).bulk ≤ _; omega⟩
noncomputable def keysD (l : List Dt) (d : Dt) : List Dt := l.map fun o => keyD o d
theorem okeys_l1 (m : Nat) (hm : 300000000000 ≤ m) (l : List Dt) (d : Dt) (h : DocOK d) (hl : l.length ≤ 100) : ∀ (M i : Nat), i ≤ l.length → l.length - i < M → order_Keys_l1 (m + 2) M l (l.length : Int) (i : Int) d ((l.take i).map fun o => keyD o d) = some (keysD l d)
  | 0, i, _, h => by omega
  | M + 1, i, hi, h1 => by
    simp only [order_Keys_l1, dlt]
    by_cases hlt : i < l.length
    · simp only [hlt, decide_true, cond_true, order_Keys_j2, order_Keys_j3, idx_lt hlt, Option.bind_some, okey_eq h l[i] m hm, wrapS (show i < 9223372036854775807 by omega)]
      rw [app_le (by simp; omega)]
      have e : (l.take i).map (fun o => keyD o d) ++ [keyS (Dt.B l[i] 1) (vals (rchR d (Dt.L l[i] 0)))] = (l.take (i + 1)).map fun o => keyD o d := by
        rw [List.take_succ_eq_append_getElem hlt, List.map_append]; rfl
      rw [Option.bind_some, e]
      exact okeys_l1 m hm l d h hl M (i + 1) (by omega) (by omega)
    · have : i = l.length := by omega
      subst this
      simp [order_Keys_j4, keysD]
theorem okeys_eq (m : Nat) (hm : 300000000000 ≤ m) (l : List Dt) (d : Dt) (h : DocOK d) (hl : l.length ≤ 100) : order_Keys (m + 3) l d = some (keysD l d) :=
  okeys_l1 m hm l d h hl (m + 3) 0 (Nat.zero_le _) (by omega)
-- comparing
def sgn (o : Dt) (c : Int) : Int := bif Dt.B o 1 then - c else c
def cmpKs : List Dt → List Dt → List Dt → Int
  | [], _, _ => 0
  | o :: l, a, b => bif sgn o (cmpD (a.headD zeroVal) (b.headD zeroVal)) != 0 then sgn o (cmpD (a.headD zeroVal) (b.headD zeroVal)) else cmpKs l a.tail b.tail
theorem tpoK : ∀ l, TPO (cmpKs l)
  | [] => TPO.zero
  | o :: l => by
    have h1 : TPO (fun a b : Dt => sgn o (cmpD a b)) := by
      unfold sgn
      cases Dt.B o 1
      · exact tpoD
      · exact tpoD.neg
    exact (h1.key fun a : List Dt => a.headD zeroVal).lex ((tpoK l).key fun a : List Dt => a.tail)
noncomputable def cmpO (l : List Dt) (a b : Dt) : Int := cmpKs l (keysD l a) (keysD l b)
theorem tpoO (l : List Dt) : TPO (cmpO l) := (tpoK l).key fun d => keysD l d
theorem headD_drop {l : List Dt} {i : Nat} (h : i < l.length) : (l.drop i).headD zeroVal = l[i] := by rw [List.drop_eq_getElem_cons h]; rfl
theorem neg_cmp (a b : Dt) : IntKind.wrap IntKind.i64 (0 - cmpD a b) = - cmpD a b := by
  have := tpoD.rng a b
  rw [wrap64 (by omega) (by omega)]; omega
theorem neg_bne (x : Int) : (- x != 0) = (x != 0) := by
  rw [Bool.eq_iff_iff]; simp only [bne_iff_ne]; omega
theorem ocmp_l1 (m : Nat) (hm : 80000000000 ≤ m) (l A B : List Dt) (hA : A.length = l.length) (hB : B.length = l.length) (hl : l.length ≤ 100) (hb : ∀ x ∈ A, x.bulk ≤ 68719476736) : ∀ (M i : Nat), i ≤ l.length → l.length - i < M →
    order_compare_l1 m M A B l (l.length : Int) (i : Int) = some (cmpKs (l.drop i) (A.drop i) (B.drop i))
  | 0, i, _, h => by omega
  | M + 1, i, hi, h => by
    obtain ⟨m, rfl⟩ : ∃ k, m = k + 3 := ⟨m - 3, by omega⟩
    simp only [order_compare_l1, dlt]
    by_cases hlt : i < l.length
    · have ha : i < A.length := by omega
      have hb' : i < B.length := by omega
      have e : cmpKs (l.drop i) (A.drop i) (B.drop i) = bif sgn l[i] (cmpD A[i] B[i]) != 0 then sgn l[i] (cmpD A[i] B[i]) else cmpKs (l.drop (i + 1)) (A.drop (i + 1)) (B.drop (i + 1)) := by
        rw [List.drop_eq_getElem_cons hlt]
        simp only [cmpKs, headD_drop ha, headD_drop hb', List.tail_drop]
      rw [e]
      simp only [hlt, decide_true, cond_true, order_compare_j2, order_compare_j3, order_compare_j4, idx_lt hlt, idx_lt ha, idx_lt hb', Option.bind_some, vcmp_D A[i] B[i] m (by have := hb _ (List.getElem_mem ha); omega) (by have := hb _ (List.getElem_mem ha); omega), neg_cmp, wrapS (show i < 9223372036854775807 by omega), ocmp_l1 (m + 3) hm l A B hA hB hl hb M (i + 1) (by omega) (by omega), sgn]
      cases Dt.B l[i] 1
      · simp only [cond_false]
        by_cases e0 : cmpD A[i] B[i] = 0
        · rw [bne_f e0, bne_f e0]
        · rw [bne_t e0, bne_t e0]
      · simp only [cond_true]
        by_cases e0 : - cmpD A[i] B[i] = 0
        · rw [bne_f e0, bne_f e0]
        · rw [bne_t e0, bne_t e0]
    · have : i = l.length := by omega
      subst this
      simp [order_compare_j5, cmpKs]
theorem ocmp_eq (m : Nat) (hm : 80000000000 ≤ m) (l A B : List Dt) (hA : A.length = l.length) (hB : B.length = l.length) (hl : l.length ≤ 100) (hb : ∀ x ∈ A, x.bulk ≤ 68719476736) : order_compare (m + 1) l A B = some (cmpKs l A B) := by
  have := ocmp_l1 m hm l A B hA hB hl hb (m + 1) 0 (Nat.zero_le _) (by omega)
  rw [List.drop_zero, List.drop_zero, List.drop_zero] at this
  exact this
theorem oCompare_eq (m : Nat) (hm : 300000000000 ≤ m) (l : List Dt) (a b : Dt) (ha : DocOK a) (hb : DocOK b) (hl : l.length ≤ 100) : order_Compare (m + 4) l a b = some (cmpO l a b) := by
  simp only [order_Compare, okeys_eq m hm l a ha hl, okeys_eq m hm l b hb hl, Option.bind_some, ocmp_eq (m + 2) (by omega) l (keysD l a) (keysD l b) (by simp [keysD]) (by simp [keysD]) hl (fun x hx => by
    obtain ⟨o, _, rfl⟩ := List.mem_map.1 hx
    exact (keyD_wv ha o).2)]
  rfl
theorem rCompare_l1 (m : Nat) (hm : 300000000000 ≤ m) (hm2 : m < 800000000000) (l : List Dt) (a b : Dt) (ha : DocOK a) (hb : DocOK b) (hl : l.length ≤ 100) : ∀ (M i : Nat), i ≤ l.length → l.length - i < M →
    ref12_Compare_l1 (m + 3) M l (i : Int) a b = some (cmpKs (l.drop i) ((keysD l a).drop i) ((keysD l b).drop i))
  | 0, i, _, h => by omega
  | M + 1, i, hi, h => by
    simp only [ref12_Compare_l1, dlt]
    by_cases hlt : i < l.length
    · have la : i < (keysD l a).length := by simpa [keysD] using hlt
      have lb : i < (keysD l b).length := by simpa [keysD] using hlt
      have ka : (keysD l a)[i] = keyD l[i] a := by simp [keysD]
      have kb : (keysD l b)[i] = keyD l[i] b := by simp [keysD]
      have e : cmpKs (l.drop i) ((keysD l a).drop i) ((keysD l b).drop i) = bif sgn l[i] (cmpD (keyD l[i] a) (keyD l[i] b)) != 0 then sgn l[i] (cmpD (keyD l[i] a) (keyD l[i] b)) else cmpKs (l.drop (i + 1)) ((keysD l a).drop (i + 1)) ((keysD l b).drop (i + 1)) := by
        rw [List.drop_eq_getElem_cons hlt]
        simp only [cmpKs, headD_drop la, headD_drop lb, List.tail_drop, ka, kb]
      rw [e]
      have c1 : ref12_key (m + 3) l[i] a = some (keyD l[i] a) := rkey_eq ha l[i] m hm hm2
      have c2 : ref12_key (m + 3) l[i] b = some (keyD l[i] b) := rkey_eq hb l[i] m hm hm2
      have c3 : ref01_Compare (m + 3) (keyD l[i] a) (keyD l[i] b) = some (cmpD (keyD l[i] a) (keyD l[i] b)) := rcmp_D _ _ m (by have := (keyD_wv ha l[i]).2; omega) (by omega)
      simp only [hlt, decide_true, cond_true, ref12_Compare_j2, ref12_Compare_j3, ref12_Compare_j4, idx_lt hlt, c1, c2, c3, Option.bind_some, neg_cmp, wrapS (show i < 9223372036854775807 by omega), rCompare_l1 m hm hm2 l a b ha hb hl M (i + 1) (by omega) (by omega), sgn]
      cases Dt.B l[i] 1
      · simp only [cond_false]
        cases (cmpD (keyD l[i] a) (keyD l[i] b) != 0) <;> rfl
      · simp only [cond_true, neg_bne]
        cases (cmpD (keyD l[i] a) (keyD l[i] b) != 0) <;> rfl
    · have : i = l.length := by omega
      subst this
      simp [ref12_Compare_j5, cmpKs]
theorem rCompare_eq (m : Nat) (hm : 300000000000 ≤ m) (hm2 : m < 800000000000) (l : List Dt) (a b : Dt) (ha : DocOK a) (hb : DocOK b) (hl : l.length ≤ 100) : ref12_Compare (m + 4) l a b = some (cmpO l a b) := by
  have := rCompare_l1 m hm hm2 l a b ha hb hl (m + 4) 0 (Nat.zero_le _) (by omega)
  rw [List.drop_zero, List.drop_zero, List.drop_zero] at this
  exact this
end Go.Proofs.YtacchdeihafmnaaDoor
