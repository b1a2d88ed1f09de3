/- Values: well-formed data, copies, sameness, parts, levels, counts: the program's functions and the reference's, in plain Lean. -/
import Derived.Test.YtacchdeihafmnaaDoorFx
import Derived.Test.YtacchdeihafmnaaDoorMBase
import Derived.Test.YtacchdeihafmnaaDoorMTy
set_option linter.unusedVariables false
set_option linter.unusedSimpArgs false
namespace Go.Proofs.YtacchdeihafmnaaDoor
open Go.Am

mutual
inductive WV : Dt → Prop where
  | mk {k i : Int} {t : ByteArray} {l ds : List Dt} (hl : ∀ e ∈ l, WV e) (hd : ∀ f ∈ ds, WF f) : WV (.agg [.int k, .int i, .str t, .lst l, .lst ds])
inductive WF : Dt → Prop where
  | mk {s : ByteArray} {v : Dt} (h : WV v) : WF (.agg [.str s, v])
end
theorem list2 {A : Type} {l : List A} (h : l.length = 2) : ∃ a b, l = [a, b] := by
  match l, h with
  | [a, b], _ => exact ⟨a, b, rfl⟩
theorem list5' {A : Type} {l : List A} (h : l.length = 5) : ∃ a b c d e, l = [a, b, c, d, e] := by
  match l, h with
  | [a, b, c, d, e], _ => exact ⟨a, b, c, d, e, rfl⟩
structure TQ (T : TypeId) (d : Dt) : Prop where
  i : T = 3 → ∃ n, d = .int n
  s : T = 9 → ∃ s, d = .str s
  v : T = 30 → WV d
  f : T = 53 → WF d
  l : T = 27 → ∃ l, d = .lst l ∧ ∀ e ∈ l, WV e
  d : T = 28 → ∃ l, d = .lst l ∧ ∀ e ∈ l, WF e
theorem tq_of {ok : Nat → Prop} {w : World} {T : TypeId} {d : Dt} {cs : List Value} (h : RD Tryd.prog ok w T d cs) : TQ T d := by
  induction h with
  | @int T k n hu _ _ =>
    refine ⟨fun _ => ⟨n, rfl⟩, ?_, ?_, ?_, ?_, ?_⟩ <;> rintro rfl
    · have := hu.symm.trans Tryd.underlying9; cases this
    · have := hu.symm.trans Tryd.underlying30; cases this
    · have := hu.symm.trans Tryd.underlying53; cases this
    · have := hu.symm.trans Tryd.underlying27; cases this
    · have := hu.symm.trans Tryd.underlying28; cases this
  | @bool T b hu =>
    refine ⟨?_, ?_, ?_, ?_, ?_, ?_⟩ <;> rintro rfl
    · have := hu.symm.trans Tryd.underlying3; cases this
    · have := hu.symm.trans Tryd.underlying9; cases this
    · have := hu.symm.trans Tryd.underlying30; cases this
    · have := hu.symm.trans Tryd.underlying53; cases this
    · have := hu.symm.trans Tryd.underlying27; cases this
    · have := hu.symm.trans Tryd.underlying28; cases this
  | @str T s hu _ =>
    refine ⟨?_, fun _ => ⟨s, rfl⟩, ?_, ?_, ?_, ?_⟩ <;> rintro rfl
    · have := hu.symm.trans Tryd.underlying3; cases this
    · have := hu.symm.trans Tryd.underlying30; cases this
    · have := hu.symm.trans Tryd.underlying53; cases this
    · have := hu.symm.trans Tryd.underlying27; cases this
    · have := hu.symm.trans Tryd.underlying28; cases this
  | @agg T fs ds cs hu hl _ _ _ ih =>
    refine ⟨?_, ?_, ?_, ?_, ?_, ?_⟩ <;> rintro rfl
    · have := hu.symm.trans Tryd.underlying3; cases this
    · have := hu.symm.trans Tryd.underlying9; cases this
    · have e := hu.symm.trans Tryd.underlying30
      simp only [Option.some.injEq, TypeDesc.struct.injEq] at e
      subst e
      obtain ⟨a, b, c, d, e, rfl⟩ := list5' hl
      obtain ⟨n0, rfl⟩ := (ih 0 _ a rfl rfl).i rfl
      obtain ⟨n1, rfl⟩ := (ih 1 _ b rfl rfl).i rfl
      obtain ⟨n2, rfl⟩ := (ih 2 _ c rfl rfl).s rfl
      obtain ⟨l, rfl, hl'⟩ := (ih 3 _ d rfl rfl).l rfl
      obtain ⟨ds, rfl, hd'⟩ := (ih 4 _ e rfl rfl).d rfl
      exact .mk hl' hd'
    · have e := hu.symm.trans Tryd.underlying53
      simp only [Option.some.injEq, TypeDesc.struct.injEq] at e
      subst e
      obtain ⟨a, b, rfl⟩ := list2 hl
      obtain ⟨s, rfl⟩ := (ih 0 _ a rfl rfl).s rfl
      exact .mk ((ih 1 _ b rfl rfl).v rfl)
    · have := hu.symm.trans Tryd.underlying27; cases this
    · have := hu.symm.trans Tryd.underlying28; cases this
  | @lst T E es a len cap ad g hu _ _ _ _ _ _ ih =>
    refine ⟨?_, ?_, ?_, ?_, ?_, ?_⟩ <;> rintro rfl
    · have := hu.symm.trans Tryd.underlying3; cases this
    · have := hu.symm.trans Tryd.underlying9; cases this
    · have := hu.symm.trans Tryd.underlying30; cases this
    · have := hu.symm.trans Tryd.underlying53; cases this
    · have e := hu.symm.trans Tryd.underlying27
      simp only [Option.some.injEq, TypeDesc.slice.injEq] at e
      subst e
      refine ⟨es, rfl, fun e he => ?_⟩
      obtain ⟨i, hi⟩ := List.getElem?_of_mem he
      exact (ih i e hi).v rfl
    · have e := hu.symm.trans Tryd.underlying28
      simp only [Option.some.injEq, TypeDesc.slice.injEq] at e
      subst e
      refine ⟨es, rfl, fun e he => ?_⟩
      obtain ⟨i, hi⟩ := List.getElem?_of_mem he
      exact (ih i e hi).f rfl
theorem wv_of {d : Dt} (h : HasTy Tryd.prog 30 d) : WV d := by
  obtain ⟨_, _, _, h⟩ := h
  exact (tq_of h).v rfl

-- sizes
theorem bulk_pos (d : Dt) : 1 ≤ d.bulk := by cases d <;> simp [Dt.bulk]
theorem bulk_mem {e : Dt} : ∀ {l : List Dt}, e ∈ l → e.bulk ≤ Dt.bulkL l
  | a :: r, h => by
    simp only [Dt.bulkL]
    rcases List.mem_cons.1 h with rfl | h
    · omega
    · have := bulk_mem h; omega
theorem len_bulk : ∀ l : List Dt, l.length ≤ Dt.bulkL l
  | [] => by simp [Dt.bulkL]
  | a :: r => by have := len_bulk r; have := bulk_pos a; simp only [Dt.bulkL, List.length_cons]; omega
theorem bulk_val {k i : Int} {t : ByteArray} {l ds : List Dt} : Dt.bulk (.agg [.int k, .int i, .str t, .lst l, .lst ds]) = Dt.bulkL l + Dt.bulkL ds + (t.size + 6) := by
  simp only [Dt.bulk, Dt.bulkL]; omega
theorem bulk_fld {s : ByteArray} {v : Dt} : Dt.bulk (.agg [.str s, v]) = v.bulk + s.size + 2 := by simp only [Dt.bulk, Dt.bulkL]; omega

-- copies
theorem set_step {A : Type} (l : List A) (z : A) (i : Nat) (h : i < l.length) : (l.take i ++ List.replicate (l.length - i) z).set i l[i] = l.take (i + 1) ++ List.replicate (l.length - (i + 1)) z := by
  rw [List.set_append_right _ _ (by simp; omega)]
  have h1 : i - (l.take i).length = 0 := by simp; omega
  rw [h1, show l.length - i = (l.length - (i + 1)) + 1 by omega, List.replicate_succ, List.set_cons_zero, List.take_succ_eq_append_getElem h, List.append_assoc]
  rfl
theorem row_len {A : Type} (l : List A) (z : A) (i : Nat) (h : i ≤ l.length) : (l.take i ++ List.replicate (l.length - i) z).length = l.length := by simp; omega
theorem inL_lt {l : List Dt} {i : Nat} (h : i < l.length) : inL l (i : Int) = some () := by
  unfold inL
  rw [if_pos (by omega)]
theorem clone_l1 (m : Nat) (self : Dt → Option Dt) (l : List Dt) (hl : l.length < 9223372036854775807) (hs : ∀ e ∈ l, self e = some e) (z x3 x4 : Dt) (x5 x6 : Int) (x7 : ByteArray) : ∀ (M i : Nat), i ≤ l.length → l.length - i < M →
    path_clone_l1 m self M l (l.length : Int) (i : Int) x3 x4 x5 x6 x7 (l.take i ++ List.replicate (l.length - i) z) = path_clone_j4 m self x3 x4 x5 x6 x7 l
  | 0, i, _, h => by omega
  | M + 1, i, hi, h => by
    simp only [path_clone_l1, dlt]
    by_cases hlt : i < l.length
    · have hx : i < (l.take i ++ List.replicate (l.length - i) z).length := by rw [row_len l z i hi]; exact hlt
      simp only [hlt, decide_true, cond_true, path_clone_j2, path_clone_j3, idx_lt hlt, Option.bind_some, hs _ (List.getElem_mem hlt), inL_lt hx, Int.toNat_natCast, List.getElem?_eq_getElem hx, set_step l z i hlt, wrapS (show i < 9223372036854775807 by omega)]
      exact clone_l1 m self l hl hs z x3 x4 x5 x6 x7 M (i + 1) (by omega) (by omega)
    · have e : i = l.length := by omega
      subst e
      simp
theorem fld1 {s : ByteArray} {v : Dt} : Dt.fld (.agg [.str s, v]) 1 = v := rfl
theorem clone_l6 (m : Nat) (self : Dt → Option Dt) (l : List Dt) (hl : l.length < 9223372036854775807) (hf : ∀ f ∈ l, ∃ s v, f = .agg [.str s, v] ∧ self v = some v) (z x3 : Dt) (x4 x5 : Int) (x6 : ByteArray) (x7 : List Dt) : ∀ (M i : Nat), i ≤ l.length → l.length - i < M →
    path_clone_l6 m self M l (l.length : Int) (i : Int) x3 x4 x5 x6 x7 (l.take i ++ List.replicate (l.length - i) z) = some (.agg [.int x4, .int x5, .str x6, .lst x7, .lst l])
  | 0, i, _, h => by omega
  | M + 1, i, hi, h => by
    simp only [path_clone_l6, dlt]
    by_cases hlt : i < l.length
    · have hx : i < (l.take i ++ List.replicate (l.length - i) z).length := by rw [row_len l z i hi]; exact hlt
      obtain ⟨s, v, e1, e2⟩ := hf _ (List.getElem_mem hlt)
      have e3 : Dt.agg [.str (Dt.S l[i] 0), v] = l[i] := by rw [e1]; rfl
      have e4 : Dt.fld l[i] 1 = v := by rw [e1]; rfl
      simp only [hlt, decide_true, cond_true, path_clone_j7, path_clone_j8, idx_lt hlt, Option.bind_some, e4, e2, e3, inL_lt hx, Int.toNat_natCast, List.getElem?_eq_getElem hx, set_step l z i hlt, wrapS (show i < 9223372036854775807 by omega)]
      exact clone_l6 m self l hl hf z x3 x4 x5 x6 x7 M (i + 1) (by omega) (by omega)
    · have e : i = l.length := by omega
      subst e
      simp [path_clone_j9]
theorem clone_l13 (m : Nat) (self : Dt → Option Dt) (l : List Dt) (hl : l.length < 9223372036854775807) (hf : ∀ f ∈ l, ∃ s v, f = .agg [.str s, v] ∧ self v = some v) (z x3 : Dt) (x4 x5 : Int) (x6 : ByteArray) (x7 : List Dt) : ∀ (M i : Nat), i ≤ l.length → l.length - i < M →
    path_clone_l13 m self M l (l.length : Int) (i : Int) x3 x4 x5 x6 x7 (l.take i ++ List.replicate (l.length - i) z) = some (.agg [.int x4, .int x5, .str x6, .lst x7, .lst l])
  | 0, i, _, h => by omega
  | M + 1, i, hi, h => by
    simp only [path_clone_l13, dlt]
    by_cases hlt : i < l.length
    · have hx : i < (l.take i ++ List.replicate (l.length - i) z).length := by rw [row_len l z i hi]; exact hlt
      obtain ⟨s, v, e1, e2⟩ := hf _ (List.getElem_mem hlt)
      have e3 : Dt.agg [.str (Dt.S l[i] 0), v] = l[i] := by rw [e1]; rfl
      have e4 : Dt.fld l[i] 1 = v := by rw [e1]; rfl
      simp only [hlt, decide_true, cond_true, path_clone_j14, path_clone_j15, idx_lt hlt, Option.bind_some, e4, e2, e3, inL_lt hx, Int.toNat_natCast, List.getElem?_eq_getElem hx, set_step l z i hlt, wrapS (show i < 9223372036854775807 by omega)]
      exact clone_l13 m self l hl hf z x3 x4 x5 x6 x7 M (i + 1) (by omega) (by omega)
    · have e : i = l.length := by omega
      subst e
      simp [path_clone_j16]
theorem mkL_nat {n : Nat} {z : Dt} (h : n ≤ 137438953472) : mkL (n : Int) (n : Int) z = some (List.replicate n z) := by
  unfold mkL
  rw [if_pos (by omega)]
  simp
theorem clone_eq : ∀ (N : Nat) (d : Dt), d.bulk ≤ N → N ≤ 137438953472 → WV d → ∀ m, N ≤ m → path_clone (m + 1) d = some d
  | 0, d, h, _, _, _, _ => by have := bulk_pos d; omega
  | N + 1, d, h, hN, hw, m, hm => by
    cases hw with
    | @mk k i t l ds hl hd =>
      rw [bulk_val] at h
      obtain ⟨m, rfl⟩ : ∃ q, m = q + 1 := ⟨m - 1, by omega⟩
      have hself : ∀ e ∈ l, path_clone (m + 1) e = some e := fun e he => clone_eq N e (by have := bulk_mem he; omega) (by omega) (hl e he) m (by omega)
      have hfld : ∀ f ∈ ds, ∃ s v, f = .agg [.str s, v] ∧ path_clone (m + 1) v = some v := fun f hf => by
        have hb := bulk_mem hf
        cases hd f hf with
        | @mk s v hv =>
          rw [bulk_fld] at hb
          exact ⟨s, v, rfl, clone_eq N v (by omega) (by omega) hv m (by omega)⟩
      have hl1 := len_bulk l
      have hd1 := len_bulk ds
      show (bif (decide ((0 : Int) < ((l.length : Nat) : Int))) then _ else _) = _
      have key6 := fun (x3 : Dt) (x7 : List Dt) (z : Dt) => clone_l6 (m + 1) (path_clone (m + 1)) ds (by omega) hfld z x3 k i t x7 (m + 2) 0 (by omega) (by omega)
      have key13 := fun (x3 : Dt) (x7 : List Dt) (z : Dt) => clone_l13 (m + 1) (path_clone (m + 1)) ds (by omega) hfld z x3 k i t x7 (m + 2) 0 (by omega) (by omega)
      simp only [List.take_zero, List.nil_append, Nat.sub_zero] at key6 key13
      by_cases h0 : 0 < l.length
      · have e0 : decide ((0 : Int) < ((l.length : Nat) : Int)) = true := by simp; omega
        have key := fun (x3 x4 : Dt) (z : Dt) => clone_l1 (m + 1) (path_clone (m + 1)) l (by omega) hself z x3 x4 k i t (m + 2) 0 (by omega) (by omega)
        simp only [List.take_zero, List.nil_append, Nat.sub_zero] at key
        rw [e0]
        simp only [cond_true]
        show Option.bind (mkL ((l.length : Nat) : Int) ((l.length : Nat) : Int) _) _ = _
        rw [mkL_nat (by omega), Option.bind_some]
        show path_clone_l1 (m + 1) (path_clone (m + 1)) (m + 2) l ((l.length : Nat) : Int) ((0 : Nat) : Int) _ _ k i t _ = _
        rw [key]
        show (bif (decide ((0 : Int) < ((ds.length : Nat) : Int))) then _ else _) = _
        by_cases h1 : 0 < ds.length
        · have e1 : decide ((0 : Int) < ((ds.length : Nat) : Int)) = true := by simp; omega
          rw [e1]
          simp only [cond_true]
          show Option.bind (mkL ((ds.length : Nat) : Int) ((ds.length : Nat) : Int) _) _ = _
          rw [mkL_nat (by omega), Option.bind_some]
          exact key6 _ _ _
        · have e1 : decide ((0 : Int) < ((ds.length : Nat) : Int)) = false := by rw [decide_eq_false_iff_not]; omega
          have e2 : ds = [] := List.length_eq_zero_iff.1 (by omega)
          subst e2
          rfl
      · have e0 : decide ((0 : Int) < ((l.length : Nat) : Int)) = false := by rw [decide_eq_false_iff_not]; omega
        have e3 : l = [] := List.length_eq_zero_iff.1 (by omega)
        subst e3
        show (bif (decide ((0 : Int) < ((ds.length : Nat) : Int))) then _ else _) = _
        by_cases h1 : 0 < ds.length
        · have e1 : decide ((0 : Int) < ((ds.length : Nat) : Int)) = true := by simp; omega
          rw [e1]
          simp only [cond_true]
          show Option.bind (mkL ((ds.length : Nat) : Int) ((ds.length : Nat) : Int) _) _ = _
          rw [mkL_nat (by omega), Option.bind_some]
          exact key13 _ _ _
        · have e2 : ds = [] := List.length_eq_zero_iff.1 (by omega)
          subst e2
          rfl
end Go.Proofs.YtacchdeihafmnaaDoor
