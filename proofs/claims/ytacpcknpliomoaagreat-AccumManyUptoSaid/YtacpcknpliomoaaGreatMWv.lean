/- Values: well-formed data, and their sizes. -/
import Derived.Test.YtacpcknpliomoaaGreatSh
import Derived.Test.YtacpcknpliomoaaGreatMBase
import Derived.Test.YtacpcknpliomoaaGreatMTy
set_option linter.unusedVariables false
set_option linter.unusedSimpArgs false
namespace Go.Proofs.YtacpcknpliomoaaGreat
open Go.Am

mutual
inductive WV : Dt → Prop where
  | mk {k i : Int} {t : ByteArray} {l ds : List Dt} (hl : ∀ e ∈ l, WV e) (hd : ∀ f ∈ ds, WF f) : WV (.agg [.int k, .int i, .str t, .lst l, .lst ds])
inductive WF : Dt → Prop where
  | mk {s : ByteArray} {v : Dt} (h : WV v) : WF (.agg [.str s, v])
end
theorem list2 {A : Type} {l : List A} (h : l.length = 2) : ∃ a b, l = [a, b] := by
  match l, h with
  | [a, b], _ => exact ⟨a, b, rfl⟩
theorem list5' {A : Type} {l : List A} (h : l.length = 5) : ∃ a b c d e, l = [a, b, c, d, e] := by
  match l, h with
  | [a, b, c, d, e], _ => exact ⟨a, b, c, d, e, rfl⟩
structure TQ (T : TypeId) (d : Dt) : Prop where
  i : T = 3 → ∃ n, d = .int n
  s : T = 9 → ∃ s, d = .str s
  v : T = 25 → WV d
  f : T = 57 → WF d
  l : T = 22 → ∃ l, d = .lst l ∧ ∀ e ∈ l, WV e
  d : T = 23 → ∃ l, d = .lst l ∧ ∀ e ∈ l, WF e
theorem tq_of {ok : Nat → Prop} {w : World} {T : TypeId} {d : Dt} {cs : List Value} (h : RD Tryz.prog ok w T d cs) : TQ T d := by
  induction h with
  | @int T k n hu _ _ =>
    refine ⟨fun _ => ⟨n, rfl⟩, ?_, ?_, ?_, ?_, ?_⟩ <;> rintro rfl
    · have := hu.symm.trans Tryz.underlying9; cases this
    · have := hu.symm.trans Tryz.underlying25; cases this
    · have := hu.symm.trans Tryz.underlying57; cases this
    · have := hu.symm.trans Tryz.underlying22; cases this
    · have := hu.symm.trans Tryz.underlying23; cases this
  | @bool T b hu =>
    refine ⟨?_, ?_, ?_, ?_, ?_, ?_⟩ <;> rintro rfl
    · have := hu.symm.trans Tryz.underlying3; cases this
    · have := hu.symm.trans Tryz.underlying9; cases this
    · have := hu.symm.trans Tryz.underlying25; cases this
    · have := hu.symm.trans Tryz.underlying57; cases this
    · have := hu.symm.trans Tryz.underlying22; cases this
    · have := hu.symm.trans Tryz.underlying23; cases this
  | @str T s hu _ =>
    refine ⟨?_, fun _ => ⟨s, rfl⟩, ?_, ?_, ?_, ?_⟩ <;> rintro rfl
    · have := hu.symm.trans Tryz.underlying3; cases this
    · have := hu.symm.trans Tryz.underlying25; cases this
    · have := hu.symm.trans Tryz.underlying57; cases this
    · have := hu.symm.trans Tryz.underlying22; cases this
    · have := hu.symm.trans Tryz.underlying23; cases this
  | @agg T fs ds cs hu hl _ _ _ ih =>
    refine ⟨?_, ?_, ?_, ?_, ?_, ?_⟩ <;> rintro rfl
    · have := hu.symm.trans Tryz.underlying3; cases this
    · have := hu.symm.trans Tryz.underlying9; cases this
    · have e := hu.symm.trans Tryz.underlying25
      simp only [Option.some.injEq, TypeDesc.struct.injEq] at e
      subst e
      obtain ⟨a, b, c, d, e, rfl⟩ := list5' hl
      obtain ⟨n0, rfl⟩ := (ih 0 _ a rfl rfl).i rfl
      obtain ⟨n1, rfl⟩ := (ih 1 _ b rfl rfl).i rfl
      obtain ⟨n2, rfl⟩ := (ih 2 _ c rfl rfl).s rfl
      obtain ⟨l, rfl, hl'⟩ := (ih 3 _ d rfl rfl).l rfl
      obtain ⟨ds, rfl, hd'⟩ := (ih 4 _ e rfl rfl).d rfl
      exact .mk hl' hd'
    · have e := hu.symm.trans Tryz.underlying57
      simp only [Option.some.injEq, TypeDesc.struct.injEq] at e
      subst e
      obtain ⟨a, b, rfl⟩ := list2 hl
      obtain ⟨s, rfl⟩ := (ih 0 _ a rfl rfl).s rfl
      exact .mk ((ih 1 _ b rfl rfl).v rfl)
    · have := hu.symm.trans Tryz.underlying22; cases this
    · have := hu.symm.trans Tryz.underlying23; cases this
  | @lst T E es a len cap ad g hu _ _ _ _ _ _ ih =>
    refine ⟨?_, ?_, ?_, ?_, ?_, ?_⟩ <;> rintro rfl
    · have := hu.symm.trans Tryz.underlying3; cases this
    · have := hu.symm.trans Tryz.underlying9; cases this
    · have := hu.symm.trans Tryz.underlying25; cases this
    · have := hu.symm.trans Tryz.underlying57; cases this
    · have e := hu.symm.trans Tryz.underlying22
      simp only [Option.some.injEq, TypeDesc.slice.injEq] at e
      subst e
      refine ⟨es, rfl, fun e he => ?_⟩
      obtain ⟨i, hi⟩ := List.getElem?_of_mem he
      exact (ih i e hi).v rfl
    · have e := hu.symm.trans Tryz.underlying23
      simp only [Option.some.injEq, TypeDesc.slice.injEq] at e
      subst e
      refine ⟨es, rfl, fun e he => ?_⟩
      obtain ⟨i, hi⟩ := List.getElem?_of_mem he
      exact (ih i e hi).f rfl
  | @arr T E q es cs hu _ _ _ _ ih =>
    refine ⟨?_, ?_, ?_, ?_, ?_, ?_⟩ <;> rintro rfl
    · have := hu.symm.trans Tryz.underlying3; cases this
    · have := hu.symm.trans Tryz.underlying9; cases this
    · have := hu.symm.trans Tryz.underlying25; cases this
    · have := hu.symm.trans Tryz.underlying57; cases this
    · have := hu.symm.trans Tryz.underlying22; cases this
    · have := hu.symm.trans Tryz.underlying23; cases this
  | @nilp T E hu =>
    refine ⟨?_, ?_, ?_, ?_, ?_, ?_⟩ <;> rintro rfl
    · have := hu.symm.trans Tryz.underlying3; cases this
    · have := hu.symm.trans Tryz.underlying9; cases this
    · have := hu.symm.trans Tryz.underlying25; cases this
    · have := hu.symm.trans Tryz.underlying57; cases this
    · have := hu.symm.trans Tryz.underlying22; cases this
    · have := hu.symm.trans Tryz.underlying23; cases this
  | @ptr T E d cs ad hu _ _ _ _ _ =>
    refine ⟨?_, ?_, ?_, ?_, ?_, ?_⟩ <;> rintro rfl
    · have := hu.symm.trans Tryz.underlying3; cases this
    · have := hu.symm.trans Tryz.underlying9; cases this
    · have := hu.symm.trans Tryz.underlying25; cases this
    · have := hu.symm.trans Tryz.underlying57; cases this
    · have := hu.symm.trans Tryz.underlying22; cases this
    · have := hu.symm.trans Tryz.underlying23; cases this
theorem wv_of {d : Dt} (h : HasTy Tryz.prog 25 d) : WV d := by
  obtain ⟨_, _, _, h⟩ := h
  exact (tq_of h).v rfl

-- sizes
theorem bulk_pos (d : Dt) : 1 ≤ d.bulk := by cases d <;> simp [Dt.bulk]
theorem bulk_mem {e : Dt} : ∀ {l : List Dt}, e ∈ l → e.bulk ≤ Dt.bulkL l
  | a :: r, h => by
    simp only [Dt.bulkL]
    rcases List.mem_cons.1 h with rfl | h
    · omega
    · have := bulk_mem h; omega
theorem len_bulk : ∀ l : List Dt, l.length ≤ Dt.bulkL l
  | [] => by simp [Dt.bulkL]
  | a :: r => by have := len_bulk r; have := bulk_pos a; simp only [Dt.bulkL, List.length_cons]; omega
theorem bulk_val {k i : Int} {t : ByteArray} {l ds : List Dt} : Dt.bulk (.agg [.int k, .int i, .str t, .lst l, .lst ds]) = Dt.bulkL l + Dt.bulkL ds + (t.size + 6) := by
  simp only [Dt.bulk, Dt.bulkL]; omega
theorem bulk_fld {s : ByteArray} {v : Dt} : Dt.bulk (.agg [.str s, v]) = v.bulk + s.size + 2 := by simp only [Dt.bulk, Dt.bulkL]; omega

theorem set_step {A : Type} (l : List A) (z : A) (i : Nat) (h : i < l.length) : (l.take i ++ List.replicate (l.length - i) z).set i l[i] = l.take (i + 1) ++ List.replicate (l.length - (i + 1)) z := by
  rw [List.set_append_right _ _ (by simp; omega)]
  have h1 : i - (l.take i).length = 0 := by simp; omega
  rw [h1, show l.length - i = (l.length - (i + 1)) + 1 by omega, List.replicate_succ, List.set_cons_zero, List.take_succ_eq_append_getElem h, List.append_assoc]
  rfl
theorem row_len {A : Type} (l : List A) (z : A) (i : Nat) (h : i ≤ l.length) : (l.take i ++ List.replicate (l.length - i) z).length = l.length := by simp; omega
theorem inL_lt {l : List Dt} {i : Nat} (h : i < l.length) : inL l (i : Int) = some () := by
  unfold inL
  rw [if_pos (by omega)]
theorem fld1 {s : ByteArray} {v : Dt} : Dt.fld (.agg [.str s, v]) 1 = v := rfl
theorem mkL_nat {n : Nat} {z : Dt} (h : n ≤ 137438953472) : mkL (n : Int) (n : Int) z = some (List.replicate n z) := by
  unfold mkL
  rw [if_pos (by omega)]
  simp
theorem wv_parts {d : Dt} (hw : WV d) : (Dt.L d 3).length ≤ d.bulk ∧ (Dt.L d 4).length ≤ d.bulk ∧ (∀ e ∈ Dt.L d 3, WV e ∧ e.bulk < d.bulk) ∧ (∀ f ∈ Dt.L d 4, WV (Dt.fld f 1) ∧ (Dt.fld f 1).bulk < d.bulk) := by
  cases hw with
  | @mk k i t l ds hl hd =>
    rw [bulk_val]
    have h3 := len_bulk l
    have h4 := len_bulk ds
    refine ⟨by show l.length ≤ _; omega, by show ds.length ≤ _; omega, fun e he => ⟨hl e he, ?_⟩, fun f hf => ?_⟩
    · have := bulk_mem (show e ∈ l from he); omega
    · have hb := bulk_mem (show f ∈ ds from hf)
      cases hd f hf with
      | @mk s v hv =>
        rw [bulk_fld] at hb
        exact ⟨hv, by show v.bulk < _; omega⟩
end Go.Proofs.YtacpcknpliomoaaGreat
