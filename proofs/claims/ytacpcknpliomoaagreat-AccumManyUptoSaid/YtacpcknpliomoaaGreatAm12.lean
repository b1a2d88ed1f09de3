/- The abstract machine, part 12: what the helpers compute is so. -/
import Derived.Test.YtacpcknpliomoaaGreatAm11
set_option linter.unusedVariables false
set_option linter.unusedSimpArgs false
namespace Go.Am
open Go.RowKit

theorem bif_some {A : Type} {b : Bool} {x : Option A} {r : A} (h : (bif b then x else none) = some r) : b = true ∧ x = some r := by
  cases b with
  | true => exact ⟨rfl, h⟩
  | false => cases h
theorem and_l {a b : Bool} (h : (a && b) = true) : a = true := by cases a <;> simp_all
theorem and_r {a b : Bool} (h : (a && b) = true) : b = true := by cases a <;> simp_all
theorem beq_eq {a b : Nat} (h : Nat.beq a b = true) : a = b := Nat.eq_of_beq_eq_true h
theorem nbeq {a b : Nat} (h : (!Nat.beq a b) = true) : a ≠ b := fun e => by subst e; simp at h

section
variable {P : Program} {n : Nat} {o : Oper} {σ τ : St} {x y : Operand} {v : AV} {T : TypeId} {R : Type} {E : Env}

theorem avF_get {av : TypeId → List Value → Option AV} {cs : List Value} : ∀ {fs : List Field} {vs : List AV}, avF av P cs fs = some vs → vs.length = fs.length ∧ ∀ (i : Nat) (f : Field) (v : AV), fs[i]? = some f → vs[i]? = some v → v = .dead ∨ av f.type ((cs.drop f.offset).take (P.cellsOf f.type)) = some v
  | [], vs, h => by simp only [avF, Option.some.injEq] at h; subst h; exact ⟨rfl, fun i f v hf => by simp at hf⟩
  | f :: fs, vs, h => by
    unfold avF at h
    split at h
    · rename_i us hus
      cases h
      obtain ⟨h1, h2⟩ := avF_get hus
      refine ⟨by simp [h1], fun i g u hg hu => ?_⟩
      cases i with
      | zero =>
        simp only [List.getElem?_cons_zero, Option.some.injEq] at hg hu
        subst hg
        split at hu
        · rename_i v hv; subst hu; exact .inr hv
        · subst hu; exact .inl rfl
      | succ i => simp only [List.getElem?_cons_succ] at hg hu; exact h2 i g u hg hu
    · cases h
theorem avC_sound : ∀ {k : Nat} {T : TypeId} {cs : List Value} {v : AV}, avC P k T cs = some v → (∀ (ok : Nat → Prop) (w : World) (β : Nat → Option Value), RA P ok w β v cs) ∧ v.isAgg P = aggT P T ∧ v ≠ .dead ∧ (∀ us, v ≠ .tup us) ∧ (aggT P T = false → cs.length = 1)
  | 0, _, _, _, h => by simp [avC] at h
  | k + 1, T, cs, v, h => by
    unfold avC at h
    split at h
    · rename_i q hu
      split at h
      · rename_i q' m
        obtain ⟨h1, h2⟩ := bif_some h
        cases h2
        have e : q = q' := by simpa using and_l h1
        subst e
        have h3 : q.min ≤ m := by simpa using and_l (and_r h1)
        have h4 : m ≤ q.max := by simpa using and_r (and_r h1)
        exact ⟨fun _ _ _ => .dat (.int hu h3 h4), rfl, by simp, by simp, fun _ => rfl⟩
      · cases h
    · rename_i hu
      split at h
      · cases h; exact ⟨fun _ _ _ => .dat (.bool hu), rfl, by simp, by simp, fun _ => rfl⟩
      · cases h
    · rename_i hu
      split at h
      · obtain ⟨h1, h2⟩ := bif_some h
        cases h2
        exact ⟨fun _ _ _ => .dat (.str hu (Nat.le_of_ble_eq_true h1)), rfl, by simp, by simp, fun _ => rfl⟩
      · cases h
    · rename_i e hu
      split at h
      · cases h; exact ⟨fun _ _ _ => .nils, by simp [AV.isAgg, aggT, hu], by simp, by simp, fun _ => rfl⟩
      · cases h
    · rename_i fs hu
      obtain ⟨h1, h2⟩ := bif_some h
      split at h2
      · rename_i vs hvs
        cases h2
        obtain ⟨q1, q2⟩ := avF_get hvs
        refine ⟨fun ok w β => .agg hu (by rw [q1]; simp) (beq_eq (and_l h1)) (fun c hc => List.all_eq_true.1 (and_r h1) c hc) fun i f u hf hu2 => by
          rcases q2 i f u (by simpa using hf) hu2 with rfl | h3
          · exact .dead fun c hc => List.all_eq_true.1 (and_r h1) c (List.mem_of_mem_drop (List.mem_of_mem_take hc))
          · exact (avC_sound h3).1 ok w β, rfl, by simp, by simp, fun hf => by simp [aggT, hu] at hf⟩
      · cases h2
    · rename_i ms hu
      split at h
      · cases h; exact ⟨fun _ _ _ => .nif, by simp [AV.isAgg, aggT, hu], by simp, by simp, fun _ => rfl⟩
      · cases h
    · rename_i len Te hu
      split at h
      · rename_i hb
        obtain ⟨h1, h2⟩ := bif_some h
        cases h2
        have e1 := beq_eq (and_l h1)
        have e2 := beq_eq (and_l (and_r h1))
        have e3 := beq_eq (and_l (and_r (and_r h1)))
        have e4 : ∀ c ∈ cs, c = .bool false := fun c hc => by
          have := List.all_eq_true.1 (and_r (and_r (and_r h1))) c hc
          cases c <;> simp [isF] at this
          rw [this]
        refine ⟨fun ok w β => .dat (.arr hu (by simp [offs]) (by rw [e1, e2]) (fun c hc => by rw [e4 c hc]; rfl) fun i d hd => ?_), rfl, by simp, by simp, fun hf => by simp [aggT, hu] at hf⟩
        obtain ⟨hi, rfl⟩ := by simpa [offs, List.getElem?_replicate] using hd
        rw [e3, Nat.mul_one]
        have hlt : i < cs.length := by omega
        rw [List.drop_eq_getElem_cons hlt]
        simp only [List.take_succ_cons, List.take_zero]
        rw [e4 _ (List.getElem_mem hlt)]
        exact .bool hb
      · cases h
    · rename_i pe hu
      split at h
      · cases h; exact ⟨fun _ _ _ => .dat (.nilp hu), rfl, by simp, by simp, fun _ => rfl⟩
      · cases h
    · cases h
theorem RV.const {ok : Nat → Prop} {w : World} {β : Nat → Option Value} {z : Value} {k : Nat} (h : avC P k T z.cells.toList = some v) (hz : isAggV z = aggT P T) : RV P ok w β v z := by
  obtain ⟨h1, h2, h3, h4, _⟩ := avC_sound h
  refine RV.of1 h3 h4 ⟨fun hi => ?_, fun hi => ?_⟩
  · rw [h2, ← hz] at hi
    cases z <;> simp [isAggV] at hi
    exact ⟨_, by simp [Value.cells], h1 _ _ _⟩
  · rw [h2, ← hz] at hi
    have := h1 ok w β
    cases z <;> simp [isAggV] at hi <;> simpa [Value.cells] using this
theorem cst_rv {ok : Nat → Prop} {w : World} {β : Nat → Option Value} {z : Value} : ∀ {Ts : List TypeId}, RV P ok w β (cst P z Ts) z
  | [] => trivial
  | T :: r => by
    unfold cst
    split
    · rename_i a ha
      cases hb : isAggV z == aggT P T with
      | true => exact RV.const ha (by simpa using hb)
      | false => exact trivial
    · exact cst_rv
theorem opd_ev {D : List TypeId} : Ev P σ x (opd P D σ T x) := by
  cases x with
  | tmp t => exact Ev.tmp rfl
  | const v => exact fun _ _ _ _ _ _ _ => cst_rv
  | func f => exact Ev.fn
  | global g => exact fun _ _ _ _ _ _ _ => trivial
def Agrs (σ σ' : St) (xs : List Operand) : Prop := ∀ t ∈ tmpsOf xs, tk σ'.ts t = tk σ.ts t
theorem mem_tmps {t : Nat} : ∀ {xs : List Operand}, .tmp t ∈ xs → t ∈ tmpsOf xs
  | [], h => by simp at h
  | y :: r, h => by
    rcases List.mem_cons.1 h with e | h1
    · subst e; simp [tmpsOf]
    · have := mem_tmps h1
      cases y <;> simp [tmpsOf, this]
theorem opd_agr {σ' : St} {D : List TypeId} {xs : List Operand} (h : Agrs σ σ' xs) (hx : x ∈ xs) : opd P D σ' T x = opd P D σ T x := by
  cases x with
  | tmp t => exact h t (mem_tmps hx)
  | const v => rfl
  | func f => rfl
  | global g => rfl
theorem opds_agr {σ' : St} {D : List TypeId} {xs : List Operand} (h : Agrs σ σ' xs) : ∀ {Ts : List TypeId} {ys : List Operand}, (∀ y ∈ ys, y ∈ xs) → opds P D σ' Ts ys = opds P D σ Ts ys
  | [], _, _ => by simp [opds]
  | _ :: _, [], _ => by simp [opds]
  | T :: Ts, y :: ys, hy => by simp only [opds]; rw [opd_agr h (hy y (by simp)), opds_agr h fun z hz => hy z (by simp [hz])]
theorem opds_ev {D : List TypeId} : ∀ {Ts : List TypeId} {xs : List Operand}, xs.length = Ts.length → EvXs P σ xs (opds P D σ Ts xs)
  | [], [], _ => .nil
  | T :: Ts, x :: xs, h => .cons opd_ev (opds_ev (by simpa using h))
  | [], _ :: _, h => by simp at h
  | _ :: _, [], h => by simp at h

theorem bval_some {b : Bool} (h : bval P v = some b) : ∃ T d, v = .dat T d ∧ P.underlying T = some .bool ∧ b = d.toBool := by
  unfold bval at h
  split at h
  · split at h
    · rename_i hu; cases h; exact ⟨_, _, rfl, hu, rfl⟩
    · cases h
  · cases h
theorem ival_some {Tx : TypeId} {q : IntKind} {i : Int} (h : ival P v = some (Tx, q, i)) : ∃ d, v = .dat Tx d ∧ P.underlying Tx = some (.int q) ∧ i = d.toInt := by
  unfold ival at h
  split at h
  · split at h
    · rename_i hu; cases h; exact ⟨_, rfl, hu, rfl⟩
    · cases h
  · cases h
theorem sval_some {Tx : TypeId} {s : ByteArray} (h : sval P v = some (Tx, s)) : ∃ d, v = .dat Tx d ∧ P.underlying Tx = some .string ∧ s = d.toStr := by
  unfold sval at h
  split at h
  · split at h
    · rename_i hu; cases h; exact ⟨_, rfl, hu, rfl⟩
    · cases h
  · cases h
theorem lval_some {hs : List Ob} {Tx Te : TypeId} {es : List Dt} (h : lval P hs v = some (Tx, Te, es)) : ∃ d, pk P hs v = some (Tx, d) ∧ P.underlying Tx = some (.slice Te) ∧ es = d.toLst := by
  unfold lval at h
  split at h
  · rename_i T' d hp
    split at h
    · rename_i hu; cases h; exact ⟨_, hp, hu, rfl⟩
    · cases h
  · cases h
theorem slE_some {Te : TypeId} (h : slE P T = some Te) : P.underlying T = some (.slice Te) := by
  unfold slE at h
  split at h
  · rename_i hu; cases h; exact hu
  · cases h
theorem stF_some {fs : Array Field} (h : stF P T = some fs) : P.underlying T = some (.struct fs) := by
  unfold stF at h
  split at h
  · rename_i hu; cases h; exact hu
  · cases h
theorem isB_some (h : isB P T = true) : P.underlying T = some .bool := by
  unfold isB at h
  split at h
  · assumption
  · cases h
theorem isI_some {k : IntKind} (h : isI P T k = true) : P.underlying T = some (.int k) := by
  unfold isI at h
  split at h
  · rename_i k' hu; have e : k' = k := by simpa using h
    subst e; exact hu
  · cases h
theorem isS_some (h : isS P T = true) : P.underlying T = some .string := by
  unfold isS at h
  split at h
  · assumption
  · cases h
theorem bT_some : ∀ {Ts : List TypeId} {TB : TypeId}, bT P Ts = some TB → P.underlying TB = some .bool
  | [], _, h => by simp [bT] at h
  | T :: r, TB, h => by
    unfold bT at h
    cases hb : isB P T with
    | true => rw [hb] at h; cases h; exact isB_some hb
    | false => rw [hb] at h; exact bT_some h
theorem elemOK_some {Te : TypeId} (h : elemOK P T Te = true) : P.underlying T = some (.slice Te) ∧ P.cellsOf Te ≠ 0 := by
  unfold elemOK at h
  refine ⟨?_, nbeq (and_r h)⟩
  have h1 := and_l h
  split at h1
  · rename_i Te' he
    have := beq_eq h1
    subst this
    exact slE_some he
  · cases h1

theorem szB_some (h : szB P T v = true) : v ≠ .dead ∧ (∀ us, v ≠ .tup us) ∧ (∃ D, P.underlying T = some D) ∧ (v.isAgg P = false → P.cellsOf T = 1) ∧
    ∀ (ok : Nat → Prop) (w : World) (β : Nat → Option Value) (cs : List Value), RA P ok w β v cs → (v.isAgg P = false → cs.length = 1) → cs.length = P.cellsOf T := by
  have h0 := and_l h
  have h1 := and_r h
  have hu : ∃ D, P.underlying T = some D := Option.isSome_iff_exists.1 h0
  unfold szA at h1
  split at h1
  · rename_i T' d
    split at h1
    · rename_i fs hfs
      have e := beq_eq h1
      refine ⟨by simp, by simp, hu, fun hi => by simp [AV.isAgg, aggT, hfs] at hi, fun ok w β cs hr _ => ?_⟩
      cases hr with
      | dat hr => rw [← e]; exact (hr.agg_inv hfs).2.1
    · rename_i m1 m2 hfs
      have e := beq_eq h1
      refine ⟨by simp, by simp, hu, fun hi => by simp [AV.isAgg, aggT, hfs] at hi, fun ok w β cs hr _ => ?_⟩
      cases hr with
      | dat hr => rw [← e]; exact (hr.arr_inv hfs).2.2.1
    · exact ⟨by simp, by simp, hu, fun _ => beq_eq h1, fun ok w β cs hr hl => by
        rw [beq_eq h1]
        rename_i D hn1 hn2 hD
        refine hl ?_
        simp only [AV.isAgg, aggT, hD]
        cases D <;> simp_all⟩
    · cases h1
  · rename_i T' vs
    split at h1
    · rename_i fs hfs
      have e := beq_eq h1
      refine ⟨by simp, by simp, hu, fun hi => by simp [AV.isAgg, aggT, hfs] at hi, fun ok w β cs hr _ => ?_⟩
      cases hr with
      | agg _ _ hc _ _ => rw [← e]; exact hc
    · cases h1
  · cases h1
  · cases h1
  · rename_i h3 h4 h5 h6
    have hag : v.isAgg P = false := by
      cases v <;> first | rfl | (exact absurd rfl (h3 _ _)) | (exact absurd rfl (h4 _ _))
    exact ⟨fun e => h5 e, fun us e => h6 us e, hu, fun _ => beq_eq h1, fun ok w β cs hr hl => by rw [beq_eq h1]; exact hl hag⟩

theorem getAt_sound : ∀ {path : List Nat} {S : TypeId} {c : AV} {T : TypeId} {q : Nat} {v : AV}, getAt P S c path = some (T, q, v) → GetAt P S c path q T v
  | [], S, c, T, q, v, h => by
    have h' : some (S, 0, c) = some (T, q, v) := by simpa [getAt] using h
    cases h'
    exact .nil
  | i :: p, S, c, T, q, v, h => by
    unfold getAt at h
    split at h
    · rename_i he; cases he
    · rename_i S0 S' vs i' p' he
      cases he
      split at h
      · rename_i fs hfs
        split at h
        · rename_i f hf
          split at h
          · rename_i u hu
            obtain ⟨h1, h2⟩ := bif_some h
            split at h2
            · rename_i T' q' r hg
              cases h2
              have e := beq_eq (and_l h1)
              subst e
              exact .agg (stF_some hfs) hf hu (Nat.le_of_ble_eq_true (and_r h1)) (getAt_sound hg)
            · cases h2
          · cases h
        · cases h
      · cases h
    · rename_i S0 S' d i' p' he
      cases he
      split at h
      · rename_i fs hfs
        split at h
        · rename_i f hf
          obtain ⟨h1, h2⟩ := bif_some h
          split at h2
          · rename_i T' q' r hg
            cases h2
            have e := beq_eq (and_l h1)
            subst e
            exact .dat (stF_some hfs) hf (Nat.le_of_ble_eq_true (and_r h1)) (getAt_sound hg)
          · cases h2
        · cases h
      · cases h
    · cases h
theorem setAt_sound {T' : TypeId} : ∀ {path : List Nat} {S : TypeId} {c : AV} {q : Nat} {c' : AV}, setAt P T' v S c path = some (q, c') → SetAt P v T' S c path q c'
  | [], S, c, q, c', h => by
    have h' : (bif Nat.beq S T' then some (0, v) else none) = some (q, c') := by simpa [setAt] using h
    obtain ⟨h1, h2⟩ := bif_some h'
    cases h2
    have := beq_eq h1
    subst this
    exact .nil
  | i :: p, S, c, q, c', h => by
    unfold setAt at h
    split at h
    · rename_i fs hfs
      split at h
      · rename_i f hf
        split at h
        · rename_i vs hvs
          split at h
          · rename_i old hold
            obtain ⟨h1, h2⟩ := bif_some h
            split at h2
            · rename_i q' new hg
              cases h2
              have key := SetAt.agg (v := v) (T' := T') (stF_some hfs) h1 hf hold (setAt_sound hg)
              split at hvs
              · obtain ⟨e1, e2⟩ := bif_some hvs
                cases e2
                have := beq_eq e1
                subst this
                exact key
              · obtain ⟨e1, e2⟩ := bif_some hvs
                cases e2
                have := beq_eq e1
                subst this
                exact .dat (stF_some hfs) key
              · cases hvs
            · cases h2
          · cases h
        · cases h
      · cases h
    · cases h
theorem zeroV_sound (h : zeroV P T = some v) : ZeroA P T v := by
  unfold zeroV at h
  split at h
  · rename_i i hi
    split at h
    · rename_i z hz
      obtain ⟨h1, h2⟩ := bif_some h
      exact ⟨i, z, hi, hz, beq_eq h1, (avC_sound h2).1⟩
    · cases h
  · cases h
theorem zeroD_sound {d : Dt} (h : zeroD P T = some d) : Zero P T d := by
  unfold zeroD at h
  split at h
  · rename_i v hv
    split at h
    · rename_i T' d' hp
      obtain ⟨h1, h2⟩ := bif_some h
      cases h2
      have := beq_eq h1
      subst this
      obtain ⟨i, z, q1, q2, q3, q4⟩ := (zeroV_sound hv).ex
      exact ⟨i, z, q1, q2, q3, fun ok w => pk_sound (β := fun _ => none) (hs := []) (fun l T es hl => by simp [lk] at hl) (q4 ok w _) hp⟩
    · cases h
  · cases h
theorem bldL_sound {fs : Array Field} : ∀ {parts : List (Nat × Operand)} {vs us : List AV}, bldL P E σ fs parts vs = some us → BldL P σ fs parts vs us
  | [], vs, us, h => by
    have h' : some vs = some us := by simpa [bldL] using h
    cases h'; exact .nil
  | (i, x) :: r, vs, us, h => by
    unfold bldL at h
    split at h
    · rename_i f hf
      obtain ⟨h1, h2⟩ := bif_some h
      obtain ⟨q1, q2, q3, q4, q5⟩ := szB_some h1
      exact .cons hf opd_ev q1 q2 q5 (bldL_sound h2)
    · cases h
theorem bldL_agr {σ' : St} {fs : Array Field} {xs : List Operand} (h : Agrs σ σ' xs) : ∀ {parts : List (Nat × Operand)} {vs : List AV}, (∀ p ∈ parts, p.2 ∈ xs) → bldL P E σ' fs parts vs = bldL P E σ fs parts vs
  | [], vs, _ => by simp [bldL]
  | (i, x) :: r, vs, hp => by
    have hx := hp (i, x) (by simp)
    unfold bldL
    split
    · rename_i f hf
      rw [opd_agr h hx, bldL_agr h fun p hq => hp p (by simp [hq])]
    · rfl
theorem bndE_lo {lo : Option Operand} {i : Int} (h : bndE P E σ 0 lo = some i) : EvLo P σ lo i := by
  cases lo with
  | none => simp only [bndE, Option.some.injEq] at h; exact h.symm
  | some x =>
    simp only [bndE] at h
    split at h
    · rename_i Tx q i' hi
      cases h
      obtain ⟨d, e1, e2, rfl⟩ := ival_some hi
      refine ⟨Tx, q, e2, ?_⟩
      have := opd_ev (P := P) (σ := σ) (x := x) (T := 0) (D := E.dt)
      rw [e1] at this
      exact this.cint e2
    · cases h
theorem bndE_hi {hi : Option Operand} {m : Nat} {i : Int} (h : bndE P E σ m hi = some i) : EvHi P σ m hi i := by
  cases hi with
  | none => simp only [bndE, Option.some.injEq] at h; exact h.symm
  | some x =>
    simp only [bndE] at h
    split at h
    · rename_i Tx q i' hi
      cases h
      obtain ⟨d, e1, e2, rfl⟩ := ival_some hi
      refine ⟨Tx, q, e2, ?_⟩
      have := opd_ev (P := P) (σ := σ) (x := x) (T := 0) (D := E.dt)
      rw [e1] at this
      exact this.cint e2
    · cases h
theorem bndE_agr {σ' : St} {xs : List Operand} {m : Int} {b : Option Operand} (h : Agrs σ σ' xs) (hb : ∀ x, b = some x → x ∈ xs) : bndE P E σ' m b = bndE P E σ m b := by
  cases b with
  | none => rfl
  | some x => simp only [bndE]; rw [opd_agr h (hb x rfl)]

/-- Packing looks at the rows alone. -/
theorem pk_agr {hs hs' : List Ob} (v : AV) : (∀ l ∈ v.rws, lk hs' l = lk hs l) → pk P hs' v = pk P hs v := by
  refine AV.rec (motive_1 := fun v => (∀ l ∈ v.rws, lk hs' l = lk hs l) → pk P hs' v = pk P hs v) (motive_2 := fun vs => (∀ l ∈ AV.rwsL vs, lk hs' l = lk hs l) → ∀ fs, pkL P hs' fs vs = pkL P hs fs vs) ?_ ?_ ?_ ?_ ?_ ?_ ?_ ?_ ?_ ?_ ?_ ?_ ?_ ?_ ?_ v
  · intro T d _; rfl
  · intro T vs ih h
    simp only [pk]
    split
    · rename_i fs _
      rw [ih (by simpa [AV.rws] using h) fs.toList]
    · rfl
  · intro l h; simp only [pk]; rw [h l (by simp [AV.rws])]
  · intro l p o _; rfl
  · intro l i z p o _; rfl
  · intro T d _; rfl
  · intro f c _ _; rfl
  · intro vs _ _; rfl
  · intro T _; rfl
  · intro b _; rfl
  · intro T v _ _; rfl
  · intro T m _; rfl
  · intro _; rfl
  · intro _ fs; cases fs <;> rfl
  · intro v vs h1 h2 h fs
    cases fs with
    | nil => rfl
    | cons f fs =>
      simp only [pkL]
      rw [h1 fun l hl => h l (by simp [AV.rwsL, hl]), h2 (fun l hl => h l (by simp [AV.rwsL, hl])) fs]
theorem rwsL_mem {l : Nat} {v : AV} : ∀ {vs : List AV}, v ∈ vs → l ∈ v.rws → l ∈ AV.rwsL vs
  | [], h, _ => by simp at h
  | u :: r, h, hl => by
    rcases List.mem_cons.1 h with e | h
    · subst e; simp [AV.rwsL, hl]
    · simp [AV.rwsL, rwsL_mem h hl]
theorem pk_nil {hs : List Ob} {T : TypeId} {d : Dt} (v : AV) (h : pk P [] v = some (T, d)) : pk P hs v = some (T, d) := by
  have key : ∀ v : AV, ∀ T d, pk P [] v = some (T, d) → pk P hs v = some (T, d) := by
    intro v
    refine AV.rec (motive_1 := fun v => ∀ T d, pk P [] v = some (T, d) → pk P hs v = some (T, d)) (motive_2 := fun vs => ∀ fs ds, pkL P [] fs vs = some ds → pkL P hs fs vs = some ds) ?_ ?_ ?_ ?_ ?_ ?_ ?_ ?_ ?_ ?_ ?_ ?_ ?_ ?_ ?_ v
    · intro T d T' d' h; exact h
    · intro T vs ih T' d' h
      simp only [pk] at h ⊢
      split at h
      · rename_i fs hfs
        split at h
        · rename_i ds hds
          rw [ih _ _ hds]; exact h
        · cases h
      · cases h
    · intro l T d h; simp [pk, lk] at h
    · intro l p o T d h; simp [pk] at h
    · intro l i z p o T d h; simp [pk] at h
    · intro T d T' d' h; simp [pk] at h
    · intro f c _ T' d' h; simp [pk] at h
    · intro vs _ T' d' h; simp [pk] at h
    · intro T T' d' h; exact h
    · intro b T' d' h; simp [pk] at h
    · intro T v _ T' d' h; simp [pk] at h
    · intro T m T' d' h; simp [pk] at h
    · intro T' d' h; simp [pk] at h
    · intro fs ds h
      cases fs with
      | nil => exact h
      | cons f fs => simp [pkL] at h
    · intro v vs h1 h2 fs ds h
      cases fs with
      | nil => simp [pkL] at h
      | cons f fs =>
        unfold pkL at h ⊢
        split at h
        · rename_i T d hv
          rw [h1 _ _ hv]
          simp only
          cases hc : compat P T f.type with
          | false => rw [hc] at h; cases h
          | true =>
            rw [hc] at h
            simp only [cond_true] at h ⊢
            split at h
            · rename_i us hus
              rw [h2 _ _ hus]; exact h
            · cases h
        · cases h
  exact key v T d h

theorem tokOf_some {hs : List Ob} {T2 k : Nat} {r : List Nat} {ls : List Dt} (h : tokOf hs T2 k r = some ls) : k ∈ r ∧ lk hs k = .tok T2 ls := by
  unfold tokOf at h
  split at h
  · cases h
  · rename_i k' r'
    split at h
    · rename_i T4 ls' hl
      have hh_ := bif_some h
      clear h
      obtain ⟨hc, h⟩ := hh_
      have e1 := beq_eq (and_l hc)
      have e2 := beq_eq (and_r hc)
      subst e1 e2
      cases h
      exact ⟨by simp, hl⟩
    · cases h
theorem tokOf_agr {T2 k : Nat} {r : List Nat} {hs hs' : List Ob} (h : ∀ l ∈ r, lk hs' l = lk hs l) : tokOf hs' T2 k r = tokOf hs T2 k r := by
  cases r with
  | nil => rfl
  | cons a r => simp only [tokOf, h a (by simp)]
theorem set_agr {ls : List Nat} {hs hs' : List Ob} {j : Nat} {ob : Ob} (h : ∀ l ∈ ls, lk hs' l = lk hs l) : ∀ l ∈ ls, lk (setO hs' j ob) l = lk (setO hs j ob) l := fun l hl => by
  rw [lk_set, lk_set]
  split
  · rfl
  · exact h l hl
theorem frzW_agr : ∀ {ls : List Nat} {hs hs' : List Ob}, (∀ l ∈ ls, lk hs' l = lk hs l) → frzW hs' ls = frzW hs ls
  | [], hs, hs', _ => rfl
  | l :: r, hs, hs', h => by
    have hr : ∀ k ∈ r, lk hs' k = lk hs k := fun k hk => h k (by simp [hk])
    unfold frzW
    rw [h l (by simp)]
    split
    · rename_i T es hl
      congr 1
      exact frzW_agr (set_agr hr)
    · rename_i T T2 c k es hl
      rw [tokOf_agr hr]
      split
      · rename_i ls hls
        congr 1
        congr 1
        congr 1
        exact frzW_agr (set_agr (set_agr (set_agr hr)))
      · exact frzW_agr hr
    · exact frzW_agr hr
theorem wrO_agr {ls : List Nat} : ∀ {ws : List (Nat × Ob)} {hs hs' : List Ob}, (∀ l ∈ ls, lk hs' l = lk hs l) → ∀ l ∈ ls, lk (wrO hs' ws) l = lk (wrO hs ws) l
  | [], hs, hs', h, l, hl => h l hl
  | (k, ob) :: r, hs, hs', h, l, hl => by
    refine wrO_agr (ls := ls) (ws := r) (hs := setO hs k ob) (hs' := setO hs' k ob) (fun l hl => ?_) l hl
    rw [lk_set, lk_set]
    split
    · rfl
    · exact h l hl
theorem wrO_app : ∀ (a b : List (Nat × Ob)) (hs : List Ob), wrO hs (a ++ b) = wrO (wrO hs a) b
  | [], b, hs => rfl
  | (l, ob) :: r, b, hs => wrO_app r b _
theorem Imp.freezeD {l k : Nat} {T T2 : TypeId} {c : Option Nat} {es ls : List Dt} (hl : lk σ.hs l = .rowD T T2 c k es none) (hk : lk σ.hs k = .tok T2 ls) : Imp P n σ ⟨σ.ts, setO (setO σ.hs l (.row T (frzD c es ls))) k .gone, σ.k0⟩ := by
  rintro ok0 w0 a w ⟨β, r⟩
  exact ⟨β, r.freezeD hl hk⟩
theorem Imp.frzW : ∀ (ls : List Nat) {σ : St}, Imp P n σ ⟨σ.ts, wrO σ.hs (frzW σ.hs ls), σ.k0⟩
  | [], σ => Imp.refl
  | l :: r, σ => by
    unfold Am.frzW
    split
    · rename_i T es hl
      have h1 : Imp P n σ ⟨σ.ts, setO σ.hs l (.frz T es), σ.k0⟩ := by
        have h1 := Imp.frz1 (P := P) (n := n) (σ := σ) l
        unfold Am.frz1 at h1
        rw [hl] at h1
        exact h1
      exact h1.trans (Imp.frzW r (σ := ⟨σ.ts, setO σ.hs l (.frz T es), σ.k0⟩))
    · rename_i T T2 c k es hl
      split
      · rename_i ls hls
        obtain ⟨_, hk⟩ := tokOf_some hls
        have hlk : l ≠ k := fun e => by rw [e, hk] at hl; cases hl
        have h1 := Imp.freezeD (P := P) (n := n) hl hk
        have h2 : Imp P n ⟨σ.ts, setO (setO σ.hs l (.row T (frzD c es ls))) k .gone, σ.k0⟩ ⟨σ.ts, setO (setO (setO σ.hs l (.row T (frzD c es ls))) k .gone) l (.frz T (frzD c es ls)), σ.k0⟩ := by
          have h1 := Imp.frz1 (P := P) (n := n) (σ := ⟨σ.ts, setO (setO σ.hs l (.row T (frzD c es ls))) k .gone, σ.k0⟩) l
          unfold Am.frz1 at h1
          have e : lk (setO (setO σ.hs l (.row T (frzD c es ls))) k .gone) l = .row T (frzD c es ls) := by rw [lk_other _ _ _ _ hlk, lk_same]
          simp only [e] at h1
          exact h1
        exact (h1.trans h2).trans (Imp.frzW r (σ := ⟨σ.ts, setO (setO (setO σ.hs l (.row T (frzD c es ls))) k .gone) l (.frz T (frzD c es ls)), σ.k0⟩))
      · exact Imp.frzW r
    · exact Imp.frzW r
theorem set_free {hs : List Ob} {l k : Nat} {ob : Ob} (h : lk hs l = .free) (hk : lk hs k ≠ .free) : lk (setO hs k ob) l = .free := by
  rw [lk_other _ _ _ _ fun e => hk (by rw [← e]; exact h)]
  exact h
theorem frzW_free : ∀ {ls : List Nat} {hs : List Ob} {l : Nat}, lk hs l = .free → lk (wrO hs (Am.frzW hs ls)) l = .free
  | [], hs, l, h => h
  | k :: r, hs, l, h => by
    unfold Am.frzW
    split
    · rename_i T es hl
      exact frzW_free (set_free h (by rw [hl]; nofun))
    · rename_i T T2 c kk es hl
      split
      · rename_i ls hls
        obtain ⟨_, hk⟩ := tokOf_some hls
        refine frzW_free ?_
        have e1 : l ≠ k := fun e => by rw [e, hl] at h; cases h
        have e2 : l ≠ kk := fun e => by rw [e, hk] at h; cases h
        rw [lk_other _ _ _ _ e1, lk_other _ _ _ _ e2, lk_other _ _ _ _ e1]
        exact h
      · exact frzW_free h
    · exact frzW_free h
theorem frzW_other : ∀ {ls : List Nat} {hs : List Ob} {l : Nat}, l ∉ ls → lk (wrO hs (Am.frzW hs ls)) l = lk hs l
  | [], hs, l, h => rfl
  | k :: r, hs, l, h => by
    simp only [List.mem_cons, not_or] at h
    unfold Am.frzW
    split
    · rename_i T es hl
      simp only [wrO]
      rw [frzW_other h.2, lk_other _ _ _ _ h.1]
    · rename_i T T2 c kk es hl
      split
      · rename_i ls hls
        obtain ⟨hm, hk⟩ := tokOf_some hls
        have e2 : l ≠ kk := fun e => h.2 (by rw [e]; exact hm)
        simp only [wrO]
        rw [frzW_other h.2, lk_other _ _ _ _ h.1, lk_other _ _ _ _ e2, lk_other _ _ _ _ h.1]
      · exact frzW_other h.2
    · exact frzW_other h.2
theorem app_k0 (σ : St) (d : Option Nat) (δ : Dl) : (σ.app d δ).k0 = σ.k0 := rfl
end
end Go.Am
