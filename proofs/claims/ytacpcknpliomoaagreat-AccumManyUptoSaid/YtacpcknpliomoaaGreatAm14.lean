/- The abstract machine, part 14: each operation of the machine is so in the model, continued. -/
import Derived.Test.YtacpcknpliomoaaGreatAm13
set_option linter.unusedVariables false
set_option linter.unusedSimpArgs false
namespace Go.Am
open Go.RowKit
section
variable {P : Program} {n : Nat} {o : Oper} {σ τ : St} {x y : Operand} {v : AV} {T : TypeId} {R : Type} {E : Env} {k : Dl → Option R} {r : R}

theorem op_nilCheck_at {d : Nat} (ho : o.op = .nilCheck x) (hd : o.dst = some d) (hn : d < n) (hx : Ev P σ x v)
    (hv : ∀ (ok : Nat → Prop) (w : World) (β : Nat → Option Value) (z : Value), RV P ok w β v z → (∃ ad, z = .pointer (some ad)) ∨ ∃ f a b, z = .func (.func f) a b) : OpOK P n o σ (σ.put d v) :=
  opOK_val hd hn fun ok0 w0 a w β r => by
    have h := hx _ _ _ _ _ _ r
    rcases hv _ _ _ _ h with ⟨ad, e⟩ | ⟨f, a1, b1, e⟩
    · exact ⟨_, by simp [execOp, ho, e], e ▸ h⟩
    · exact ⟨_, by simp [execOp, ho, e], e ▸ h⟩
theorem op_nilCheck_mth {d f : Nat} {T : TypeId} {name : String} (ho : o.op = .nilCheck x) (hd : o.dst = some d) (hn : d < n) (hx : Ev P σ x (.mth T name)) (hm : mthOf P T name = some f) : OpOK P n o σ (σ.put d (.mth T name)) :=
  opOK_val hd hn fun ok0 w0 a w β r => by
    have h := hx _ _ _ _ _ _ r
    have h2 := h.2 rfl
    generalize hz : a.eval x = z at h h2
    cases h2 with
    | @mth _ _ z cv =>
      refine ⟨_, ?_, h⟩
      have hk : ∀ j : Nat, (nilAhead (j + Made.depth) T z name).run P w = .ok (some false) w := fun j => run_nilAhead hm (j + 99) z w
      have hp : (program).run P w = .ok P w := rfl
      unfold execOp
      simp only [ho, hz, List.getElem?_toArray, List.getElem?_cons_zero, Sem.run_bind, hp, Result.andThen_ok, hk]
      rfl
theorem s_nilCheck (ho : o.op = .nilCheck x) (h : evNilCheck P E n o σ x k = some r) : OpS P n o σ k r := by
  have hx : x ∈ o.op.operands.toList := by rw [ho]; simp [Op.operands]
  unfold evNilCheck at h
  split at h
  · rename_i T d0 e1
    exact val_s h fun σ' ha d hd hn => op_nilCheck_at ho hd hn (ev_is ha hx e1) fun ok w β z hz => by
      have := hz.2 rfl
      cases this with
      | rptr => exact .inl ⟨_, rfl⟩
  · rename_i l p q e1
    exact val_s h fun σ' ha d hd hn => op_nilCheck_at ho hd hn (ev_is ha hx e1) fun ok w β z hz => by
      have := hz.2 rfl
      cases this with
      | ptr => exact .inl ⟨_, rfl⟩
  · rename_i l i z p q e1
    exact val_s h fun σ' ha d hd hn => op_nilCheck_at ho hd hn (ev_is ha hx e1) fun ok w β z hz => by
      have := hz.2 rfl
      cases this with
      | eptr => exact .inl ⟨_, rfl⟩
      | eptrB => exact .inl ⟨_, rfl⟩
  · rename_i f c e1
    exact val_s h fun σ' ha d hd hn => op_nilCheck_at ho hd hn (ev_is ha hx e1) fun ok w β z hz => by
      have := hz.2 rfl
      cases this with
      | fn => exact .inr ⟨_, _, _, rfl⟩
  · rename_i T name e1
    split at h
    · rename_i f hm
      exact val_s h fun σ' ha d hd hn => op_nilCheck_mth ho hd hn (ev_is ha hx e1) hm
    · cases h
  · rename_i T d0 e1
    split at h
    · rename_i T2 hT2
      have hh_ := Option.bind_eq_some_iff.1 h
      clear h
      obtain ⟨e0, he0, h⟩ := hh_
      exact val_s h fun σ' ha d hd hn => op_nilCheck_at ho hd hn ((ev_is ha hx e1).pd (ppE_some hT2) he0) fun ok w β z hz => by
        have := hz.2 rfl
        cases this with
        | rptr => exact .inl ⟨_, rfl⟩
    · cases h
  · cases h
theorem s_int {op : BinOp} {T T' Tx Ty : TypeId} {q : IntKind} {a b : Int} (ho : o.op = .binOp op T x y T') (hux : P.underlying Tx = some (.int q)) (huy : P.underlying Ty = some (.int q))
    (hx : ∀ σ', Agr o σ σ' [] → Ev P σ' x (.dat Tx (.int a))) (hy : ∀ σ', Agr o σ σ' [] → Ev P σ' y (.dat Ty (.int b))) (h : evInt P E n o op Tx q a b k = some r) : OpS P n o σ k r := by
  unfold evInt at h
  simp only at h
  cases op with
  | add => exact val_s h fun σ' ha d hd hn => op_add ho hd hn hux huy (hx σ' ha) (hy σ' ha)
  | sub => exact val_s h fun σ' ha d hd hn => op_sub ho hd hn hux huy (hx σ' ha) (hy σ' ha)
  | mul => exact val_s h fun σ' ha d hd hn => op_mul ho hd hn hux huy (hx σ' ha) (hy σ' ha)
  | quo =>
    simp only at h
    by_cases hb : b = 0
    · simp [hb] at h
    · simp only [hb, decide_false, cond_false] at h
      exact val_s h fun σ' ha d hd hn => op_quo ho hd hn hux huy (hx σ' ha) (hy σ' ha) hb
  | rem =>
    simp only at h
    by_cases hb : b = 0
    · simp [hb] at h
    · simp only [hb, decide_false, cond_false] at h
      exact val_s h fun σ' ha d hd hn => op_rem ho hd hn hux huy (hx σ' ha) (hy σ' ha) hb
  | and => exact val_s h fun σ' ha d hd hn => op_and ho hd hn hux huy (hx σ' ha) (hy σ' ha)
  | or => exact val_s h fun σ' ha d hd hn => op_or ho hd hn hux huy (hx σ' ha) (hy σ' ha)
  | xor => exact val_s h fun σ' ha d hd hn => op_xor ho hd hn hux huy (hx σ' ha) (hy σ' ha)
  | andNot => exact val_s h fun σ' ha d hd hn => op_bic ho hd hn hux huy (hx σ' ha) (hy σ' ha)
  | lss =>
    simp only at h
    split at h
    · rename_i TB hTB; exact val_s h fun σ' ha d hd hn => op_lss ho hd hn (bT_some hTB) hux huy (hx σ' ha) (hy σ' ha)
    · cases h
  | leq =>
    simp only at h
    split at h
    · rename_i TB hTB; exact val_s h fun σ' ha d hd hn => op_leq ho hd hn (bT_some hTB) hux huy (hx σ' ha) (hy σ' ha)
    · cases h
  | gtr =>
    simp only at h
    split at h
    · rename_i TB hTB; exact val_s h fun σ' ha d hd hn => op_gtr ho hd hn (bT_some hTB) hux huy (hx σ' ha) (hy σ' ha)
    · cases h
  | geq =>
    simp only at h
    split at h
    · rename_i TB hTB; exact val_s h fun σ' ha d hd hn => op_geq ho hd hn (bT_some hTB) hux huy (hx σ' ha) (hy σ' ha)
    · cases h
  | eql =>
    simp only at h
    split at h
    · rename_i TB hTB; exact val_s h fun σ' ha d hd hn => op_eql ho hd hn (bT_some hTB) hux huy (hx σ' ha) (hy σ' ha)
    · cases h
  | neq =>
    simp only at h
    split at h
    · rename_i TB hTB; exact val_s h fun σ' ha d hd hn => op_neq ho hd hn (bT_some hTB) hux huy (hx σ' ha) (hy σ' ha)
    · cases h
  | _ => cases h
theorem s_str {op : BinOp} {T T' Tx Ty : TypeId} {a b : ByteArray} (ho : o.op = .binOp op T x y T') (hux : P.underlying Tx = some .string) (huy : P.underlying Ty = some .string)
    (hx : ∀ σ', Agr o σ σ' [] → Ev P σ' x (.dat Tx (.str a))) (hy : ∀ σ', Agr o σ σ' [] → Ev P σ' y (.dat Ty (.str b))) (h : evStr P E n o op Tx a b k = some r) : OpS P n o σ k r := by
  unfold evStr at h
  simp only at h
  cases op with
  | add =>
    simp only at h
    have hh_ := bif_some h
    clear h
    obtain ⟨hs, h⟩ := hh_
    exact val_s h fun σ' ha d hd hn => op_cat ho hd hn hux huy (hx σ' ha) (hy σ' ha) (by have := Nat.le_of_ble_eq_true hs; unfold maxLen; omega)
  | lss =>
    simp only at h
    split at h
    · rename_i TB hTB; exact val_s h fun σ' ha d hd hn => op_slt ho hd hn (bT_some hTB) hux huy (hx σ' ha) (hy σ' ha)
    · cases h
  | eql =>
    simp only at h
    split at h
    · rename_i TB hTB; exact val_s h fun σ' ha d hd hn => op_seq ho hd hn (bT_some hTB) hux huy (hx σ' ha) (hy σ' ha)
    · cases h
  | neq =>
    simp only at h
    split at h
    · rename_i TB hTB; exact val_s h fun σ' ha d hd hn => op_sne ho hd hn (bT_some hTB) hux huy (hx σ' ha) (hy σ' ha)
    · cases h
  | _ => cases h
theorem s_bool {op : BinOp} {T T' Tx Ty : TypeId} {a b : Bool} (ho : o.op = .binOp op T x y T') (hu : P.underlying T = some .bool) (hux : P.underlying Tx = some .bool) (huy : P.underlying Ty = some .bool)
    (hx : ∀ σ', Agr o σ σ' [] → Ev P σ' x (.dat Tx (.bool a))) (hy : ∀ σ', Agr o σ σ' [] → Ev P σ' y (.dat Ty (.bool b))) (h : evBool P E n o op a b k = some r) : OpS P n o σ k r := by
  unfold evBool at h
  simp only at h
  cases op with
  | eql =>
    simp only at h
    split at h
    · rename_i TB hTB; exact val_s h fun σ' ha d hd hn => op_beq ho hd hn (bT_some hTB) hu hux huy (hx σ' ha) (hy σ' ha)
    · cases h
  | neq =>
    simp only at h
    split at h
    · rename_i TB hTB; exact val_s h fun σ' ha d hd hn => op_bne ho hd hn (bT_some hTB) hu hux huy (hx σ' ha) (hy σ' ha)
    · cases h
  | _ => cases h
theorem s_nil {op : BinOp} {T T' : TypeId} (ho : o.op = .binOp op T x y T') (h : evNil P E n o op T (opd P E.dt σ T x) y k = some r) : OpS P n o σ k r := by
  have hx : x ∈ o.op.operands.toList := by rw [ho]; simp [Op.operands]
  unfold evNil at h
  split at h
  · split at h
    · rename_i ms hu
      split at h
      · rename_i e1
        split at h
        · rename_i TB hTB
          split at h
          · exact val_s h fun σ' ha d hd hn => op_nif_eq ho hd hn (bT_some hTB) hu (ev_is ha hx e1)
          · exact val_s h fun σ' ha d hd hn => op_nif_ne ho hd hn (bT_some hTB) hu (ev_is ha hx e1)
          · cases h
        · cases h
      · cases h
    · cases h
  · cases h
theorem s_pn {op : BinOp} {T T' : TypeId} (ho : o.op = .binOp op T x y T') (h : evPn P E n o σ op T x y k = some r) : OpS P n o σ k r := by
  have hx : x ∈ o.op.operands.toList := by rw [ho]; simp [Op.operands]
  unfold evPn at h
  split at h
  · split at h
    · rename_i T2 hT2
      split at h
      · rename_i T1 p e1
        have hh_ := bif_some h
        clear h
        obtain ⟨hc, h⟩ := hh_
        rw [beq_eq hc] at e1
        split at h
        · rename_i TB hTB
          split at h
          · exact val_s h fun σ' ha d hd hn => op_pnil ho hd hn (bT_some hTB) (ppE_some hT2) (ev_is ha hx e1) (.inl ⟨rfl, rfl⟩)
          · exact val_s h fun σ' ha d hd hn => op_pnil ho hd hn (bT_some hTB) (ppE_some hT2) (ev_is ha hx e1) (.inr ⟨rfl, rfl⟩)
          · cases h
        · cases h
      · cases h
    · cases h
  · cases h
theorem s_pt {op : BinOp} {T T' : TypeId} (ho : o.op = .binOp op T x y T') (h : evPt P E n o σ op T x y T' k = some r) : OpS P n o σ k r := by
  have hx : x ∈ o.op.operands.toList := by rw [ho]; simp [Op.operands]
  have hy : y ∈ o.op.operands.toList := by rw [ho]; simp [Op.operands]
  unfold evPt at h
  split at h
  · rename_i T2 q e2
    split at h
    · rename_i T1 p e1
      cases hc : (ptOK P T && (Nat.beq T1 T && Nat.beq T2 T)) with
      | false =>
        rw [hc] at h
        exact s_pn ho h
      | true =>
      rw [hc] at h
      simp only [cond_true] at h
      have u1 := beq_eq (and_l (and_r hc))
      have u2 := beq_eq (and_r (and_r hc))
      rw [u1] at e1
      rw [u2] at e2
      split at h
      · rename_i TB hTB
        split at h
        · exact val_s h fun σ' ha d hd hn => op_pt ho hd hn (bT_some hTB) (and_l hc) (ev_is ha hx e1) (ev_is ha hy e2) (.inl ⟨rfl, rfl⟩)
        · exact val_s h fun σ' ha d hd hn => op_pt ho hd hn (bT_some hTB) (and_l hc) (ev_is ha hx e1) (ev_is ha hy e2) (.inr ⟨rfl, rfl⟩)
        · cases h
      · cases h
    · cases h
  · exact s_nil ho h
theorem s_bin {op : BinOp} {T T' : TypeId} (ho : o.op = .binOp op T x y T') (h : evBin P E n o σ op T x y T' k = some r) : OpS P n o σ k r := by
  have hx : x ∈ o.op.operands.toList := by rw [ho]; simp [Op.operands]
  have hy : y ∈ o.op.operands.toList := by rw [ho]; simp [Op.operands]
  unfold evBin at h
  split at h
  · rename_i Tx q a ha
    obtain ⟨d1, e1, u1, rfl⟩ := ival_some ha
    split at h
    · rename_i Ty q' b hb
      obtain ⟨d2, e2, u2, rfl⟩ := ival_some hb
      split at h
      · obtain ⟨hq, h⟩ := bif_some h
        exact val_s h fun σ' ag d hd hn => op_sh ho hd hn u1 u2 ((ev_is ag hx e1).cint u1) ((ev_is ag hy e2).cint u2) (of_decide_eq_true hq) (.inl ⟨rfl, rfl⟩)
      · obtain ⟨hq, h⟩ := bif_some h
        exact val_s h fun σ' ag d hd hn => op_sh ho hd hn u1 u2 ((ev_is ag hx e1).cint u1) ((ev_is ag hy e2).cint u2) (of_decide_eq_true hq) (.inr ⟨rfl, rfl⟩)
      · have hh_ := bif_some h
        clear h
        obtain ⟨hq, h⟩ := hh_
        have hq' : q = q' := by simpa using hq
        subst hq'
        exact s_int ho u1 u2 (fun σ' ag => (ev_is ag hx e1).cint u1) (fun σ' ag => (ev_is ag hy e2).cint u2) h
    · cases h
  · split at h
    · rename_i Tx a ha
      obtain ⟨d1, e1, u1, rfl⟩ := sval_some ha
      split at h
      · rename_i Ty b hb
        obtain ⟨d2, e2, u2, rfl⟩ := sval_some hb
        exact s_str ho u1 u2 (fun σ' ag => (ev_is ag hx e1).cstr u1) (fun σ' ag => (ev_is ag hy e2).cstr u2) h
      · cases h
    · split at h
      · rename_i a ha
        obtain ⟨Tx, d1, e1, u1, rfl⟩ := bval_some ha
        split at h
        · rename_i b hb
          obtain ⟨Ty, d2, e2, u2, rfl⟩ := bval_some hb
          have hh_ := bif_some h
          clear h
          obtain ⟨hq, h⟩ := hh_
          exact s_bool ho (isB_some hq) u1 u2 (fun σ' ag => (ev_is ag hx e1).cbool u1) (fun σ' ag => (ev_is ag hy e2).cbool u2) h
        · cases h
      · exact s_pt ho h
theorem s_not {T0 : TypeId} (ho : o.op = .unOp .not T0 x) (h : evNot P E n o σ x k = some r) : OpS P n o σ k r := by
  have hx : x ∈ o.op.operands.toList := by rw [ho]; simp [Op.operands]
  unfold evNot at h
  split at h
  · rename_i b hb
    obtain ⟨Tx, d1, e1, u1, rfl⟩ := bval_some hb
    split at h
    · rename_i TB hTB
      refine val_s h fun σ' ha d hd hn => ?_
      have key := op_not ho hd hn u1 ((ev_is ha hx e1).cbool u1)
      exact key.weak fun ok w β z hz => by
        have := (RV.bool u1 hz).2
        rw [this]
        exact RV.mk_bool (bT_some hTB)
    · cases h
  · cases h
theorem s_neg (ho : o.op = .unOp .neg T x) (h : evNeg P E n o σ T x k = some r) : OpS P n o σ k r := by
  have hx : x ∈ o.op.operands.toList := by rw [ho]; simp [Op.operands]
  unfold evNeg at h
  split at h
  · rename_i Tx q a ha
    obtain ⟨d1, e1, u1, rfl⟩ := ival_some ha
    exact val_s h fun σ' ha d hd hn => op_neg ho hd hn u1 ((ev_is ha hx e1).cint u1)
  · cases h
theorem s_compl (ho : o.op = .unOp .xor T x) (h : evCompl P E n o σ T x k = some r) : OpS P n o σ k r := by
  have hx : x ∈ o.op.operands.toList := by rw [ho]; simp [Op.operands]
  unfold evCompl at h
  split at h
  · rename_i Tx q a ha
    obtain ⟨d1, e1, u1, rfl⟩ := ival_some ha
    exact val_s h fun σ' ha d hd hn => op_compl ho hd hn u1 ((ev_is ha hx e1).cint u1)
  · cases h
theorem s_convert {S1 S2 : TypeId} (ho : o.op = .convert S1 S2 x) (h : evConvert P E n o σ S1 S2 x k = some r) : OpS P n o σ k r := by
  have hx : x ∈ o.op.operands.toList := by rw [ho]; simp [Op.operands]
  unfold evConvert at h
  split at h
  · rename_i Tx q a ha
    obtain ⟨d1, e1, u1, rfl⟩ := ival_some ha
    split at h
    · rename_i q2 hu2
      have hh_ := bif_some h
      clear h
      obtain ⟨hq, h⟩ := hh_
      exact val_s h fun σ' ha d hd hn => op_conv_int ho hd hn (isI_some hq) hu2 u1 ((ev_is ha hx e1).cint u1)
    · cases h
  · split at h
    · rename_i Tx a ha
      obtain ⟨d1, e1, u1, rfl⟩ := sval_some ha
      have hh_ := bif_some h
      clear h
      obtain ⟨hq, h⟩ := hh_
      exact val_s h fun σ' ha d hd hn => op_conv_str ho hd hn (isS_some (and_l hq)) (isS_some (and_r hq)) u1 ((ev_is ha hx e1).cstr u1)
    · cases h
theorem s_make (ho : o.op = .makeSlice T x y) (h : evMake P E n o σ T x y k = some r) : OpS P n o σ k r := by
  unfold evMake at h
  split at h
  · rename_i Te hTe
    split at h
    · rename_i z hz
      split at h
      · rename_i a ha
        split at h
        · rename_i b hb
          have hh_ := bif_some h
          clear h
          obtain ⟨hc, h⟩ := hh_
          have hh_ := new_some h
          clear h
          obtain ⟨hk0, h⟩ := hh_
          obtain ⟨es, p1, p2, p3, p4, p5, h⟩ := mkK_some h
          subst p4
          refine wr1_s h fun σ' ag d hd hn => ?_
          have e1 : EvLo P σ' (some x) a := bndE_lo (E := E) (by rw [bndE_agr ag.ts (by intro z hz; cases hz; rw [ho]; simp [Op.operands])]; exact ha)
          have e2 : EvLo P σ' (some y) b := bndE_lo (E := E) (by rw [bndE_agr ag.ts (by intro z hz; cases hz; rw [ho]; simp [Op.operands])]; exact hb)
          obtain ⟨TI, k1, u1, v1⟩ := e1
          obtain ⟨TJ, k2, u2, v2⟩ := e2
          exact op_make ho hd hn (slE_some hTe) (by rw [ag.hs _ (by simp)]; exact free_end σ) (by rw [ag.k0]; exact hk0) (zeroD_sound hz) (nbeq hc) p5 u1 u2 v1 v2 p1 p2 p3
        · cases h
      · cases h
    · cases h
  · cases h
theorem ev_imp {σ' : St} {hs : List Ob} {k0 : Nat} {rd : List Nat} (ha : Agr o σ σ' rd) {D : List TypeId} (hx : x ∈ o.op.operands.toList) : Ev P (St.mk σ'.ts hs k0) x (opd P D σ T x) := by
  have e3 : opd P D (St.mk σ'.ts hs k0) T x = opd P D σ T x := by
    rw [← opd_agr ha.ts hx]
    cases x <;> rfl
  rw [← e3]
  exact opd_ev
theorem Agr.frz {σ' : St} {ls : List Nat} {rd : List Nat} (ha : Agr o σ σ' rd) (h : ∀ l ∈ ls, l ∈ rd) : frzW σ'.hs ls = frzW σ.hs ls := frzW_agr fun l hl => ha.hs l (h l hl)
theorem op_slice_dead {d l : Nat} {T3 Te : TypeId} {lo hi : Option Operand} {i j : Int} {es : List Dt} (ho : o.op = .slice T x lo hi none) (hd : o.dst = some d) (hn : d < n) (hu : P.underlying T = some (.slice Te)) (h0c : P.cellsOf Te ≠ 0)
    (hx : Ev P σ x (.row l)) (hl : lk σ.hs l = .row T3 es) (hlo : EvLo P σ lo i) (hhi : EvHi P σ es.length hi j) (h0 : 0 ≤ i) (hij : i ≤ j) (hj : j ≤ es.length) : OpOK P n o σ (σ.put d .dead) :=
  opOK_val hd hn fun ok0 w0 a w β r => by
    have e1 := row_eval (hx _ _ _ _ _ _ r)
    have hob := r.hs l
    rw [hl, e1] at hob
    obtain ⟨E', xs, _, hown, _⟩ := ob_row hob
    have hz : ∃ ao cap, a.eval x = .slice ao es.length cap ∧ es.length ≤ cap := by
      rcases hown.2 with ⟨h1, h2⟩ | ⟨g, cap, cur, h1, _, _, h3, h4, _⟩
      · exact ⟨none, 0, by rw [h1, h2], by rw [h2]; exact Nat.zero_le _⟩
      · exact ⟨_, cap, h1, by omega⟩
    obtain ⟨ao, cap, ex, hlc⟩ := hz
    have hb := run_bounds (cap := cap) r true hlo hhi h0 hij hj hlc
    cases hinf : P.info? Te with
    | none => simp [Program.cellsOf, hinf] at h0c
    | some inf =>
      have hs : inf.size = P.cellsOf Te := by simp [Program.cellsOf, hinf]
      exact ⟨.slice (if cap = i.toNat then ao else ao.map (·.add (i.toNat * P.cellsOf Te))) (j.toNat - i.toNat) (cap - i.toNat), by simp [execOp, ho, ex, Instr.sliceAt, Instr.slice, run_underlying hu, hb, sizeOf, typeInfo, hinf, hs], trivial⟩
theorem s_sliceD {lo hi : Option Operand} (ho : o.op = .slice T x lo hi none) (h : evSliceD P E n o σ T x lo hi k = some r) : OpS P n o σ k r := by
  have hx : x ∈ o.op.operands.toList := by rw [ho]; simp [Op.operands]
  have hlo : ∀ z, lo = some z → z ∈ o.op.operands.toList := by intro z hz; rw [ho, hz]; simp [Op.operands]
  have hhi : ∀ z, hi = some z → z ∈ o.op.operands.toList := by intro z hz; rw [ho, hz]; simp [Op.operands]
  unfold evSliceD at h
  split at h
  · rename_i l e1
    split at h
    · rename_i T3 es hl
      split at h
      · rename_i a ha
        split at h
        · rename_i b hb
          split at h
          · rename_i Te hTe
            have hh_ := bif_some h
            clear h
            obtain ⟨hc, h⟩ := hh_
            have hh_ := Option.bind_eq_some_iff.1 h
            clear h
            obtain ⟨rs, hrs, h⟩ := hh_
            obtain ⟨p1, p2, p3, p4⟩ := cutL_some hrs
            obtain ⟨d, hd, hn, hk⟩ := out_some h
            refine ⟨_, hk, fun σ' ag => ?_⟩
            have key := op_slice_dead (σ := σ') ho hd hn (slE_some hTe) (nbeq hc) (ev_is ag hx e1) (by rw [ag.hs l (by simp)]; exact hl) (bndE_lo (E := E) (by rw [bndE_agr ag.ts hlo]; exact ha)) (bndE_hi (E := E) (by rw [bndE_agr ag.ts hhi]; exact hb)) p1 p2 p3
            rw [hd]
            exact key
          · cases h
        · cases h
      · cases h
    · cases h
  · cases h
theorem op_cut {d l l' : Nat} {T3 Te : TypeId} {hi : Option Operand} {j : Int} {es : List Dt} (ho : o.op = .slice T x none hi none) (hd : o.dst = some d) (hn : d < n) (hu : P.underlying T = some (.slice Te)) (hu3 : P.underlying T3 = some (.slice Te)) (h0c : P.cellsOf Te ≠ 0)
    (hx : Ev P σ x (.row l)) (hl : lk σ.hs l = .row T3 es) (hf : lk σ.hs l' = .free) (hk0 : σ.k0 ≤ l') (hhi : EvHi P σ es.length hi j) (h0 : 0 ≤ j) (hj : j ≤ es.length) : OpOK P n o σ (((σ.lay l .gone).lay l' (.row T3 (es.take j.toNat))).put d (.row l')) := by
  rintro ok0 w0 a w ⟨β, r⟩ K Q hK
  have e1 := row_eval (hx _ _ _ _ _ _ r)
  have hob := r.hs l
  rw [hl, e1] at hob
  obtain ⟨E', xs, hu', hown, hone, hrd⟩ := ob_row hob
  obtain rfl : Te = E' := by rw [hu3] at hu'; cases hu'; rfl
  have hz : ∃ ao cap, a.eval x = .slice ao es.length cap ∧ es.length ≤ cap ∧ w.ownsRow 0 Te (P.cellsOf Te) (.slice ao j.toNat cap) j.toNat (xs.take (j.toNat * P.cellsOf Te)) := by
    have hlen := hown.1
    have hmul : j.toNat * P.cellsOf Te ≤ es.length * P.cellsOf Te := Nat.mul_le_mul_right _ (by omega)
    rcases hown.2 with ⟨h1, h2⟩ | ⟨g, cap, cur, h1, g2, hh, h3, h4, g5, g6⟩
    · exact ⟨none, 0, by rw [h1, h2], by rw [h2]; exact Nat.zero_le _, by rw [List.length_take]; omega, .inl ⟨by rw [show j.toNat = 0 by omega], by omega⟩⟩
    · refine ⟨_, cap, h1, h3, by rw [List.length_take]; omega, .inr ⟨g, cap, cur, rfl, g2, hh, by omega, h4, g5, ?_⟩⟩
      rw [← g6, List.take_take, Nat.min_eq_left hmul]
  obtain ⟨ao, cap, ex, hlc, hown'⟩ := hz
  have hb := run_bounds (cap := cap) r true (lo := none) (i := 0) rfl hhi (by omega) h0 hj hlc
  obtain ⟨inf, hinf⟩ : ∃ inf, P.info? Te = some inf := by
    cases hinf : P.info? Te with
    | none => simp [Program.cellsOf, hinf] at h0c
    | some inf => exact ⟨inf, rfl⟩
  have hs : inf.size = P.cellsOf Te := by simp [Program.cellsOf, hinf]
  have hrun : (execOp a.eval o).run P w = .ok (.value (.slice ao j.toNat cap)) w := by
    have hadd : (ao.map fun q => q.add 0) = ao := by cases ao <;> simp [Addr.add]
    simp only [Option.map_none, Int.toNat_zero] at hb
    simp [execOp, ho, ex, Instr.sliceAt, Instr.slice, run_underlying hu, hb, sizeOf, typeInfo, hinf, hs, hadd]
  unfold Oper.wp
  rw [hrun]
  refine hK _ _ ?_
  rw [hd]
  have hlown : ∀ b, Blk (a.eval x) b → owns σ.hs β l b := fun b hb => ⟨by rw [hl]; rfl, _, e1, hb⟩
  have hnew := r.take l l' (.row T3 (es.take j.toNat)) (.slice ao j.toNat cap) w (by rw [hl]; simp) hf hk0 rfl rfl rfl (Nat.le_refl _)
    (fun b hb hne => rfl)
    (fun b hb => .inr (hlown b (by
      rw [ex]
      rcases hb with hb | ⟨_, e, _⟩
      · exact .inl (by cases ao <;> exact hb)
      · cases e)))
    (fun hex hk => by
      refine ⟨Te, _, _, rfl, hu3, (by rw [List.length_take, Nat.min_eq_left (by omega)]; exact hown'), fun u hu2 => hone u (List.mem_of_mem_take hu2), fun i' d' hd' => ?_⟩
      rw [List.getElem?_take] at hd'
      split at hd'
      · rename_i hlt
        have hmul : (i' + 1) * P.cellsOf Te ≤ j.toNat * P.cellsOf Te := Nat.mul_le_mul_right _ hlt
        rw [Nat.add_mul, Nat.one_mul] at hmul
        have e : ((xs.take (j.toNat * P.cellsOf Te)).drop (i' * P.cellsOf Te)).take (P.cellsOf Te) = (xs.drop (i' * P.cellsOf Te)).take (P.cellsOf Te) := by
          apply List.ext_getElem?
          intro k
          rw [seg_get, seg_get]
          split
          · rw [List.getElem?_take, if_pos (by omega)]
          · rfl
        rw [e]
        exact (hrd i' d' hd').mono hk
      · cases hd')
  exact Rel.put hnew hn (row_rv (upB_same _ _ _) rfl)
theorem s_sliceC {lo hi : Option Operand} (ho : o.op = .slice T x lo hi none) (h : evSliceC P E n o σ T x lo hi k = some r) : OpS P n o σ k r := by
  have hx : x ∈ o.op.operands.toList := by rw [ho]; simp [Op.operands]
  have hhi : ∀ z, hi = some z → z ∈ o.op.operands.toList := by intro z hz; rw [ho, hz]; simp [Op.operands]
  unfold evSliceC at h
  split at h
  · rename_i l e1
    split at h
    · rename_i T5 es hl
      split at h
      · rename_i b hb
        split at h
        · rename_i Te hTe
          have hh_ := bif_some h
          clear h
          obtain ⟨hc, h⟩ := hh_
          have hh_ := new_some h
          clear h
          obtain ⟨hk0, h⟩ := hh_
          have hh_ := Option.bind_eq_some_iff.1 h
          clear h
          obtain ⟨rs, hrs, h⟩ := hh_
          obtain ⟨p1, p2, p3, p4⟩ := cutL_some hrs
          obtain ⟨u2, h0c⟩ := elemOK_some hc
          subst p4
          obtain ⟨d, hd, hn, hk⟩ := out_some h
          refine ⟨_, hk, fun σ' ag => ?_⟩
          have key := op_cut (σ := σ') (l' := σ.hs.length) ho hd hn (slE_some hTe) u2 h0c (ev_is ag hx e1) (by rw [ag.hs l (by simp)]; exact hl) (by rw [ag.hs _ (by simp)]; exact free_end σ) (by rw [ag.k0]; exact hk0) (bndE_hi (E := E) (by rw [bndE_agr ag.ts hhi]; exact hb)) p2 p3
          rw [hd]
          simp only [Int.toNat_zero, List.drop_zero, Nat.sub_zero]
          exact key
        · cases h
      · cases h
    · cases h
  · cases h
theorem s_slice {lo hi : Option Operand} (ho : o.op = .slice T x lo hi none) (h : evSlice P E n o σ T x lo hi k = some r) : OpS P n o σ k r := by
  have hx : x ∈ o.op.operands.toList := by rw [ho]; simp [Op.operands]
  have hlo : ∀ z, lo = some z → z ∈ o.op.operands.toList := by intro z hz; rw [ho, hz]; simp [Op.operands]
  have hhi : ∀ z, hi = some z → z ∈ o.op.operands.toList := by intro z hz; rw [ho, hz]; simp [Op.operands]
  unfold evSlice at h
  cases hsl : E.sld o with
  | true =>
    rw [hsl, cond_true] at h
    exact s_sliceD ho h
  | false =>
  rw [hsl, cond_false] at h
  cases hct : E.cut o with
  | true =>
    rw [hct, cond_true] at h
    exact s_sliceC ho h
  | false =>
  rw [hct, cond_false] at h
  split at h
  · rename_i Tx s hs
    obtain ⟨d1, e1, u1, rfl⟩ := sval_some hs
    split at h
    · rename_i a ha
      split at h
      · rename_i b hb
        have hh_ := bif_some h
        clear h
        obtain ⟨hc, h⟩ := hh_
        have hh_ := Option.bind_eq_some_iff.1 h
        clear h
        obtain ⟨rs, hrs, h⟩ := hh_
        obtain ⟨p1, p2, p3, p4⟩ := cutS_some hrs
        subst p4
        exact val_s h fun σ' ag d hd hn => op_slice_str ho hd hn (isS_some hc) u1 ((ev_is ag hx e1).cstr u1) (bndE_lo (E := E) (by rw [bndE_agr ag.ts hlo]; exact ha)) (bndE_hi (E := E) (by rw [bndE_agr ag.ts hhi]; exact hb)) p1 p2 p3
      · cases h
    · cases h
  · split at h
    · rename_i Tx Te es hl
      obtain ⟨d1, hp, u1, rfl⟩ := lval_some hl
      split at h
      · rename_i a ha
        split at h
        · rename_i b hb
          have hh_ := bif_some h
          clear h
          obtain ⟨hc, h⟩ := hh_
          have hh_ := Option.bind_eq_some_iff.1 h
          clear h
          obtain ⟨rs, hrs, h⟩ := hh_
          obtain ⟨p1, p2, p3, p4⟩ := cutL_some hrs
          subst p4
          obtain ⟨d, hd, hn, hk⟩ := out_some h
          refine ⟨_, hk, fun σ' ag => ?_⟩
          have hfw := ag.frz (ls := (opd P E.dt σ T x).rws) fun l hl => hl
          obtain ⟨u2, h0c⟩ := elemOK_some hc
          have hpk : pk P (wrO σ'.hs (frzW σ'.hs (opd P E.dt σ T x).rws)) (opd P E.dt σ T x) = some (Tx, d1) := by
            rw [← hp, hfw]
            exact pk_agr _ fun l hl => wrO_agr (fun l hl => ag.hs l hl) l hl
          have hev : Ev P (St.mk σ'.ts (wrO σ'.hs (frzW σ'.hs (opd P E.dt σ T x).rws)) σ'.k0) x (.dat Tx d1) := Ev.pk (ev_imp ag hx) hpk
          have hlo' : bndE P E (St.mk σ'.ts (wrO σ'.hs (frzW σ'.hs (opd P E.dt σ T x).rws)) σ'.k0) 0 lo = some a := by
            rw [← ha]
            exact bndE_agr (fun t ht => ag.ts t ht) hlo
          have hhi' : bndE P E (St.mk σ'.ts (wrO σ'.hs (frzW σ'.hs (opd P E.dt σ T x).rws)) σ'.k0) (d1.toLst.length : Nat) hi = some b := by
            rw [← hb]
            exact bndE_agr (fun t ht => ag.ts t ht) hhi
          have key := (op_slice_lst ho hd hn u2 u1 h0c (hev.clst u1) (bndE_lo hlo') (bndE_hi hhi') p1 p2 p3).pre (Imp.frzW (σ := σ') (opd P E.dt σ T x).rws)
          rw [hd]
          rw [hfw] at key
          exact key
        · cases h
      · cases h
    · cases h
theorem s_fieldAddr {S : TypeId} {i : Nat} (ho : o.op = .fieldAddr S x i) (h : evFieldAddr P E n o σ S x i k = some r) : OpS P n o σ k r := by
  have hx : x ∈ o.op.operands.toList := by rw [ho]; simp [Op.operands]
  unfold evFieldAddr at h
  split at h
  · rename_i fs hfs
    split at h
    · rename_i f hf
      have hh_ := bif_some h
      clear h
      obtain ⟨hc, h⟩ := hh_
      split at h
      · rename_i l p q e1
        exact val_s h fun σ' ha d hd hn => op_fieldAddr_ptr ho hd hn (stF_some hfs) hf (nbeq hc) (ev_is ha hx e1)
      · rename_i l j z p q e1
        exact val_s h fun σ' ha d hd hn => op_fieldAddr_eptr ho hd hn (stF_some hfs) hf (nbeq hc) (ev_is ha hx e1)
      · rename_i S' d0 e1
        have hh_ := bif_some h
        clear h
        obtain ⟨hc2, h⟩ := hh_
        have e := beq_eq (and_l hc2)
        subst e
        exact val_s h fun σ' ha d hd hn => op_fieldAddr_rptr ho hd hn (stF_some hfs) hf (nbeq hc) (Nat.le_of_ble_eq_true (and_r hc2)) (ev_is ha hx e1)
      · rename_i T2 d0 e1
        split at h
        · rename_i S' hS'
          have hh_ := Option.bind_eq_some_iff.1 h
          clear h
          obtain ⟨e0, he0, h⟩ := hh_
          have hh_ := bif_some h
          clear h
          obtain ⟨hc2, h⟩ := hh_
          have e := beq_eq (and_l hc2)
          subst e
          exact val_s h fun σ' ha d hd hn => op_fieldAddr_rptr ho hd hn (stF_some hfs) hf (nbeq hc) (Nat.le_of_ble_eq_true (and_r hc2)) ((ev_is ha hx e1).pd (ppE_some hS') he0)
        · cases h
      · cases h
    · cases h
  · cases h
theorem s_field {S : TypeId} {i : Nat} (ho : o.op = .field S x i) (h : evField P E n o σ S x i k = some r) : OpS P n o σ k r := by
  have hx : x ∈ o.op.operands.toList := by rw [ho]; simp [Op.operands]
  unfold evField at h
  split at h
  · rename_i fs hfs
    split at h
    · rename_i f hf
      split at h
      · rename_i S' d0 hp
        have hh_ := bif_some h
        clear h
        obtain ⟨hc, h⟩ := hh_
        have e := beq_eq (and_l hc)
        subst e
        obtain ⟨q1, q2, ⟨D, hD⟩, q4, q5⟩ := szB_some (and_r (and_r hc))
        exact val_s h fun σ' ha d hd hn => (op_field ho hd hn (stF_some hfs) hf hD (fun hf2 => q4 hf2) (Nat.le_of_ble_eq_true (and_l (and_r hc))) (Ev.pk (ev_at ha hx) (pk_nil _ hp))).can
      · cases h
    · cases h
  · cases h
theorem s_indexAddr (ho : o.op = .indexAddr T x y) (h : evIndexAddr P E n o σ T x y k = some r) : OpS P n o σ k r := by
  have hx : x ∈ o.op.operands.toList := by rw [ho]; simp [Op.operands]
  have hy : ∀ z, some y = some z → z ∈ o.op.operands.toList := by intro z hz; cases hz; rw [ho]; simp [Op.operands]
  unfold evIndexAddr at h
  split at h
  · rename_i i hi
    have hidx : ∀ σ' rd, Agr o σ σ' rd → ∃ TI k, P.underlying TI = some (.int k) ∧ Ev P σ' y (.dat TI (.int i)) := fun σ' rd ag => bndE_lo (lo := some y) (E := E) (by rw [bndE_agr ag.ts hy]; exact hi)
    split at h
    · rename_i l e1
      split at h
      · rename_i T5 es hl
        split at h
        · rename_i Te hTe
          have hh_ := bif_some h
          clear h
          obtain ⟨hc, h⟩ := hh_
          have hh_ := Option.bind_eq_some_iff.1 h
          clear h
          obtain ⟨u, hu, h⟩ := hh_
          obtain ⟨p1, p2⟩ := inL_some hu
          obtain ⟨u2, h0c⟩ := elemOK_some hc
          refine val_s h fun σ' ag d hd hn => ?_
          obtain ⟨TI, k1, v1, v2⟩ := hidx σ' _ ag
          exact op_index_row ho hd hn u2 h0c v1 (ev_is ag hx e1) v2 (by rw [ag.hs l (by simp)]; exact hl) (slE_some hTe) p1 p2
        · cases h
      · rename_i T5 vs hl
        split at h
        · rename_i Te hTe
          have hh_ := bif_some h
          clear h
          obtain ⟨hc, h⟩ := hh_
          obtain ⟨u2, h0c⟩ := elemOK_some (and_l hc)
          refine val_s h fun σ' ag d hd hn => ?_
          obtain ⟨TI, k1, v1, v2⟩ := hidx σ' _ ag
          exact op_index_rowA ho hd hn u2 h0c v1 (ev_is ag hx e1) v2 (by rw [ag.hs l (by simp)]; exact hl) (by simpa using and_l (and_r hc)) (by simpa using and_r (and_r hc))
        · cases h
      · rename_i T5 T2 c kk es hh hl
        split at h
        · rename_i Te hTe
          have hh_ := bif_some h
          clear h
          obtain ⟨hc, h⟩ := hh_
          have hh_ := Option.bind_eq_some_iff.1 h
          clear h
          obtain ⟨u, hu, h⟩ := hh_
          obtain ⟨p1, p2⟩ := inL_some hu
          obtain ⟨u2, h0c⟩ := elemOK_some hc
          refine val_s h fun σ' ag d hd hn => ?_
          obtain ⟨TI, k1, v1, v2⟩ := hidx σ' _ ag
          exact op_index_rowD ho hd hn u2 h0c v1 (ev_is ag hx e1) v2 (by rw [ag.hs l (by simp)]; exact hl) p1 p2
        · cases h
      · rename_i T5 es hl
        split at h
        · rename_i Te hTe
          have hh_ := bif_some h
          clear h
          obtain ⟨hc, h⟩ := hh_
          have hh_ := Option.bind_eq_some_iff.1 h
          clear h
          obtain ⟨e0, he0, h⟩ := hh_
          obtain ⟨p1, p2⟩ := idx_some he0
          obtain ⟨u2, h0c⟩ := elemOK_some hc
          refine val_s h fun σ' ag d hd hn => ?_
          obtain ⟨TI, k1, v1, v2⟩ := hidx σ' _ ag
          exact op_index_lst ho hd hn u2 (slE_some hTe) h0c v1 ((ev_is ag hx e1).frz (by rw [ag.hs l (by simp)]; exact hl)) v2 p1 p2
        · cases h
      · cases h
    · rename_i l e1
      split at h
      · rename_i S c hl
        split at h
        · rename_i Te d0 hb
          obtain ⟨len, hu, rfl, hm, h0⟩ := arB_some hb
          have hh_ := bif_some h
          clear h
          obtain ⟨hc, h⟩ := hh_
          have e := beq_eq hc
          subst e
          have hh_ := Option.bind_eq_some_iff.1 h
          clear h
          obtain ⟨u, hu2, h⟩ := hh_
          obtain ⟨p1, p2⟩ := inL_some hu2
          refine val_s h fun σ' ag d hd hn => ?_
          obtain ⟨TI, k1, v1, v2⟩ := hidx σ' _ ag
          exact op_index_arr ho hd hn hu h0 v1 (ev_is ag hx e1) v2 (by rw [ag.hs l (by simp)]; exact hl) p1 p2
        · cases h
      · cases h
    · rename_i v0 hne
      split at h
      · rename_i Tx Te es hl
        obtain ⟨d1, hp, u1, rfl⟩ := lval_some hl
        have hh_ := bif_some h
        clear h
        obtain ⟨hc, h⟩ := hh_
        have hh_ := Option.bind_eq_some_iff.1 h
        clear h
        obtain ⟨e0, he0, h⟩ := hh_
        obtain ⟨p1, p2⟩ := idx_some he0
        obtain ⟨u2, h0c⟩ := elemOK_some hc
        refine val_s h fun σ' ag d hd hn => ?_
        obtain ⟨TI, k1, v1, v2⟩ := hidx σ' _ ag
        exact op_index_lst ho hd hn u2 u1 h0c v1 ((Ev.pk (ev_at ag hx) (pk_nil _ hp)).clst u1) v2 p1 p2
      · cases h
  · cases h
theorem s_index (ho : o.op = .index T x y) (h : evIndex P E n o σ T x y k = some r) : OpS P n o σ k r := by
  have hx : x ∈ o.op.operands.toList := by rw [ho]; simp [Op.operands]
  have hy : ∀ z, some y = some z → z ∈ o.op.operands.toList := by intro z hz; cases hz; rw [ho]; simp [Op.operands]
  unfold evIndex at h
  split at h
  · rename_i Tx s hs
    obtain ⟨d1, e1, u1, rfl⟩ := sval_some hs
    split at h
    · rename_i i hi
      have hh_ := bif_some h
      clear h
      obtain ⟨hc, h⟩ := hh_
      have hh_ := Option.bind_eq_some_iff.1 h
      clear h
      obtain ⟨c, hc2, h⟩ := hh_
      obtain ⟨p1, u, p2, rfl⟩ := idxS_some hc2
      refine val_s h fun σ' ag d hd hn => ?_
      obtain ⟨TI, k1, v1, v2⟩ := bndE_lo (lo := some y) (E := E) (σ := σ') (i := i) (by rw [bndE_agr ag.ts hy]; exact hi)
      exact op_index_str ho hd hn v1 (isI_some (and_r hc)) (isS_some (and_l hc)) u1 ((ev_is ag hx e1).cstr u1) v2 p1 p2
    · cases h
  · split at h
    · rename_i T' e he
      split at h
      · rename_i len Te hu
        split at h
        · rename_i i hi
          have hh_ := bif_some h
          clear h
          obtain ⟨hc, h⟩ := hh_
          have hh_ := Option.bind_eq_some_iff.1 h
          clear h
          obtain ⟨q, hq, h⟩ := hh_
          obtain ⟨p1, p2⟩ := idx_some hq
          have eT := beq_eq (and_l hc)
          subst eT
          obtain ⟨_, _, ⟨D, hD⟩, h1, _⟩ := szB_some (and_r (and_r hc))
          refine val_s h fun σ' ag d hd hn => ?_
          obtain ⟨TI, k1, v1, v2⟩ := bndE_lo (lo := some y) (E := E) (σ := σ') (i := i) (by rw [bndE_agr ag.ts hy]; exact hi)
          exact (op_indexArr ho hd hn hu hD h1 (beq_eq (and_l (and_r hc))) v1 (ev_is ag hx he) v2 p1 p2).can
        · cases h
      · cases h
    · cases h
theorem s_extract {i : Nat} (ho : o.op = .extract x i) (h : evExtract P E n o σ x i k = some r) : OpS P n o σ k r := by
  have hx : x ∈ o.op.operands.toList := by rw [ho]; simp [Op.operands]
  unfold evExtract at h
  split at h
  · rename_i vs e1
    split at h
    · cases h
    · rename_i v0 hne hv
      exact val_s h fun σ' ha d hd hn => op_extract ho hd hn (ev_is ha hx e1) hv fun us e => hne us e
    · cases h
  · cases h
theorem capsB_some : ∀ {vs : List AV}, capsB P vs = true → ∀ v ∈ vs, v.isAgg P = false ∧ v ≠ .dead ∧ ∀ us, v ≠ .tup us
  | [], _, v, hv => by simp at hv
  | u :: r, h, v, hv => by
    unfold capsB at h
    rcases List.mem_cons.1 hv with e | hv
    · subst e
      have h1 := and_l h
      split at h1
      · cases h1
      · cases h1
      · rename_i h3 h4
        exact ⟨by simpa using h1, fun e => h4 e, fun us e => h3 us e⟩
    · exact capsB_some (and_r h) v hv
theorem map_ev {D : List TypeId} : ∀ {xs : List Operand}, EvXs P σ xs (xs.map (opd P D σ T))
  | [] => .nil
  | x :: xs => .cons opd_ev map_ev
theorem op_makeFunc {d : Nat} {f : FuncId} {first : Array Operand} {xs : List Operand} {caps : List AV} (ho : o.op = .makeFunc (.func f) first xs.toArray) (hf : first.size = 0) (hd : o.dst = some d) (hn : d < n) (ha : EvXs P σ xs caps) (hc : ∀ v ∈ caps, v.isAgg P = false ∧ v ≠ .dead ∧ ∀ us, v ≠ .tup us) : OpOK P n o σ (σ.put d (.fn f caps)) :=
  opOK_val hd hn fun ok0 w0 a w β r => by
    have hfe : first = #[] := Array.eq_empty_of_size_eq_zero hf
    subst hfe
    have h := ha.rvs r
    refine ⟨.func (.func f) #[] (xs.map a.eval).toArray, by simp [execOp, ho, Instr.makeFunc, List.map_toArray], ⟨fun hi => by simp [AV.isAgg] at hi, fun _ => .fn (by simpa using h.len) fun i av hv => ?_⟩⟩
    obtain ⟨z, h1, h2⟩ := h.get i av hv
    have hm := hc av (List.mem_of_getElem? hv)
    have e : (xs.map a.eval).toArray.getD i undef = z := by
      simp only [Array.getD_eq_getD_getElem?, List.getElem?_toArray, h1, Option.getD_some]
    rw [e]
    exact (RV.to1 hm.2.1 hm.2.2 h2).2 hm.1
theorem s_makeFunc {f : FuncId} {first caps : Array Operand} (ho : o.op = .makeFunc (.func f) first caps) (h : evMakeFunc P E n o σ f first.size caps.toList k = some r) : OpS P n o σ k r := by
  unfold evMakeFunc at h
  have hh_ := bif_some h
  clear h
  obtain ⟨hc, h⟩ := hh_
  refine val_s h fun σ' ag d hd hn => op_makeFunc (xs := caps.toList) (by rw [ho]) (beq_eq (and_l hc)) hd hn ?_ (capsB_some (and_r hc))
  have e : caps.toList.map (opd P E.dt σ' 0) = caps.toList.map (opd P E.dt σ 0) := by
    refine List.map_congr_left fun z hz => opd_agr ag.ts ?_
    rw [ho]; simp [Op.operands, hz]
  rw [← e]
  exact map_ev
theorem op_makeMth {d : Nat} {name : String} {T : TypeId} {v : AV} {x : Operand} (ho : o.op = .makeFunc (.method name) #[x] #[]) (hd : o.dst = some d) (hn : d < n) (hx : Ev P σ x (.ifc T v)) : OpOK P n o σ (σ.put d (.mth T name)) :=
  opOK_val hd hn fun ok0 w0 a w β r => by
    have h := (hx _ _ _ _ _ _ r).2 rfl
    generalize hz : a.eval x = z at h
    obtain ⟨z', rfl⟩ : ∃ z', z = .iface T z' := by
      cases h with
      | ifc1 _ _ => exact ⟨_, rfl⟩
      | ifcA _ _ => exact ⟨_, rfl⟩
    exact ⟨.func (.method name) #[.iface T z'] #[], by simp [execOp, ho, Instr.makeFunc, hz], ⟨fun hi => by simp [AV.isAgg] at hi, fun _ => .mth⟩⟩
theorem s_makeMth {name : String} {first caps : Array Operand} (ho : o.op = .makeFunc (.method name) first caps) (h : evMakeMth P E n o σ name first.toList caps.size k = some r) : OpS P n o σ k r := by
  unfold evMakeMth at h
  split at h
  · rename_i x hf
    split at h
    · rename_i T v e1
      obtain ⟨hc, h⟩ := bif_some h
      have ec : caps = #[] := Array.eq_empty_of_size_eq_zero (beq_eq hc)
      have ef : first = #[x] := by apply Array.ext'; simpa using hf
      subst ec ef
      have hx : x ∈ o.op.operands.toList := by rw [ho]; simp [Op.operands]
      exact val_s h fun σ' ag d hd hn => op_makeMth ho hd hn (ev_is ag hx e1)
    · cases h
  · cases h
theorem s_len {xs : Array Operand} {Ts : Array TypeId} (ho : o.op = .call ⟨.builtin .len, xs, Ts⟩) (hxs : xs.toList = [x]) (hTs : Ts.toList = [T]) (h : evLen P E n o σ T x k = some r) : OpS P n o σ k r := by
  have hxs' : xs = #[x] := by apply Array.ext'; simpa using hxs
  have hTs' : Ts = #[T] := by apply Array.ext'; simpa using hTs
  subst hxs' hTs'
  have hx : x ∈ o.op.operands.toList := by rw [ho]; simp [Op.operands, Call.operands]
  unfold evLen at h
  have hh_ := bif_some h
  clear h
  obtain ⟨hI, h⟩ := hh_
  split at h
  · rename_i Tx s hs
    obtain ⟨d1, e1, u1, rfl⟩ := sval_some hs
    have hh_ := bif_some h
    clear h
    obtain ⟨hc, h⟩ := hh_
    exact val_s h fun σ' ag d hd hn => op_len_str ho hd hn (isI_some hI) (isS_some hc) u1 ((ev_is ag hx e1).cstr u1)
  · split at h
    · rename_i Te hTe
      split at h
      · rename_i l e1
        split at h
        · rename_i T5 es hl
          exact val_s h fun σ' ag d hd hn => op_len_row ho hd hn (isI_some hI) (slE_some hTe) (ev_is ag hx e1) (by rw [ag.hs l (by simp)]; exact hl)
        · rename_i T5 vs hl
          exact val_s h fun σ' ag d hd hn => op_len_rowA (E := 0) ho hd hn (isI_some hI) (slE_some hTe) (ev_is ag hx e1) (by rw [ag.hs l (by simp)]; exact hl)
        · rename_i T5 T2 c kk es hh hl
          exact val_s h fun σ' ag d hd hn => op_len_rowD (E := 0) ho hd hn (isI_some hI) (slE_some hTe) (ev_is ag hx e1) (by rw [ag.hs l (by simp)]; exact hl)
        · rename_i T5 es hl
          have hh_ := bif_some h
          clear h
          obtain ⟨hsl, h⟩ := hh_
          obtain ⟨E5, hE5⟩ := Option.isSome_iff_exists.1 hsl
          refine val_s h fun σ' ag d hd hn => ?_
          have hl' : lk σ'.hs l = .frz T5 es := by rw [ag.hs l (by simp)]; exact hl
          exact op_len_lst ho hd hn (isI_some hI) (slE_some hTe) (slE_some hE5) ((ev_is ag hx e1).frz hl')
        · cases h
      · split at h
        · rename_i Tx Te2 es hl
          obtain ⟨d1, hp, u1, rfl⟩ := lval_some hl
          exact val_s h fun σ' ag d hd hn => op_len_lst ho hd hn (isI_some hI) (slE_some hTe) u1 ((Ev.pk (ev_at ag hx) (pk_nil _ hp)).clst u1)
        · cases h
    · cases h
theorem op_max {d : Nat} {k : IntKind} {T3 T4 T1 T2 : TypeId} {p q : Int} (ho : o.op = .call ⟨.builtin .max, #[x, y], #[T1, T2]⟩) (hd : o.dst = some d) (hn : d < n)
    (hu : P.underlying T3 = some (.int k)) (hu' : P.underlying T4 = some (.int k)) (hx : Ev P σ x (.dat T3 (.int p))) (hy : Ev P σ y (.dat T4 (.int q))) : OpOK P n o σ (σ.put d (.dat T3 (.int (bif decide (p < q) then q else p)))) :=
  opOK_val hd hn fun ok0 w0 a w β r => by
    obtain ⟨_, e1, b1, b2⟩ := RV.int hu (hx _ _ _ _ _ _ r)
    obtain ⟨_, e2, b3, b4⟩ := RV.int hu' (hy _ _ _ _ _ _ r)
    simp only [Dt.toInt] at e1 e2 b1 b2 b3 b4
    refine ⟨.int k (bif decide (p < q) then q else p), ?_, RV.mk_int hu ?_ ?_⟩
    · by_cases h : p < q <;> simp [execOp, ho, e1, e2, resolve, invoke, builtin, Builtin.max_, Builtin.max2, h]
    · by_cases h : p < q <;> simp [h, b1, b3]
    · by_cases h : p < q <;> simp [h, b2, b4]
theorem op_min {d : Nat} {k : IntKind} {T3 T4 T1 T2 : TypeId} {p q : Int} (ho : o.op = .call ⟨.builtin .min, #[x, y], #[T1, T2]⟩) (hd : o.dst = some d) (hn : d < n)
    (hu : P.underlying T3 = some (.int k)) (hu' : P.underlying T4 = some (.int k)) (hx : Ev P σ x (.dat T3 (.int p))) (hy : Ev P σ y (.dat T4 (.int q))) : OpOK P n o σ (σ.put d (.dat T3 (.int (bif decide (q < p) then q else p)))) :=
  opOK_val hd hn fun ok0 w0 a w β r => by
    obtain ⟨_, e1, b1, b2⟩ := RV.int hu (hx _ _ _ _ _ _ r)
    obtain ⟨_, e2, b3, b4⟩ := RV.int hu' (hy _ _ _ _ _ _ r)
    simp only [Dt.toInt] at e1 e2 b1 b2 b3 b4
    refine ⟨.int k (bif decide (q < p) then q else p), ?_, RV.mk_int hu ?_ ?_⟩
    · by_cases h : q < p <;> simp [execOp, ho, e1, e2, resolve, invoke, builtin, Builtin.min_, Builtin.min2, h]
    · by_cases h : q < p <;> simp [h, b1, b3]
    · by_cases h : q < p <;> simp [h, b2, b4]
theorem two {A : Type} {xs : Array A} {a b : A} (h : xs.toList = [a, b]) : xs = #[a, b] := by apply Array.ext'; simpa using h
theorem s_min {xs : Array Operand} {Ts : Array TypeId} {T' : TypeId} (ho : o.op = .call ⟨.builtin .min, xs, Ts⟩) (hxs : xs.toList = [x, y]) (hTs : Ts.toList = [T, T']) (h : evMin P E n o σ T T' x y k = some r) : OpS P n o σ k r := by
  have hxs' := two hxs
  have hTs' := two hTs
  subst hxs' hTs'
  have hx : x ∈ o.op.operands.toList := by rw [ho]; simp [Op.operands, Call.operands]
  have hy : y ∈ o.op.operands.toList := by rw [ho]; simp [Op.operands, Call.operands]
  unfold evMin at h
  split at h
  · rename_i Tx q a ha
    obtain ⟨d1, e1, u1, rfl⟩ := ival_some ha
    split at h
    · rename_i Ty q' b hb
      obtain ⟨d2, e2, u2, rfl⟩ := ival_some hb
      have hh_ := bif_some h
      clear h
      obtain ⟨hq, h⟩ := hh_
      have hq' : q = q' := by simpa using hq
      subst hq'
      exact val_s h fun σ' ag d hd hn => op_min ho hd hn u1 u2 ((ev_is ag hx e1).cint u1) ((ev_is ag hy e2).cint u2)
    · cases h
  · cases h
theorem s_max {xs : Array Operand} {Ts : Array TypeId} {T' : TypeId} (ho : o.op = .call ⟨.builtin .max, xs, Ts⟩) (hxs : xs.toList = [x, y]) (hTs : Ts.toList = [T, T']) (h : evMax P E n o σ T T' x y k = some r) : OpS P n o σ k r := by
  have hxs' := two hxs
  have hTs' := two hTs
  subst hxs' hTs'
  have hx : x ∈ o.op.operands.toList := by rw [ho]; simp [Op.operands, Call.operands]
  have hy : y ∈ o.op.operands.toList := by rw [ho]; simp [Op.operands, Call.operands]
  unfold evMax at h
  split at h
  · rename_i Tx q a ha
    obtain ⟨d1, e1, u1, rfl⟩ := ival_some ha
    split at h
    · rename_i Ty q' b hb
      obtain ⟨d2, e2, u2, rfl⟩ := ival_some hb
      have hh_ := bif_some h
      clear h
      obtain ⟨hq, h⟩ := hh_
      have hq' : q = q' := by simpa using hq
      subst hq'
      exact val_s h fun σ' ag d hd hn => op_max ho hd hn u1 u2 ((ev_is ag hx e1).cint u1) ((ev_is ag hy e2).cint u2)
    · cases h
  · cases h
theorem mapKV_some {KT V : TypeId} (h : mapKV P T = some (KT, V)) : P.underlying T = some (.map KT V) ∧ P.underlying KT = some .string ∧ aggT P V = false := by
  unfold mapKV at h
  split at h
  · rename_i K V' hu
    obtain ⟨h1, h2⟩ := bif_some h
    cases h2
    exact ⟨hu, isS_some (and_l h1), by simpa using and_r h1⟩
  · cases h
theorem scT_agg (h : scT P T = true) : aggT P T = false := by
  unfold scT at h
  unfold aggT
  split at h <;> simp_all
theorem zeroS_some {z : Dt} (h : zeroS P T = some z) : ∃ (i : TypeInfo) (zv : Value), P.info? T = some i ∧ i.zero = some zv ∧ ∀ (ok : Nat → Prop) (w : World), RD P ok w T z [zv] := by
  unfold zeroS at h
  split at h
  · rename_i i hi
    split at h
    · rename_i zv hz
      cases hb : isAggV zv with
      | true => rw [hb] at h; cases h
      | false =>
        rw [hb] at h
        obtain ⟨i', z', q1, q2, q3, q4⟩ := (zeroD_sound h).ex
        rw [hi] at q1; cases q1
        rw [hz] at q2; cases q2
        refine ⟨_, zv, hi, hz, fun ok w => ?_⟩
        have e : zv.cells.toList = [zv] := by cases zv <;> first | rfl | cases hb
        rw [← e]; exact q4 ok w
    · cases h
  · cases h
theorem bsetA {A : Type} {b : Bool} {u v : Option A} {q : A} (h : (bif b then u else v) = some q) : (b = true ∧ u = some q) ∨ (b = false ∧ v = some q) := by cases b <;> simp_all
theorem nilZ_some (h : nilZ P T = true) : ∃ (i : TypeInfo), P.info? T = some i ∧ i.zero = some (.slice none 0 0) := by
  unfold nilZ at h
  split at h
  · rename_i i hi
    split at h
    · rename_i hz; exact ⟨i, hi, hz⟩
    · cases h
  · cases h
theorem s_lookup {two : Bool} (ho : o.op = .lookup T x y two) (h : evLookup P E n o σ T x y two k = some r) : OpS P n o σ k r := by
  have hx : x ∈ o.op.operands.toList := by rw [ho]; simp [Op.operands]
  have hy : y ∈ o.op.operands.toList := by rw [ho]; simp [Op.operands]
  unfold evLookup at h
  split at h
  · rename_i KT V hkv
    obtain ⟨u1, u2, u3⟩ := mapKV_some hkv
    split at h
    · rename_i z hz
      have hz' := zeroS_some hz
      split at h
      · rename_i l e1
        split at h
        · rename_i T5 es hl
          split at h
          · rename_i K5 V5 hkv5
            obtain ⟨p1, p2, p3⟩ := mapKV_some hkv5
            split at h
            · rename_i TS s hs
              obtain ⟨d2, e2, us, rfl⟩ := sval_some hs
              have hh_ := bif_some h
              clear h
              obtain ⟨hc, h⟩ := hh_
              have c1 := beq_eq (and_l hc)
              have c2 := beq_eq (and_r hc)
              subst c1; subst c2
              cases two with
              | true =>
                simp only [cond_true] at h
                split at h
                · rename_i TB hTB
                  exact val_s h fun σ' ag d hd hn => op_lookup2 ho hd hn u1 u2 u3 (bT_some hTB) hz' us (ev_is ag hx e1) ((ev_is ag hy e2).cstr us) (by rw [ag.hs l (by simp)]; exact hl) p1
                · cases h
              | false =>
                simp only [cond_false] at h
                rcases bsetA h with ⟨_, h⟩ | ⟨_, h⟩
                · exact val_s h fun σ' ag d hd hn => (op_lookup ho hd hn u1 u2 u3 hz' us (ev_is ag hx e1) ((ev_is ag hy e2).cstr us) (by rw [ag.hs l (by simp)]; exact hl) p1).can
                · rcases bsetA h with ⟨_, h⟩ | ⟨hm, h⟩
                  · exact val_s h fun σ' ag d hd hn => (op_lookup ho hd hn u1 u2 u3 hz' us (ev_is ag hx e1) ((ev_is ag hy e2).cstr us) (by rw [ag.hs l (by simp)]; exact hl) p1).can
                  · obtain ⟨hnz, h⟩ := bif_some h
                    exact val_s h fun σ' ag d hd hn => op_lookupN ho hd hn u1 u2 (nilZ_some hnz) us (ev_is ag hx e1) ((ev_is ag hy e2).cstr us) (by rw [ag.hs l (by simp)]; exact hl) p1 hm
            · cases h
          · cases h
        · cases h
      · cases h
    · cases h
  · cases h
theorem s_makeMap (ho : o.op = .makeMap T none) (h : evMakeMap P n o σ T k = some r) : OpS P n o σ k r := by
  unfold evMakeMap at h
  split at h
  · rename_i kv hkv
    obtain ⟨KT, V⟩ := kv
    obtain ⟨u1, u2, u3⟩ := mapKV_some hkv
    have hh_ := new_some h
    clear h
    obtain ⟨hk0, h⟩ := hh_
    exact wr1_s h fun σ' ag d hd hn => op_makeMap ho hd hn u1 u2 (by rw [ag.hs _ (by simp)]; exact free_end σ) (by rw [ag.k0]; exact hk0)
  · cases h
theorem s_mapUpdate {u : Operand} (ho : o.op = .mapUpdate T x y u) (h : evMapUpdate P E o σ T x y u k = some r) : OpS P n o σ k r := by
  have hx : x ∈ o.op.operands.toList := by rw [ho]; simp [Op.operands]
  have hy : y ∈ o.op.operands.toList := by rw [ho]; simp [Op.operands]
  have hu : u ∈ o.op.operands.toList := by rw [ho]; simp [Op.operands]
  unfold evMapUpdate at h
  split at h
  · rename_i KT V hkv
    obtain ⟨u1, u2, u3⟩ := mapKV_some hkv
    split at h
    · rename_i l e1
      split at h
      · rename_i T5 es hl
        split at h
        · rename_i K5 V5 hkv5
          obtain ⟨p1, p2, p3⟩ := mapKV_some hkv5
          split at h
          · rename_i TS s hs
            obtain ⟨d2, e2, us, rfl⟩ := sval_some hs
            split at h
            · rename_i TV dv hpk
              have hh_ := bif_some h
              clear h
              obtain ⟨hc, h⟩ := hh_
              have hnm : l ∉ (opd P E.dt σ V u).rws := memB_not (by simpa using and_r (and_r hc))
              obtain ⟨hd, hk⟩ := outN_some h
              refine ⟨_, hk, fun σ' ag => ?_⟩
              have hagr : ∀ l2 ∈ (opd P E.dt σ V u).rws, lk σ'.hs l2 = lk σ.hs l2 := fun l2 hl2 => ag.hs l2 (by simp [hl2])
              rw [hd]
              have hev : ∀ {z : Operand} {w : AV} {T0 : TypeId}, z ∈ o.op.operands.toList → opd P E.dt σ T0 z = w → Ev P (St.mk σ'.ts (wrO σ'.hs (frzW σ'.hs (opd P E.dt σ V u).rws)) σ'.k0) z w := by
                rintro z w T0 hz rfl
                have e3 : opd P E.dt (St.mk σ'.ts (wrO σ'.hs (frzW σ'.hs (opd P E.dt σ V u).rws)) σ'.k0) T0 z = opd P E.dt σ T0 z := by
                  rw [← opd_agr ag.ts hz]
                  cases z <;> rfl
                rw [← e3]
                exact opd_ev
              have hpk2 : pk P (wrO σ'.hs (frzW σ'.hs (opd P E.dt σ V u).rws)) (opd P E.dt σ V u) = some (TV, dv) := by
                rw [← hpk, frzW_agr hagr]
                exact pk_agr _ fun l2 hl2 => wrO_agr hagr l2 hl2
              have key : OpOK P n o ⟨σ'.ts, wrO σ'.hs (frzW σ'.hs (opd P E.dt σ V u).rws), σ'.k0⟩ ((St.mk σ'.ts (wrO σ'.hs (frzW σ'.hs (opd P E.dt σ V u).rws)) σ'.k0).lay l (.map T5 (mput es d2.toStr dv))) := by
                refine op_mapUpdate (n := n) ho hd u1 u2 p1 (by simpa using and_l (and_r hc)) (and_l hc) us (hev hx e1) ((hev hy e2).cstr us) (Ev.pk (hev hu rfl) hpk2) ?_
                show lk (wrO σ'.hs _) l = _
                rw [frzW_other hnm, ag.hs l (by simp)]
                exact hl
              have hfin : St.mk (putD σ'.ts none none) (wrO σ'.hs (frzW σ.hs (opd P E.dt σ V u).rws ++ [(l, .map T5 (mput es d2.toStr dv))])) σ'.k0 = (St.mk σ'.ts (wrO σ'.hs (frzW σ'.hs (opd P E.dt σ V u).rws)) σ'.k0).lay l (.map T5 (mput es d2.toStr dv)) := by
                rw [wrO_app, frzW_agr hagr]
                rfl
              have := key.pre (Imp.frzW (σ := σ') (opd P E.dt σ V u).rws)
              rw [← hfin] at this
              exact this
            · cases h
          · cases h
        · cases h
      · cases h
    · cases h
  · cases h
theorem tabAt_mem : ∀ {ts : List (Nat × List Value)} {g : Nat} {cs : List Value}, tabAt ts g = some cs → (g, cs) ∈ ts
  | [], _, _, h => by cases h
  | t :: r, g, cs, h => by
    unfold tabAt at h
    cases hb : Nat.beq t.1 g with
    | true =>
      rw [hb] at h
      cases h
      have e := beq_eq hb
      subst e
      exact List.mem_cons_self
    | false =>
      rw [hb] at h
      exact List.mem_cons_of_mem _ (tabAt_mem h)
theorem tabD_get {Te : TypeId} {sz : Nat} : ∀ {m : Nat} {cs : List Value} {ds : List Dt}, tabD P Te sz m cs = some ds → ∀ (i : Nat) (d : Dt), ds[i]? = some d → ∀ (ok : Nat → Prop) (w : World), RD P ok w Te d ((cs.drop (i * sz)).take sz) ∧ i < m
  | 0, cs, ds, h, i, d, hd, ok, w => by
    unfold tabD at h
    cases h
    simp at hd
  | m + 1, cs, ds, h, i, d, hd, ok, w => by
    unfold tabD at h
    split at h
    · rename_i v hv
      split at h
      · rename_i T' d' hp
        obtain ⟨h1, h2⟩ := bif_some h
        have e := beq_eq h1
        subst e
        split at h2
        · rename_i ds' hds
          cases h2
          cases i with
          | zero =>
            simp only [List.getElem?_cons_zero, Option.some.injEq] at hd
            subst hd
            refine ⟨?_, by omega⟩
            simp only [Nat.zero_mul, List.drop_zero]
            exact pk_sound (β := fun _ => none) (hs := []) (fun l T es hl => by simp [lk] at hl) ((avC_sound hv).1 ok w _) hp
          | succ i =>
            simp only [List.getElem?_cons_succ] at hd
            obtain ⟨q1, q2⟩ := tabD_get hds i d hd ok w
            rw [List.drop_drop, show sz + i * sz = (i + 1) * sz by rw [Nat.succ_mul]; omega] at q1
            exact ⟨q1, by omega⟩
        · cases h2
      · cases h
    · cases h
theorem s_tab {g : Nat} (ho : o.op = .indexAddr T (.global g) y) (h : evTab P E n o σ T g y k = some r) : OpS P n o σ k r := by
  have hy : y ∈ o.op.operands.toList := by rw [ho]; simp [Op.operands]
  unfold evTab at h
  split at h
  · rename_i len Te hu
    split at h
    · rename_i cs hcs
      split at h
      · rename_i ds hds
        split at h
        · rename_i i hi
          have hh_ := bif_some h
          clear h
          obtain ⟨hc, h⟩ := hh_
          have hh_ := Option.bind_eq_some_iff.1 h
          clear h
          obtain ⟨e, he, h⟩ := hh_
          obtain ⟨p1, p2⟩ := idx_some he
          have h0 := nbeq (and_l hc)
          have hlen := beq_eq (and_r hc)
          refine val_s h fun σ' ag d hd hn => ?_
          obtain ⟨TI, k1, v1, v2⟩ := bndE_lo (lo := some y) (E := E) (σ := σ') (i := i) (by rw [bndE_agr ag.ts (by intro z hz; cases hz; exact hy)]; exact hi)
          refine opOK_val hd hn fun ok0 w0 a w β r => ?_
          obtain ⟨_, e2, _⟩ := RV.int v1 (v2 _ _ _ _ _ _ r)
          simp only [Dt.toInt] at e2
          obtain ⟨hok, TT, fr, hblk⟩ := r.tab.1 _ (tabAt_mem hcs)
          have hmul : ∀ m, m < len → m * P.cellsOf Te + P.cellsOf Te ≤ len * P.cellsOf Te := fun m hm => by
            have := Nat.mul_le_mul_right (P.cellsOf Te) (show m + 1 ≤ len from hm)
            rw [Nat.succ_mul] at this
            exact this
          have hq := tabD_get hds i.toNat e p2
          have hlt := (hq (fun _ => True) w).2
          have hm := hmul _ hlt
          refine ⟨.pointer (some ((⟨g, 0, none⟩ : Addr).add (i.toNat * P.cellsOf Te))), ?_, rptr_rv (cs := (cs.drop (i.toNat * P.cellsOf Te)).take (P.cellsOf Te)) (by rw [block_add]; exact hok) (by rw [List.length_take, List.length_drop]; omega) (fun j v hv => ?_) (hq _ w).1⟩
          · have hii : i < len := by omega
            cases hin : P.info? Te with
            | none => simp [Program.cellsOf, hin] at h0
            | some inf =>
              unfold execOp
              simp only [ho, e2, Sem.run_bind]
              have ea : a.eval (.global g) = .pointer (some ⟨g, 0, none⟩) := rfl
              rw [ea]
              simp [Instr.indexAt, asIntOf, run_underlying hu, Instr.sureAddr, p1, hii, sizeOf, typeInfo, hin, Program.cellsOf]
          · rw [add_add, add_mk, Nat.zero_add]
            rw [List.getElem?_take] at hv
            split at hv
            · rename_i hj
              rw [List.getElem?_drop] at hv
              have hb : w.heap[g]? = some (.cells cs.toArray TT fr) := hblk
              simp only [World.cell?, hb]
              simpa using hv
            · cases hv
        · cases h
      · cases h
    · cases h
  · cases h
end
end Go.Am
