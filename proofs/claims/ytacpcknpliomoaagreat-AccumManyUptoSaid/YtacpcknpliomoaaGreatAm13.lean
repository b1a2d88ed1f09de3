/- The abstract machine, part 13: each operation of the machine is so in the model. -/
import Derived.Test.YtacpcknpliomoaaGreatAm12
set_option linter.unusedVariables false
set_option linter.unusedSimpArgs false
namespace Go.Am
open Go.RowKit

structure Agr (o : Oper) (σ σ' : St) (rd : List Nat) : Prop where
  ts : Agrs σ σ' o.op.operands.toList
  hs : ∀ l ∈ rd, lk σ'.hs l = lk σ.hs l
  k0 : σ'.k0 = σ.k0
def OpS {R : Type} (P : Program) (n : Nat) (o : Oper) (σ : St) (k : Dl → Option R) (r : R) : Prop :=
  ∃ δ, k δ = some r ∧ ∀ σ', Agr o σ σ' δ.rd → OpOK P n o σ' (σ'.app o.dst δ)

section
variable {P : Program} {n : Nat} {o : Oper} {σ τ : St} {x y : Operand} {v : AV} {T : TypeId} {R : Type} {E : Env} {k : Dl → Option R} {r : R}

theorem out_some {rd : List Nat} {wr : List (Nat × Ob)} (h : out n o v rd wr k = some r) : ∃ d, o.dst = some d ∧ d < n ∧ k ⟨some v, rd, wr⟩ = some r := by
  unfold out at h
  split at h
  · rename_i d hd
    obtain ⟨h1, h2⟩ := bif_some h
    exact ⟨d, hd, Nat.le_of_ble_eq_true h1, h2⟩
  · cases h
theorem outN_some {rd : List Nat} {wr : List (Nat × Ob)} (h : outN o rd wr k = some r) : o.dst = none ∧ k ⟨none, rd, wr⟩ = some r := by
  unfold outN at h
  split at h
  · cases h
  · rename_i hd; exact ⟨hd, h⟩
theorem new_some {f : Nat → Option R} (h : new σ f = some r) : σ.k0 ≤ σ.hs.length ∧ f σ.hs.length = some r := by
  unfold new at h
  obtain ⟨h1, h2⟩ := bif_some h
  exact ⟨Nat.le_of_ble_eq_true h1, h2⟩
theorem val_s {rd : List Nat} (h : out n o v rd [] k = some r) (hv : ∀ σ', Agr o σ σ' rd → ∀ d, o.dst = some d → d < n → OpOK P n o σ' (σ'.put d v)) : OpS P n o σ k r := by
  obtain ⟨d, hd, hn, hk⟩ := out_some h
  refine ⟨_, hk, fun σ' ha => ?_⟩
  have := hv σ' ha d hd hn
  rw [hd]
  exact this
theorem wr1_s {rd : List Nat} {l : Nat} {ob : Ob} (h : out n o v rd [(l, ob)] k = some r) (hv : ∀ σ', Agr o σ σ' rd → ∀ d, o.dst = some d → d < n → OpOK P n o σ' ((σ'.lay l ob).put d v)) : OpS P n o σ k r := by
  obtain ⟨d, hd, hn, hk⟩ := out_some h
  refine ⟨_, hk, fun σ' ha => ?_⟩
  have := hv σ' ha d hd hn
  rw [hd]
  exact this
theorem ev_at {σ' : St} {rd : List Nat} (ha : Agr o σ σ' rd) (hx : x ∈ o.op.operands.toList) : Ev P σ' x (opd P E.dt σ T x) := by
  rw [← opd_agr ha.ts hx]
  exact opd_ev
theorem ev_is {σ' : St} {rd : List Nat} {u : AV} (ha : Agr o σ σ' rd) (hx : x ∈ o.op.operands.toList) (hv : opd P E.dt σ T x = u) : Ev P σ' x u := by
  rw [← hv]
  exact ev_at ha hx

theorem s_move (ho : o.op = .move x) (h : out n o (opd P E.dt σ o.type x) [] [] k = some r) : OpS P n o σ k r :=
  val_s h fun σ' ha d hd hn => op_move ho hd hn (ev_at ha (by rw [ho]; simp [Op.operands]))
theorem s_assign (ho : o.op = .assign x) (h : out n o (opd P E.dt σ o.type x) [] [] k = some r) : OpS P n o σ k r :=
  val_s h fun σ' ha d hd hn => op_assign ho hd hn (ev_at ha (by rw [ho]; simp [Op.operands]))
theorem s_pick {c : Operand} (ho : o.op = .pick c x y) (h : evPick P E n o σ c x y k = some r) : OpS P n o σ k r := by
  unfold evPick at h
  split at h
  · rename_i b hb
    obtain ⟨TB, d0, e1, e2, rfl⟩ := bval_some hb
    cases hd0 : d0.toBool with
    | true =>
      rw [hd0] at h
      exact val_s h fun σ' ha d hd hn => by
        have hc := (ev_is (x := c) ha (by rw [ho]; simp [Op.operands]) e1).cbool e2
        rw [hd0] at hc
        exact op_pick_true ho hd hn e2 hc (ev_at ha (by rw [ho]; simp [Op.operands]))
    | false =>
      rw [hd0] at h
      exact val_s h fun σ' ha d hd hn => by
        have hc := (ev_is (x := c) ha (by rw [ho]; simp [Op.operands]) e1).cbool e2
        rw [hd0] at hc
        exact op_pick_false ho hd hn e2 hc (ev_at ha (by rw [ho]; simp [Op.operands]))
  · cases h
theorem free_end (σ : St) : lk σ.hs σ.hs.length = .free := lk_end _ _ (Nat.le_refl _)
theorem s_alloc (ho : o.op = .alloc T) (h : evAlloc P n o σ T k = some r) : OpS P n o σ k r := by
  unfold evAlloc at h
  split at h
  · rename_i v hv
    have hh_ := new_some h
    clear h
    obtain ⟨hk0, h⟩ := hh_
    exact wr1_s h fun σ' ha d hd hn => op_alloc ho hd hn (by rw [ha.hs _ (by simp)]; exact free_end σ) (by rw [ha.k0]; exact hk0) (zeroV_sound hv)
  · cases h
theorem s_box (ho : o.op = .box T x) (h : evBox P E n o σ T x k = some r) : OpS P n o σ k r := by
  unfold evBox at h
  have hh_ := bif_some h
  clear h
  obtain ⟨hb, h⟩ := hh_
  have hh_ := new_some h
  clear h
  obtain ⟨hk0, h⟩ := hh_
  obtain ⟨q1, q2, q3, q4, q5⟩ := szB_some hb
  exact wr1_s h fun σ' ha d hd hn => op_box ho hd hn (by rw [ha.hs _ (by simp)]; exact free_end σ) (by rw [ha.k0]; exact hk0) (ev_at ha (by rw [ho]; simp [Op.operands])) q1 q2 q5
theorem s_build {parts : Array (Nat × Operand)} (ho : o.op = .build T parts) (h : evBuild P E n o σ T parts.toList k = some r) : OpS P n o σ k r := by
  unfold evBuild at h
  split at h
  · rename_i fs hfs
    split at h
    · rename_i T' vs hz
      have hh_ := bif_some h
      clear h
      obtain ⟨hc, h⟩ := hh_
      have e := beq_eq (and_l hc)
      subst e
      split at h
      · rename_i us hus
        refine val_s h fun σ' ha d hd hn => op_build ho hd hn (stF_some hfs) (and_l (and_r hc)) (and_r (and_r hc)) (zeroV_sound hz) ?_
        have : bldL P E σ' fs parts.toList vs = some us := by
          rw [bldL_agr ha.ts fun p hp => by rw [ho]; simp only [Op.operands]; exact List.mem_map.2 ⟨p, hp, rfl⟩]
          exact hus
        exact bldL_sound this
      · cases h
    · cases h
  · cases h
theorem okOK {σ τ : St} (h : ∀ (ok0 : OkX) (w0 : World) (a : Act) (w : World) (β : Nat → Option Value), RelB P ok0 w0 n σ a w β → OpOK P n o σ τ) : OpOK P n o σ τ := by
  rintro ok0 w0 a w ⟨β, r⟩
  exact h ok0 w0 a w β r ok0 w0 a w ⟨β, r⟩
theorem s_loadD0 {l i sz off kk : Nat} {path : List Nat} {T5 T2 : TypeId} {c : Option Nat} {es : List Dt} {hh : Option (Nat × Nat)} (ho : o.op = .load T x) (e1 : opd P E.dt σ 0 x = .eptr l i sz path off) (hl : lk σ.hs l = .rowD T5 T2 c kk es hh)
    (h : evLoadD0 P n o σ T l i sz off T5 T2 c kk es hh k = some r) : OpS P n o σ k r := by
  have hx : x ∈ o.op.operands.toList := by rw [ho]; simp [Op.operands]
  unfold evLoadD0 at h
  split at h
  · rename_i Te E2 T4 ls h1 h2 h3
    split at h
    · rename_i T3 fo hf
      have hh_ := bif_some h
      clear h
      obtain ⟨hc, h⟩ := hh_
      have f1 := beq_eq (and_l hc)
      have f2 := beq_eq (and_l (and_r hc))
      have f3 := beq_eq (and_l (and_r (and_r hc)))
      have f4 := beq_eq (and_l (and_r (and_r (and_r hc))))
      have f5 := beq_eq (and_r (and_r (and_r (and_r hc))))
      subst f1 f2 f4 f5
      subst f3
      have hh_ := new_some h
      clear h
      obtain ⟨hk0, h⟩ := hh_
      have hh_ := Option.bind_eq_some_iff.1 h
      clear h
      obtain ⟨e, he, h⟩ := hh_
      have hh_ := bif_some h
      clear h
      obtain ⟨hlk, h⟩ := hh_
      have hh_ := Option.bind_eq_some_iff.1 h
      clear h
      obtain ⟨e2, he2, h⟩ := hh_
      obtain ⟨d, hd, hn, hk⟩ := out_some h
      refine ⟨_, hk, fun σ' ag => ?_⟩
      rw [hd]
      have hk' : lk σ'.hs kk = .tok T4 ls := by rw [ag.hs kk (by simp)]; exact h3
      refine okOK fun _ _ _ _ _ r => ?_
      exact op_load_hole ho hd hn (slE_some h2) (slE_some h1) (ev_is ag hx e1) hf (by rw [ag.hs l (by simp)]; exact hl) hk' he hlk (r.tok_lst hk' he2)
        (by rw [ag.hs _ (by simp)]; exact free_end σ) (by rw [ag.hs _ (by simp)]; exact lk_end _ _ (by omega)) (by omega) (by rw [ag.k0]; exact hk0) (by rw [ag.k0]; omega)
    · cases h
  · cases h
theorem s_loadO {l i sz off kk i' m : Nat} {path : List Nat} {T5 T2 : TypeId} {c : Option Nat} {es : List Dt} (ho : o.op = .load T x) (e1 : opd P E.dt σ 0 x = .eptr l i sz path off) (hl : lk σ.hs l = .rowD T5 T2 c kk es (some (i', m)))
    (h : evLoadO P n o T l i sz off T5 T2 c es i' m k = some r) : OpS P n o σ k r := by
  have hx : x ∈ o.op.operands.toList := by rw [ho]; simp [Op.operands]
  unfold evLoadO at h
  split at h
  · rename_i Te E2 h1 h2
    split at h
    · rename_i T3 fo hf
      have hh_ := bif_some h
      clear h
      obtain ⟨hc, h⟩ := hh_
      have f1 := beq_eq (and_l hc)
      have f2 := beq_eq (and_l (and_r hc))
      have f4 := beq_eq (and_l (and_r (and_r hc)))
      have f5 := beq_eq (and_r (and_r (and_r hc)))
      subst f1 f2 f4 f5
      have hh_ := bif_some h
      clear h
      obtain ⟨hi, h⟩ := hh_
      have f6 := beq_eq hi
      subst f6
      have hh_ := Option.bind_eq_some_iff.1 h
      clear h
      obtain ⟨e, he, h⟩ := hh_
      have hh_ := bif_some h
      clear h
      obtain ⟨hlk, h⟩ := hh_
      obtain ⟨d, hd, hn, hk⟩ := out_some h
      refine ⟨_, hk, fun σ' ag => ?_⟩
      rw [hd]
      exact op_load_out ho hd hn (slE_some h2) (slE_some h1) (ev_is ag hx e1) hf (by rw [ag.hs l (by simp)]; exact hl) he hlk
    · cases h
  · cases h
theorem s_loadD {l i sz off kk : Nat} {path : List Nat} {T5 T2 : TypeId} {c : Option Nat} {es : List Dt} {hh : Option (Nat × Nat)} (ho : o.op = .load T x) (e1 : opd P E.dt σ 0 x = .eptr l i sz path off) (hl : lk σ.hs l = .rowD T5 T2 c kk es hh)
    (h : evLoadD P n o σ T l i sz off T5 T2 c kk es hh k = some r) : OpS P n o σ k r := by
  unfold evLoadD at h
  split at h
  · exact s_loadO ho e1 hl h
  · exact s_loadD0 ho e1 hl h
theorem elemD_ok {hs : List Ob} {Te T2 fo E2 : TypeId} {c : Option Nat} {d' : Dt} {m : Nat} (hu2 : P.underlying T2 = some (.slice E2)) (hf : holeF P Te c = some (T2, fo)) (hm : elemM c v = some m) (h : elemD P hs Te T2 c v = some d') : ElemOK P hs Te c fo v d' m := by
  have hh := holeF_at hf
  unfold elemM at hm
  split at hm
  · cases hm
    cases h
    obtain ⟨h1, h2⟩ := bifS (show (bif Nat.beq (P.cellsOf Te) 1 then some (Te, 0) else none) = some (T2, fo) from hf)
    cases h2
    exact elem_none hu2 (beq_eq h1)
  · split at hm
    · rename_i m' hv
      cases hm
      simp only [elemD] at h
      split at h
      · rename_i T3 e' hp
        have hh_ := bif_some h
        clear h
        obtain ⟨hc, h⟩ := hh_
        have f1 := beq_eq (and_l hc)
        have f2 := beq_eq (and_r hc)
        subst f1 f2
        cases h
        exact elem_some hh hu2 hv hp
      · cases h
    · cases hm
  · cases hm
theorem notN_sub {m : Nat} : ∀ {ls : List Nat}, ∀ l ∈ notN m ls, l ∈ ls
  | a :: r, l, h => by
    unfold notN at h
    cases hb : Nat.beq a m with
    | true => rw [hb] at h; exact List.mem_cons_of_mem _ (notN_sub l h)
    | false =>
      rw [hb] at h
      rcases List.mem_cons.1 h with h | h
      · rw [h]; exact List.mem_cons_self
      · exact List.mem_cons_of_mem _ (notN_sub l h)
theorem rwsL_setN {T2 : TypeId} : ∀ {vs : List AV} {f : Nat}, ∀ l ∈ AV.rwsL (vs.set f (.nils T2)), l ∈ AV.rwsL vs
  | [], _, _, h => h
  | v :: r, 0, l, h => by
    simp only [List.set_cons_zero, AV.rwsL, AV.rws, List.nil_append] at h
    simp [AV.rwsL, h]
  | v :: r, f + 1, l, h => by
    simp only [List.set_cons_succ, AV.rwsL, List.mem_append] at h
    simp only [AV.rwsL, List.mem_append]
    exact h.imp id (rwsL_setN l)
theorem elemD_agr {hs hs' : List Ob} {Te T2 : TypeId} {c : Option Nat} (h : ∀ l ∈ v.rws, lk hs' l = lk hs l) : elemD P hs' Te T2 c v = elemD P hs Te T2 c v := by
  cases c with
  | none => rfl
  | some f =>
    cases v with
    | agg T' vs =>
      simp only [elemD]
      rw [pk_agr (hs := hs) (hs' := hs') (.agg Te (vs.set f (.nils T2))) fun l hl => h l (rwsL_setN l hl)]
    | _ => rfl
theorem s_storeD {l i sz off kk : Nat} {path : List Nat} {T5 T2 : TypeId} {c : Option Nat} {es : List Dt} {hh : Option (Nat × Nat)} (ho : o.op = .store T x y) (hz : szB P T (opd P E.dt σ T y) = true) (h0 : P.cellsOf T ≠ 0) (e1 : opd P E.dt σ 0 x = .eptr l i sz path off) (hl : lk σ.hs l = .rowD T5 T2 c kk es hh)
    (h : evStoreD P o σ T l i sz path off T5 T2 c kk es hh (opd P E.dt σ T y) k = some r) : OpS P n o σ k r := by
  have hx : x ∈ o.op.operands.toList := by rw [ho]; simp [Op.operands]
  have hy : y ∈ o.op.operands.toList := by rw [ho]; simp [Op.operands]
  obtain ⟨q1, q2, q3, q4, q5⟩ := szB_some hz
  unfold evStoreD at h
  split at h
  · rename_i Te m h1 hm
    split at h
    · rename_i T3 fo E2 d' hf h2 h3
      have hh_ := bif_some h
      clear h
      obtain ⟨hc, h⟩ := hh_
      have f1 := beq_eq (and_l hc)
      have f2 := beq_eq (and_l (and_r hc))
      have f3 := beq_eq (and_l (and_r (and_r hc)))
      have f4 := beq_eq (and_l (and_r (and_r (and_r hc))))
      have hnm : l ∉ notN m (opd P E.dt σ T y).rws := memB_not (by simpa using and_r (and_r (and_r (and_r hc))))
      subst f1 f2 f3 f4
      have hh_ := Option.bind_eq_some_iff.1 h
      clear h
      obtain ⟨e, he, h⟩ := hh_
      obtain ⟨hd, hk⟩ := outN_some h
      refine ⟨_, hk, fun σ' ag => ?_⟩
      rw [hd]
      have hagr : ∀ l ∈ (opd P E.dt σ Te y).rws, lk σ'.hs l = lk σ.hs l := fun l hl => ag.hs l (by simp [hl])
      have hfw : frzW σ'.hs (notN m (opd P E.dt σ Te y).rws) = frzW σ.hs (notN m (opd P E.dt σ Te y).rws) := frzW_agr fun l hl => hagr l (notN_sub l hl)
      have hev : ∀ {z : Operand} {u : AV} {T0 : TypeId}, z ∈ o.op.operands.toList → opd P E.dt σ T0 z = u → Ev P (St.mk σ'.ts (wrO σ'.hs (frzW σ'.hs (notN m (opd P E.dt σ Te y).rws))) σ'.k0) z u := by
        rintro z u T0 hz rfl
        have e3 : opd P E.dt (St.mk σ'.ts (wrO σ'.hs (frzW σ'.hs (notN m (opd P E.dt σ Te y).rws))) σ'.k0) T0 z = opd P E.dt σ T0 z := by
          rw [← opd_agr ag.ts hz]
          cases z <;> rfl
        rw [← e3]
        exact opd_ev
      have key := op_storeD (σ := St.mk σ'.ts (wrO σ'.hs (frzW σ'.hs (notN m (opd P E.dt σ Te y).rws))) σ'.k0) (n := n) (i := i) ho hd h0 (hev hx e1) (hev hy rfl) q1 q2 q5
        (by show lk (wrO σ'.hs _) l = _; rw [frzW_other hnm, ag.hs l (by simp)]; exact hl) (slE_some h1) (List.getElem?_eq_some_iff.1 he).1 (holeF_at hf) (fun _ _ e => by cases e)
        (elemD_ok (slE_some h2) hf hm (by
          show elemD P (wrO σ'.hs _) Te _ c _ = some d'
          rw [← h3, hfw]
          exact elemD_agr fun l hl => wrO_agr hagr l hl))
      have := key.pre (Imp.frzW (σ := σ') (notN m (opd P E.dt σ Te y).rws))
      have hfin : St.mk (putD σ'.ts none none) (wrO σ'.hs (frzW σ.hs (notN m (opd P E.dt σ Te y).rws) ++ [(l, .rowD T5 T3 c kk (es.set i d') (some (i, m)))])) σ'.k0 = (St.mk σ'.ts (wrO σ'.hs (frzW σ'.hs (notN m (opd P E.dt σ Te y).rws))) σ'.k0).lay l (.rowD T5 T3 c kk (es.set i d') (some (i, m))) := by
        rw [wrO_app, hfw]
        rfl
      rw [← hfin] at this
      exact this
    · cases h
  · cases h
theorem arB_some {S Te : TypeId} {c : AV} {d : Dt} (h : arB P S c = some (Te, d)) : ∃ len, P.underlying S = some (.array len Te) ∧ c = .dat S d ∧ P.cellsOf S = len * P.cellsOf Te ∧ P.cellsOf Te ≠ 0 := by
  unfold arB at h
  split at h
  · rename_i len Te' hu
    split at h
    · obtain ⟨h1, h2⟩ := bif_some h
      cases h2
      have e := beq_eq (and_l h1)
      subst e
      exact ⟨len, hu, rfl, beq_eq (and_l (and_r h1)), nbeq (and_r (and_r h1))⟩
    · cases h
  · cases h
theorem s_loadArr {l i sz off S : Nat} {path : List Nat} {c : AV} (ho : o.op = .load T x) (e1 : opd P E.dt σ 0 x = .eptr l i sz path off) (hl : lk σ.hs l = .box S c) (h : evLoadArr P n o T l i sz path off S c k = some r) : OpS P n o σ k r := by
  have hx : x ∈ o.op.operands.toList := by rw [ho]; simp [Op.operands]
  unfold evLoadArr at h
  split at h
  · rename_i Te d hb
    obtain ⟨len, hu, rfl, hm, h0⟩ := arB_some hb
    have hh_ := bif_some h
    clear h
    obtain ⟨hc, h⟩ := hh_
    have e := beq_eq (and_l hc)
    subst e
    have e2 := beq_eq (and_l (and_r hc))
    subst e2
    have e3 := beq_eq (and_l (and_r (and_r hc)))
    subst e3
    obtain ⟨q1, q2, ⟨D, hD⟩, q4, q5⟩ := szB_some (and_r (and_r (and_r hc)))
    have hh_ := Option.bind_eq_some_iff.1 h
    clear h
    obtain ⟨e0, he0, h⟩ := hh_
    refine val_s h fun σ' ha d' hd hn => ?_
    have hl' : lk σ'.hs l = .box S (.dat S d) := by rw [ha.hs l (by simp)]; exact hl
    have := (ev_is ha hx e1).arr (p' := [i]) hl'
    rw [Nat.add_zero] at this
    exact (op_load_ptr ho hd hn hD (fun hf => q4 hf) this hl' (.arr hu hm he0) rfl (by simp)).can
  · cases h
theorem s_storeArr {l i sz off S : Nat} {path : List Nat} {c : AV} (ho : o.op = .store T x y) (hz : szB P T (opd P E.dt σ T y) = true) (h0 : P.cellsOf T ≠ 0) (e1 : opd P E.dt σ 0 x = .eptr l i sz path off) (hl : lk σ.hs l = .box S c)
    (h : evStoreArr P o T l i sz path off S c (opd P E.dt σ T y) k = some r) : OpS P n o σ k r := by
  have hx : x ∈ o.op.operands.toList := by rw [ho]; simp [Op.operands]
  have hy : y ∈ o.op.operands.toList := by rw [ho]; simp [Op.operands]
  obtain ⟨q1, q2, q3, q4, q5⟩ := szB_some hz
  unfold evStoreArr at h
  split at h
  · rename_i Te d T' x' hb e4
    obtain ⟨len, hu, rfl, hm, _⟩ := arB_some hb
    have hh_ := bif_some h
    clear h
    obtain ⟨hc, h⟩ := hh_
    have e := beq_eq (and_l hc)
    subst e
    have e5 := beq_eq (and_l (and_r hc))
    subst e5
    have e2 := beq_eq (and_l (and_r (and_r hc)))
    subst e2
    have e3 := beq_eq (and_r (and_r (and_r hc)))
    subst e3
    have hh_ := Option.bind_eq_some_iff.1 h
    clear h
    obtain ⟨e0, he0, h⟩ := hh_
    obtain ⟨hd, hk⟩ := outN_some h
    refine ⟨_, hk, fun σ' ha => ?_⟩
    have hl' : lk σ'.hs l = .box S (.dat S d) := by rw [ha.hs l (by simp)]; exact hl
    have hp := (ev_is ha hx e1).arr (p' := [i]) hl'
    rw [Nat.add_zero] at hp
    have := op_store_ptr (n := n) ho hd h0 hp (ev_at ha hy) q1 q2 q5 hl' (.arr hu hm (List.getElem?_eq_some_iff.1 he0).1 e4)
    rw [hd]
    exact this
  · cases h
theorem s_load (ho : o.op = .load T x) (h : evLoad P E n o σ T x k = some r) : OpS P n o σ k r := by
  have hx : x ∈ o.op.operands.toList := by rw [ho]; simp [Op.operands]
  unfold evLoad at h
  split at h
  · rename_i T' d0 e1
    have hh_ := bif_some h
    clear h
    obtain ⟨hc, h⟩ := hh_
    have e := beq_eq (and_l hc)
    subst e
    obtain ⟨q1, q2, ⟨D, hD⟩, q4, q5⟩ := szB_some (and_r hc)
    exact val_s h fun σ' ha d hd hn => (op_load_rptr ho hd hn hD (fun hf => q4 hf) (ev_is ha hx e1)).can
  · rename_i l path off e1
    split at h
    · rename_i S c hl
      split at h
      · rename_i T' q v hg
        have hh_ := bif_some h
        clear h
        obtain ⟨hc, h⟩ := hh_
        have e := beq_eq (and_l hc)
        subst e
        have e2 := beq_eq (and_l (and_r hc))
        subst e2
        obtain ⟨q1, q2, ⟨D, hD⟩, q4, q5⟩ := szB_some (and_l (and_r (and_r hc)))
        have hag : v.isAgg P = aggT P T' := by simpa using and_r (and_r (and_r hc))
        refine val_s h fun σ' ha d hd hn => ?_
        have key := op_load_ptr ho hd hn hD (fun hf => q4 (by rw [hag]; exact hf)) (ev_is ha hx e1) (by rw [ha.hs l (by simp)]; exact hl) (getAt_sound hg) hag q2
        cases v <;> first | exact key | exact key.can
      · cases h
    · cases h
  · rename_i l i sz path off e1
    split at h
    · rename_i T5 es hl
      split at h
      · rename_i Te hTe
        have hh_ := Option.bind_eq_some_iff.1 h
        clear h
        obtain ⟨e0, he0, h⟩ := hh_
        split at h
        · rename_i T' q v hg
          have hh_ := bif_some h
          clear h
          obtain ⟨hc, h⟩ := hh_
          have e := beq_eq (and_l hc)
          subst e
          have e2 := beq_eq (and_l (and_r hc))
          subst e2
          have e3 := beq_eq (and_l (and_r (and_r hc)))
          subst e3
          obtain ⟨q1, q2, ⟨D, hD⟩, q4, q5⟩ := szB_some (and_l (and_r (and_r (and_r hc))))
          have hag : v.isAgg P = aggT P T' := by simpa using and_r (and_r (and_r (and_r hc)))
          refine val_s h fun σ' ha d hd hn => ?_
          have key := op_load_eptr ho hd hn hD (fun hf => q4 (by rw [hag]; exact hf)) (ev_is ha hx e1) (by rw [ha.hs l (by simp)]; exact hl) (slE_some hTe) he0 (getAt_sound hg) hag q2
          cases v <;> first | exact key | exact key.can
        · cases h
      · cases h
    · rename_i T5 vs hl
      split at h
      · rename_i Te hTe
        have hh_ := Option.bind_eq_some_iff.1 h
        clear h
        obtain ⟨e0, he0, h⟩ := hh_
        split at h
        · rename_i T' q v hg
          have hh_ := bif_some h
          clear h
          obtain ⟨hc, h⟩ := hh_
          have e := beq_eq (and_l hc)
          subst e
          have e2 := beq_eq (and_l (and_r hc))
          subst e2
          have e3 := beq_eq (and_l (and_r (and_r hc)))
          subst e3
          obtain ⟨q1, q2, ⟨D, hD⟩, q4, q5⟩ := szB_some (and_l (and_r (and_r (and_r hc))))
          have hag : v.isAgg P = aggT P T' := by simpa using and_r (and_r (and_r (and_r hc)))
          refine val_s h fun σ' ha d hd hn => ?_
          have key := op_load_eptrA ho hd hn hD (fun hf => q4 (by rw [hag]; exact hf)) (ev_is ha hx e1) (by rw [ha.hs l (by simp)]; exact hl) (slE_some hTe) he0 (getAt_sound hg) hag q2
          cases v <;> first | exact key | exact key.can
        · cases h
      · cases h
    · rename_i hl
      exact s_loadD ho e1 hl h
    · rename_i S c hl
      exact s_loadArr ho e1 hl h
    · cases h
  · cases h
theorem s_store (ho : o.op = .store T x y) (h : evStore P E o σ T x y k = some r) : OpS P n o σ k r := by
  have hx : x ∈ o.op.operands.toList := by rw [ho]; simp [Op.operands]
  have hy : y ∈ o.op.operands.toList := by rw [ho]; simp [Op.operands]
  unfold evStore at h
  have hh_ := bif_some h
  clear h
  obtain ⟨hc0, h⟩ := hh_
  obtain ⟨q1, q2, q3, q4, q5⟩ := szB_some (and_l hc0)
  have h0 := nbeq (and_r hc0)
  split at h
  · rename_i l path off e1
    split at h
    · rename_i S c hl
      split at h
      · rename_i q c' hs
        have hh_ := bif_some h
        clear h
        obtain ⟨hc, h⟩ := hh_
        have e := beq_eq hc
        subst e
        obtain ⟨hd, hk⟩ := outN_some h
        refine ⟨_, hk, fun σ' ha => ?_⟩
        have := op_store_ptr (n := n) ho hd h0 (ev_is ha hx e1) (ev_at ha hy) q1 q2 q5 (by rw [ha.hs l (by simp)]; exact hl) (setAt_sound hs)
        rw [hd]
        exact this
      · cases h
    · cases h
  · rename_i l i sz path off e1
    split at h
    · rename_i T5 es hl
      split at h
      · rename_i Te hTe
        have hh_ := Option.bind_eq_some_iff.1 h
        clear h
        obtain ⟨e0, he0, h⟩ := hh_
        split at h
        · rename_i q c' hs
          split at h
          · rename_i Te' e' hpk
            have hh_ := bif_some h
            clear h
            obtain ⟨hc, h⟩ := hh_
            have e := beq_eq (and_l hc)
            subst e
            have e2 := beq_eq (and_l (and_r hc))
            subst e2
            have hcmp := and_l (and_r (and_r hc))
            have hnm : l ∉ (opd P E.dt σ T y).rws := memB_not (by simpa using and_r (and_r (and_r hc)))
            obtain ⟨hd, hk⟩ := outN_some h
            refine ⟨_, hk, fun σ' ha => ?_⟩
            have hagr : ∀ l ∈ (opd P E.dt σ T y).rws, lk σ'.hs l = lk σ.hs l := fun l hl => ha.hs l (by simp [hl])
            rw [hd]
            have key : OpOK P n o ⟨σ'.ts, wrO σ'.hs (frzW σ'.hs (opd P E.dt σ T y).rws), σ'.k0⟩ ((St.mk σ'.ts (wrO σ'.hs (frzW σ'.hs (opd P E.dt σ T y).rws)) σ'.k0).lay l (.row T5 (es.set i e'))) := by
              have hev : ∀ {z : Operand} {u : AV}, Ev P σ' z u → z ∈ o.op.operands.toList → (∃ T0, u = opd P E.dt σ T0 z) → Ev P (St.mk σ'.ts (wrO σ'.hs (frzW σ'.hs (opd P E.dt σ T y).rws)) σ'.k0) z u := by
                rintro z u _ hz ⟨T0, rfl⟩
                have e3 : opd P E.dt (St.mk σ'.ts (wrO σ'.hs (frzW σ'.hs (opd P E.dt σ T y).rws)) σ'.k0) T0 z = opd P E.dt σ T0 z := by
                  rw [← opd_agr ha.ts hz]
                  cases z <;> rfl
                rw [← e3]
                exact opd_ev
              refine op_store_eptr (n := n) ho hd h0 (hev (ev_is ha hx e1) hx ⟨_, e1.symm⟩) (hev (ev_at ha hy) hy ⟨_, rfl⟩) q1 q2 q5 ?_ (slE_some hTe) he0 (setAt_sound hs) ?_
              · show lk (wrO σ'.hs _) l = _
                rw [frzW_other hnm, ha.hs l (by simp)]
                exact hl
              · intro ok0 w0 a w β rb cs hra
                refine RD.compat (pk_sound rb.frzOK hra ?_) hcmp
                show pk P (wrO σ'.hs (frzW σ'.hs (opd P E.dt σ T y).rws)) c' = _
                rw [← hpk]
                -- the rows of c' are among those of the value
                refine pk_agr c' fun l2 hl2 => ?_
                have hsub : ∀ l2 ∈ c'.rws, l2 ∈ (opd P E.dt σ T y).rws := setAt_rws hs (by intro l3 h3; simp [AV.rws] at h3)
                rw [frzW_agr hagr]
                exact wrO_agr hagr l2 (hsub l2 hl2)
            have hfin : St.mk (putD σ'.ts none none) (wrO σ'.hs (frzW σ.hs (opd P E.dt σ T y).rws ++ [(l, .row T5 (es.set i e'))])) σ'.k0 = (St.mk σ'.ts (wrO σ'.hs (frzW σ'.hs (opd P E.dt σ T y).rws)) σ'.k0).lay l (.row T5 (es.set i e')) := by
              rw [wrO_app, frzW_agr hagr]
              rfl
            have := key.pre (Imp.frzW (σ := σ') (opd P E.dt σ T y).rws)
            rw [← hfin] at this
            exact this
          · cases h
        · cases h
      · cases h
    · rename_i T5 vs hl
      split at h
      · rename_i Te hTe
        have hh_ := Option.bind_eq_some_iff.1 h
        clear h
        obtain ⟨e0, he0, h⟩ := hh_
        split at h
        · rename_i q c' hs
          have hh_ := bif_some h
          clear h
          obtain ⟨hc, h⟩ := hh_
          have e := beq_eq (and_l hc)
          subst e
          have e2 := beq_eq (and_r hc)
          subst e2
          obtain ⟨hd, hk⟩ := outN_some h
          refine ⟨_, hk, fun σ' ha => ?_⟩
          have := op_store_eptrA (n := n) ho hd h0 (ev_is ha hx e1) (ev_at ha hy) q1 q2 q5 (by rw [ha.hs l (by simp)]; exact hl) (slE_some hTe) he0 (setAt_sound hs)
          rw [hd]
          exact this
        · cases h
      · cases h
    · rename_i hl
      exact s_storeD ho (and_l hc0) h0 e1 hl h
    · rename_i S c hl
      exact s_storeArr ho (and_l hc0) h0 e1 hl h
    · cases h
  · cases h
where setAt_rws {T' : TypeId} {v : AV} : ∀ {path : List Nat} {S : TypeId} {c : AV} {q : Nat} {c' : AV}, setAt P T' v S c path = some (q, c') → (∀ l ∈ c.rws, l ∈ v.rws) → ∀ l ∈ c'.rws, l ∈ v.rws
  | [], S, c, q, c', h, _ => by
    have h' : (bif Nat.beq S T' then some (0, v) else none) = some (q, c') := by simpa [setAt] using h
    obtain ⟨_, h2⟩ := bif_some h'
    cases h2
    exact fun l hl => hl
  | i :: p, S, c, q, c', h, hc => by
    unfold setAt at h
    split at h
    · rename_i fs hfs
      split at h
      · rename_i f hf
        split at h
        · rename_i vs hvs
          split at h
          · rename_i old hold
            obtain ⟨h1, h2⟩ := bif_some h
            split at h2
            · rename_i q' new hg
              cases h2
              have hvsr : ∀ l ∈ AV.rwsL vs, l ∈ v.rws := by
                split at hvs
                · obtain ⟨e1, e2⟩ := bif_some hvs
                  cases e2
                  exact hc
                · obtain ⟨e1, e2⟩ := bif_some hvs
                  cases e2
                  intro l hl
                  exfalso
                  have : ∀ (fs : List Field) (j : Nat) (d : Dt), AV.rwsL (explL P fs j d) = [] := by
                    intro fs
                    induction fs with
                    | nil => intro j d; rfl
                    | cons f r ih => intro j d; simp [explL, AV.rwsL, AV.rws, ih]
                  rw [show expl P fs _ = explL P fs.toList 0 _ from rfl, this] at hl
                  simp at hl
                · cases hvs
              have hnew := setAt_rws hg fun l hl => hvsr l (rwsL_mem (List.mem_of_getElem? hold) hl)
              intro l hl
              have hset : ∀ (us : List AV) (j : Nat), (∀ l ∈ AV.rwsL us, l ∈ v.rws) → ∀ l ∈ AV.rwsL (us.set j new), l ∈ v.rws := by
                intro us
                induction us with
                | nil => intro j hu l hl; simp [AV.rwsL] at hl
                | cons u r ih =>
                  intro j hu l hl
                  cases j with
                  | zero =>
                    simp only [List.set_cons_zero, AV.rwsL, List.mem_append] at hl
                    rcases hl with hl | hl
                    · exact hnew l hl
                    · exact hu l (by simp [AV.rwsL, hl])
                  | succ j =>
                    simp only [List.set_cons_succ, AV.rwsL, List.mem_append] at hl
                    rcases hl with hl | hl
                    · exact hu l (by simp [AV.rwsL, hl])
                    · exact ih j (fun l hl => hu l (by simp [AV.rwsL, hl])) l hl
              exact hset vs i hvsr l hl
            · cases h2
          · cases h
        · cases h
      · cases h
    · cases h
end
end Go.Am
