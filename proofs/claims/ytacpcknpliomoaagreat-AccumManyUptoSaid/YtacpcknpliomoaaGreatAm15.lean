/- The abstract machine, part 15: slice literals, append, calls. -/
import Derived.Test.YtacpcknpliomoaaGreatAm14
set_option linter.unusedVariables false
set_option linter.unusedSimpArgs false
namespace Go.Am
open Go.RowKit
section
variable {P : Program} {n : Nat} {o : Oper} {σ τ : St} {x y : Operand} {v : AV} {T : TypeId} {R : Type} {E : Env} {k : Dl → Option R} {r : R}

theorem compat_agg {T T' : TypeId} (h : compat P T T' = true) : aggT P T = aggT P T' := by
  unfold compat at h
  rw [Bool.or_eq_true] at h
  rcases h with h | h
  · rw [beq_eq h]
  · unfold aggT
    split at h
    · rename_i h1 h2; rw [h1, h2]
    · rename_i h1 h2; rw [h1, h2]
    · rename_i h1 h2; rw [h1, h2]
    · rename_i h1 h2; rw [h1, h2]
    · cases h
theorem RV.compat {ok : Nat → Prop} {w : World} {β : Nat → Option Value} {z : Value} {d : Dt} {T' : TypeId} (h : RV P ok w β (.dat T d) z) (hc : Am.compat P T T' = true) : RV P ok w β (.dat T' d) z := by
  have he := compat_agg hc
  cases ha : aggT P T with
  | true =>
    obtain ⟨cs, e, q⟩ := (RV.dat_agg ha).1 h
    exact (RV.dat_agg (by rw [← he]; exact ha)).2 ⟨cs, e, q.compat hc⟩
  | false => exact (RV.dat_one (by rw [← he]; exact ha)).2 (((RV.dat_one ha).1 h).compat hc)
theorem datL_ev {D : List TypeId} {Te : TypeId} {τ : St} : ∀ {xs : List Operand} {ds : List Dt}, (∀ z ∈ xs, Ev P τ z (opd P D σ Te z)) → datL P τ.hs Te (xs.map (opd P D σ Te)) = some ds → EvL P τ Te xs ds
  | [], ds, _, h => by
    have h' : some [] = some ds := by simpa [datL] using h
    cases h'
    exact .nil
  | z :: xs, ds, hev, h => by
    simp only [List.map_cons] at h
    unfold datL at h
    split at h
    · rename_i T' d hp
      obtain ⟨hc, h2⟩ := bif_some h
      split at h2
      · rename_i ds' hds
        cases h2
        refine .cons ?_ (datL_ev (fun u hu => hev u (by simp [hu])) hds)
        have := Ev.pk (hev z (by simp)) hp
        exact fun ok0 w0 n a w β r => (this _ _ _ _ _ _ r).compat (and_l hc)
      · cases h2
    · cases h
theorem datL_sz {hs : List Ob} {Te : TypeId} {vs : List AV} {ds : List Dt} (h : datL P hs Te vs = some ds) (hne : vs ≠ []) : ∀ d', szB P Te (.dat Te d') = true := by
  cases vs with
  | nil => exact absurd rfl hne
  | cons v r =>
    unfold datL at h
    split at h
    · rename_i T' d hp
      obtain ⟨hc, h2⟩ := bif_some h
      intro d'
      exact and_r hc
    · cases h
theorem datL_agr {hs hs' : List Ob} {Te : TypeId} : ∀ {vs : List AV}, (∀ l ∈ AV.rwsL vs, lk hs' l = lk hs l) → datL P hs' Te vs = datL P hs Te vs
  | [], _ => rfl
  | v :: r, h => by
    unfold datL
    rw [pk_agr (hs := hs) (hs' := hs') v fun l hl => h l (by simp [AV.rwsL, hl]), datL_agr (vs := r) fun l hl => h l (by simp [AV.rwsL, hl])]
theorem dense_zip : ∀ {j : Nat} {parts : List (Nat × Operand)}, dense j parts = true → parts = ((parts.map (·.2)).zipIdx j).map fun p => (p.2, p.1)
  | _, [], _ => rfl
  | j, (i, x) :: r, h => by
    simp only [dense] at h
    have e := beq_eq (and_l h)
    subst e
    have ih := dense_zip (and_r h)
    simp only [List.map_cons, List.zipIdx_cons]
    rw [← ih]
theorem datL_nil {hs : List Ob} {Te : TypeId} : ∀ {vs : List AV} {ds : List Dt}, datL P [] Te vs = some ds → datL P hs Te vs = some ds
  | [], _, h => h
  | v :: r, ds, h => by
    unfold datL at h ⊢
    split at h
    · rename_i T d hp
      rw [pk_nil v hp]
      obtain ⟨hc, h2⟩ := bif_some h
      split at h2
      · rename_i ds' hds
        cases h2
        simp only [hc, cond_true, datL_nil hds]
      · cases h2
    · cases h
theorem s_buildArr {parts : Array (Nat × Operand)} {len : Nat} {Te : TypeId} {zi : TypeInfo} {za : Value} {ds : List Dt} (ho : o.op = .build T parts) (hu : P.underlying T = some (.array len Te)) (hzi : P.info? T = some zi) (hza : zi.zero = some za)
    (hds : datL P [] Te ((parts.toList.map (·.2)).map (opd P E.dt σ Te)) = some ds) (hc : (dense 0 parts.toList && (Nat.beq len parts.toList.length && (!Nat.beq len 0 && (!Nat.beq (P.cellsOf Te) 0 && (Nat.beq za.cells.size (len * P.cellsOf Te) && Nat.beq (P.cellsOf T) (len * P.cellsOf Te)))))) = true)
    (h : out n o (.dat T (.lst ds)) [] [] k = some r) : OpS P n o σ k r := by
  have hmem : ∀ z ∈ parts.toList.map (·.2), z ∈ o.op.operands.toList := by
    intro z hz
    rw [ho]
    simpa [Op.operands] using hz
  have hlen : len = (parts.toList.map (·.2)).length := by rw [List.length_map]; exact beq_eq (and_l (and_r hc))
  have hpos : parts.toList.map (·.2) ≠ [] := by
    intro e
    rw [e] at hlen
    exact nbeq (and_l (and_r (and_r hc))) hlen
  have hsz := datL_sz hds (by simpa using hpos)
  refine val_s h fun σ' ag d hd hn => op_buildArr ho hd hn hu hzi hza (beq_eq (and_l (and_r (and_r (and_r (and_r hc)))))) (beq_eq (and_r (and_r (and_r (and_r (and_r hc)))))) (nbeq (and_l (and_r (and_r (and_r hc))))) (dense_zip (and_l hc)) hlen
    (datL_ev (fun z hz => ev_at ag (hmem z hz)) (datL_nil hds)) (fun d' => (szB_some (hsz d')).2.2.2.2)
theorem s_build2 {parts : Array (Nat × Operand)} (ho : o.op = .build T parts) (h : evBuild2 P E n o σ T parts.toList k = some r) : OpS P n o σ k r := by
  unfold evBuild2 at h
  split at h
  · exact s_build ho h
  · unfold evBuildA at h
    split at h
    · rename_i len Te hu
      split at h
      · rename_i zi hzi
        split at h
        · rename_i za hza
          split at h
          · rename_i ds hds
            have hh_ := bif_some h
            clear h
            obtain ⟨hc, h⟩ := hh_
            exact s_buildArr ho hu hzi hza hds hc h
          · cases h
        · cases h
      · cases h
    · cases h
theorem s_buildSlice {len : Nat} {parts : Array (Nat × Operand)} (ho : o.op = .buildSlice T len parts) (h : evBuildSlice P E n o σ T len parts.toList k = some r) : OpS P n o σ k r := by
  unfold evBuildSlice at h
  split at h
  · rename_i Te hTe
    split at h
    · rename_i z hz
      split at h
      · rename_i ds hds
        have hh_ := bif_some h
        clear h
        obtain ⟨hc, h⟩ := hh_
        have hh_ := new_some h
        clear h
        obtain ⟨hk0, h⟩ := hh_
        obtain ⟨d, hd, hn, hk⟩ := out_some h
        refine ⟨_, hk, fun σ' ag => ?_⟩
        have hmap : (parts.toList.map fun p => opd P E.dt σ Te p.2) = (parts.toList.map (·.2)).map (opd P E.dt σ Te) := by rw [List.map_map]; rfl
        rw [hmap] at hds hk ⊢
        rw [hmap] at ag
        have hagr : ∀ l ∈ AV.rwsL ((parts.toList.map (·.2)).map (opd P E.dt σ Te)), lk σ'.hs l = lk σ.hs l := fun l hl => ag.hs l (List.mem_cons_of_mem _ hl)
        have hfw := frzW_agr hagr
        have hmem : ∀ z ∈ parts.toList.map (·.2), z ∈ o.op.operands.toList := by
          intro z hz
          rw [ho]
          simpa [Op.operands] using hz
        have hds' : datL P (wrO σ'.hs (frzW σ'.hs (AV.rwsL ((parts.toList.map (·.2)).map (opd P E.dt σ Te))))) Te ((parts.toList.map (·.2)).map (opd P E.dt σ Te)) = some ds := by
          rw [← hds, hfw]
          exact datL_agr fun l hl => wrO_agr hagr l hl
        have hlen : len = (parts.toList.map (·.2)).length := by rw [List.length_map]; exact beq_eq (and_l (and_r hc))
        have hpos : parts.toList.map (·.2) ≠ [] := by
          intro e
          rw [e] at hlen
          exact nbeq (and_l (and_r (and_r hc))) hlen
        have hsz := datL_sz hds (by simpa using hpos)
        have key := (op_buildSlice (σ := St.mk σ'.ts (wrO σ'.hs (frzW σ'.hs (AV.rwsL ((parts.toList.map (·.2)).map (opd P E.dt σ Te))))) σ'.k0) (l := σ.hs.length) (ds := ds) ho hd hn (slE_some hTe) (by
            refine frzW_free ?_
            rw [ag.hs _ (by simp)]
            exact free_end σ) (by show σ'.k0 ≤ _; rw [ag.k0]; exact hk0) (zeroD_sound hz) (nbeq (and_l (and_r (and_r (and_r hc))))) (dense_zip (and_l hc)) hlen hpos
            (Nat.le_of_ble_eq_true (and_r (and_r (and_r (and_r hc))))) (datL_ev (fun z hz => ev_imp ag (hmem z hz)) hds') (fun d' => (szB_some (hsz d')).2.2.2.2)).pre (Imp.frzW (σ := σ') (AV.rwsL ((parts.toList.map (·.2)).map (opd P E.dt σ Te))))
        rw [hd]
        have hfin : St.mk (putD σ'.ts (some d) (some (.row σ.hs.length))) (wrO σ'.hs (frzW σ.hs (AV.rwsL ((parts.toList.map (·.2)).map (opd P E.dt σ Te))) ++ [(σ.hs.length, .row T ds)])) σ'.k0 =
            ((St.mk σ'.ts (wrO σ'.hs (frzW σ'.hs (AV.rwsL ((parts.toList.map (·.2)).map (opd P E.dt σ Te))))) σ'.k0).lay σ.hs.length (.row T ds)).put d (.row σ.hs.length) := by
          rw [wrO_app, hfw]; rfl
        show OpOK P n o σ' (St.mk _ _ _)
        rw [hfin]
        exact key
      · cases h
    · cases h
  · cases h

/-- What an append has as its source. -/
theorem src_of {Te : TypeId} {vy : AV} {rd : List Nat} {ds : List Dt} (h : (match vy with
      | .row l => match lk σ.hs l with
        | .row T5 ds => bif elemOK P T5 Te then some ([l], ds) else none
        | .frz T5 ds => bif elemOK P T5 Te then some ([l], ds) else none
        | _ => none
      | v => match lval P [] v with
        | some (_, Te', ds) => bif Nat.beq Te' Te then some ([], ds) else none
        | none => none : Option (List Nat × List Dt)) = some (rd, ds)) (τ : St) (hev : Ev P τ y vy) (hag : ∀ l ∈ rd, lk τ.hs l = lk σ.hs l) : SrcOK P τ y Te ds := by
  split at h
  · rename_i l
    split at h
    · rename_i T5 ds' hl
      obtain ⟨hc, h2⟩ := bif_some h
      cases h2
      exact .row hev (by rw [hag l (by simp)]; exact hl) (elemOK_some hc).1
    · rename_i T5 ds' hl
      obtain ⟨hc, h2⟩ := bif_some h
      cases h2
      exact .lst (elemOK_some hc).1 (hev.frz (by rw [hag l (by simp)]; exact hl))
    · cases h
  · split at h
    · rename_i Tx Te' ds' hl
      obtain ⟨hc, h2⟩ := bif_some h
      cases h2
      obtain ⟨d1, hp, u1, rfl⟩ := lval_some hl
      have e := beq_eq hc
      subst e
      exact .lst u1 ((Ev.pk hev (pk_nil _ hp)).clst u1)
    · cases h

theorem append_nil {d l l' : Nat} {Te T5 T0 : TypeId} {ds : List Dt} {z : Dt} (ho : o.op = .call { callee := .builtin .append, args := #[x, y], argTypes := #[T, T] }) (hd : o.dst = some d) (hn : d < n) (hu : P.underlying T = some (.slice Te)) (hu5 : P.underlying T5 = some (.slice Te))
    (hz : Zero P Te z) (h0 : P.cellsOf Te ≠ 0) (hbd : ds.length * P.bytesOf Te ≤ 140737488355328) (hx : Ev P σ x (.nils T0)) (hfl : lk σ.hs l = .free) (hkl : σ.k0 ≤ l) (hf : lk σ.hs l' = .free) (hll : l' ≠ l) (hk0 : σ.k0 ≤ l') (hy : SrcOK P σ y Te ds) (hlim : ds.length ≤ 137438953472) :
    OpOK P n o σ (((σ.lay l .gone).lay l' (.row T5 ds)).put d (.row l')) := by
  rintro ok0 w0 a w ⟨β, r⟩ K Q hK
  have ex : a.eval x = .slice none 0 0 := by
    have h1 := (hx _ _ _ _ _ _ r).2 rfl
    generalize a.eval x = q at h1
    cases h1 with
    | nils => rfl
  have r1 := r.nilrow hu5 hfl hkl
  -- the source is the same with the new name
  have hy1 := hy _ _ _ _ _ _ r
  obtain ⟨A, c, ys, ey, hyl, hyone, hyc, hynone, hyrd⟩ := hy1
  have hob0 := r1.hs l
  have hl1 : lk (σ.lay l (.row T5 [])).hs l = .row T5 [] := lk_same _ _ _
  rw [hl1, upB_same] at hob0
  have key := append_core (σ := σ.lay l (.row T5 [])) (l := l) (l' := l') (E := Te) (T5 := T5) (es := []) (ds := ds) ho hd hn hu hu5 hz h0 (by simpa using hbd) r1 (by rw [ex]; exact upB_same _ _ _) hl1
    (by show lk (setO σ.hs l _) l' = _; rw [lk_other _ _ _ _ hll]; exact hf) hk0 ey hyl hyone hyc hynone (fun i d' hd' => (hyrd i d' hd').mono (fun b hb => ⟨⟨hb.1, hb.2.1, fun j hj => ?_⟩, rfl⟩)) (by simpa using hlim) K Q (fun a' w' r' => hK a' w' ?_)
  · exact key
  · obtain ⟨q1, z', q2, q3⟩ := hj
    by_cases hjl : j = l
    · subst hjl
      rw [upB_same] at q2
      cases q2
      simp [Blk, blk] at q3
    · rw [upB_other _ _ _ _ hjl] at q2
      have q1' : (lk (setO σ.hs l (.row T5 [])) j).isOwn = true := q1
      rw [lk_other _ _ _ _ hjl] at q1'
      exact hb.2.2 j ⟨q1', z', q2, q3⟩
  · have hcongr : Imp P n ((((σ.lay l (.row T5 [])).lay l .gone).lay l' (.row T5 ([] ++ ds))).put d (.row l')) (((σ.lay l .gone).lay l' (.row T5 ds)).put d (.row l')) := by
      refine Rel.congr (fun j => .inr rfl) (fun j => ?_) rfl
      show lk (setO (setO σ.hs l .gone) l' _) j = lk (setO (setO (setO σ.hs l (.row T5 [])) l .gone) l' _) j
      rw [lk_set, lk_set, lk_set, lk_set, lk_set]
      simp only [List.nil_append]
      split
      · rfl
      · split <;> rfl
    exact hcongr _ _ _ _ r'
theorem s_append {xs : Array Operand} {Ts : Array TypeId} {T' : TypeId} (ho : o.op = .call ⟨.builtin .append, xs, Ts⟩) (hxs : xs.toList = [x, y]) (hTs : Ts.toList = [T, T']) (h : evAppend P n o σ T T' (opd P E.dt σ T x) (opd P E.dt σ T' y) k = some r) : OpS P n o σ k r := by
  have hxs' := two hxs
  have hTs' := two hTs
  subst hxs' hTs'
  have hx : x ∈ o.op.operands.toList := by rw [ho]; simp [Op.operands, Call.operands]
  have hy : y ∈ o.op.operands.toList := by rw [ho]; simp [Op.operands, Call.operands]
  unfold evAppend at h
  split at h
  · rename_i Te z hTe hz
    rw [hTe] at hz
    have hh_ := bif_some h
    clear h
    obtain ⟨hc, h⟩ := hh_
    have e := beq_eq (and_l hc)
    subst e
    have h0 := nbeq (and_r hc)
    split at h
    · rename_i rd ds hsrc
      split at h
      · rename_i l e1
        split at h
        · rename_i T5 es hl
          have hh_ := bif_some h
          clear h
          obtain ⟨hc5, h⟩ := hh_
          have hh_ := new_some h
          clear h
          obtain ⟨hk0, h⟩ := hh_
          have hh_ := appK_some h
          clear h
          obtain ⟨rs, hrs, h⟩ := hh_
          obtain ⟨p1, p2, p3⟩ := appB_some hrs
          subst p2
          obtain ⟨d, hd, hn, hk⟩ := out_some h
          refine ⟨_, hk, fun σ' ag => ?_⟩
          have key := op_append (σ := σ') (l := l) (l' := σ.hs.length) ho hd hn (slE_some hTe) (elemOK_some hc5).1 (zeroD_sound hz) h0 p3 (ev_is ag hx e1) (by rw [ag.hs l (by simp)]; exact hl) (by rw [ag.hs _ (by simp)]; exact free_end σ) (by rw [ag.k0]; exact hk0)
            (src_of hsrc σ' (ev_at ag hy) fun l2 hl2 => ag.hs l2 (by simp [hl2])) p1
          rw [hd]
          exact key
        · rename_i T5 T2 c kk es hl
          split at h
          · rename_i T4 ls hlk
            have hh_ := bif_some h
            clear h
            obtain ⟨hc, h⟩ := hh_
            have hc5 := and_l hc
            have f1 := beq_eq (and_l (and_r hc))
            subst f1
            have hpl : ∀ e ∈ ds, lkd c e = false := fun e he => by simpa using List.all_eq_true.1 (and_r (and_r hc)) e he
            have hh_ := new_some h
            clear h
            obtain ⟨hk0, h⟩ := hh_
            have hh_ := appK_some h
            clear h
            obtain ⟨rs, hrs, h⟩ := hh_
            obtain ⟨p1, p2, p3⟩ := appB_some hrs
            subst p2
            obtain ⟨d, hd, hn, hk⟩ := out_some h
            refine ⟨_, hk, fun σ' ag => ?_⟩
            have key := op_appendD (σ := σ') (l := l) (l' := σ.hs.length + 1) (q := σ.hs.length) ho hd hn (slE_some hTe) (elemOK_some hc5).1 (zeroD_sound hz) h0 p3 (ev_is ag hx e1) (by rw [ag.hs l (by simp)]; exact hl) (by rw [ag.hs kk (by simp)]; exact hlk)
              (by rw [ag.hs _ (by simp)]; exact lk_end _ _ (by omega)) (by rw [ag.k0]; omega) (by rw [ag.hs _ (by simp)]; exact free_end σ) (by rw [ag.k0]; exact hk0) (by omega)
              (src_of hsrc σ' (ev_at ag hy) fun l2 hl2 => ag.hs l2 (by simp [hl2])) hpl p1
            rw [hd]
            exact key
          · cases h
        · cases h
      · rename_i T5 e1
        have hh_ := bif_some h
        clear h
        obtain ⟨hc5, h⟩ := hh_
        have hh_ := new_some h
        clear h
        obtain ⟨hk0, h⟩ := hh_
        have hh_ := appK_some h
        clear h
        obtain ⟨rs, hrs, h⟩ := hh_
        obtain ⟨p1, p2, p3⟩ := appB_some hrs
        simp only [List.nil_append] at p2
        subst p2
        obtain ⟨d, hd, hn, hk⟩ := out_some h
        refine ⟨_, hk, fun σ' ag => ?_⟩
        have key := append_nil (σ := σ') (l := σ.hs.length) (l' := σ.hs.length + 1) ho hd hn (slE_some hTe) (elemOK_some hc5).1 (zeroD_sound hz) h0 (by simpa using p3) (ev_is ag hx e1) (by rw [ag.hs _ (by simp)]; exact free_end σ) (by rw [ag.k0]; exact hk0)
          (by rw [ag.hs _ (by simp)]; exact lk_end _ _ (by omega)) (by omega) (by rw [ag.k0]; omega) (src_of hsrc σ' (ev_at ag hy) fun l2 hl2 => ag.hs l2 (by simp [hl2])) (by simpa using p1)
        rw [hd]
        exact key
      · cases h
    · cases h
  · cases h
theorem elsA_some {Te : TypeId} {ob : Ob} {vs : List AV} (h : elsA P Te ob = some vs) : RowIs P Te ob vs := by
  cases ob with
  | row T es =>
    obtain ⟨h1, h2⟩ := bif_some (show (bif elemOK P T Te then some (es.map (.dat Te)) else none) = some vs from h)
    cases h2
    exact .inl ⟨T, es, rfl, (elemOK_some h1).1, rfl⟩
  | rowA T us =>
    obtain ⟨h1, h2⟩ := bif_some (show (bif elemOK P T Te then some us else none) = some vs from h)
    cases h2
    exact .inr ⟨T, rfl, (elemOK_some h1).1⟩
  | _ => cases h
theorem rowD1_some {ob : Ob} {T5 T2 kk : Nat} {es : List Dt} (h : rowD1 ob = some (T5, T2, kk, es)) : ob = .rowD T5 T2 none kk es none := by
  unfold rowD1 at h
  split at h
  · cases h; rfl
  · cases h
theorem oneA_some {ob : Ob} {T m : Nat} (h : oneA ob = some (T, m)) : ob = .rowA T [.row m] := by
  unfold oneA at h
  split at h
  · cases h; rfl
  · cases h
theorem s_appendR {l l2 T5 T2 kk Tr m : Nat} {es : List Dt} {xs : Array Operand} {Ts : Array TypeId} {T' : TypeId} (ho : o.op = .call ⟨.builtin .append, xs, Ts⟩) (hxs : xs.toList = [x, y]) (hTs : Ts.toList = [T, T']) (e1 : opd P E.dt σ T x = .row l) (e2 : opd P E.dt σ T' y = .row l2)
    (hl : lk σ.hs l = .rowD T5 T2 none kk es none) (hl2 : lk σ.hs l2 = .rowA Tr [.row m]) (h : evAppendR P n o σ T T' l l2 T5 T2 kk es Tr m k = some r) : OpS P n o σ k r := by
  have hxs' := two hxs
  have hTs' := two hTs
  subst hxs' hTs'
  have hx : x ∈ o.op.operands.toList := by rw [ho]; simp [Op.operands, Call.operands]
  have hy : y ∈ o.op.operands.toList := by rw [ho]; simp [Op.operands, Call.operands]
  unfold evAppendR at h
  split at h
  · rename_i Te z hTe hz
    rw [hTe] at hz
    split at h
    · rename_i T4 ls E2 hlk hE2
      have hh_ := bif_some h
      clear h
      obtain ⟨hc, h⟩ := hh_
      have c1 := beq_eq (and_l hc)
      have hc := and_r hc
      have c2 := beq_eq (and_l hc)
      have hc := and_r hc
      have c3 := beq_eq (and_l hc)
      have hc := and_r hc
      have c5 := elemOK_some (and_l hc)
      have hc := and_r hc
      have cr := elemOK_some (and_l hc)
      have hc := and_r hc
      have c0 := beq_eq (and_l hc)
      have hc := and_r hc
      have cb := Nat.le_of_ble_eq_true (and_l hc)
      have cl := Nat.le_of_ble_eq_true (and_r hc)
      subst c1 c2 c3
      have hh_ := new_some h
      clear h
      obtain ⟨hk0, h⟩ := hh_
      obtain ⟨d, hd, hn, hk⟩ := out_some h
      refine ⟨_, hk, fun σ' ag => ?_⟩
      have hu2 := slE_some hE2
      have hh : HoleAt P T4 none T4 0 := ⟨c0, by rw [c0]; exact Nat.one_pos, .inl ⟨rfl, rfl, rfl⟩⟩
      have key := op_appendR (σ := σ') (l := l) (l2 := l2) (l' := σ.hs.length + 1) (q := σ.hs.length) ho hd hn (slE_some hTe) c5.1 hh hu2 (zeroD_sound hz) (by rw [c0]; exact Nat.one_ne_zero) (by
          have := Nat.mul_le_mul cl cb
          omega) (ev_is ag hx e1) (by rw [ag.hs l (by simp)]; exact hl) (by rw [ag.hs kk (by simp)]; exact hlk)
        (by rw [ag.hs _ (by simp)]; exact lk_end _ _ (by omega)) (by rw [ag.k0]; omega) (by rw [ag.hs _ (by simp)]; exact free_end σ) (by rw [ag.k0]; exact hk0) (by omega)
        (ev_is ag hy e2) (by rw [ag.hs l2 (by simp)]; exact hl2) cr.1 (elem_none (m := m) hu2 c0) cl
      rw [hd]
      exact key
    · cases h
  · cases h
theorem s_append2 {xs : Array Operand} {Ts : Array TypeId} {T' : TypeId} (ho : o.op = .call ⟨.builtin .append, xs, Ts⟩) (hxs : xs.toList = [x, y]) (hTs : Ts.toList = [T, T']) (h : evAppend2 P n o σ T T' (opd P E.dt σ T x) (opd P E.dt σ T' y) k = some r) : OpS P n o σ k r := by
  unfold evAppend2 at h
  split at h
  · rename_i l l2 e1 e2
    split at h
    · rename_i T5 T2 kk es Tr m q1 q2
      exact s_appendR ho hxs hTs e1 e2 (rowD1_some q1) (oneA_some q2) h
    cases hb : (isRA (lk σ.hs l2) || isRA (lk σ.hs l)) with
    | false =>
      rw [hb, cond_false] at h
      exact s_append ho hxs hTs (by rw [e1, e2]; exact h)
    | true =>
      rw [hb, cond_true] at h
      have hxs' := two hxs
      have hTs' := two hTs
      subst hxs' hTs'
      have hx : x ∈ o.op.operands.toList := by rw [ho]; simp [Op.operands, Call.operands]
      have hy : y ∈ o.op.operands.toList := by rw [ho]; simp [Op.operands, Call.operands]
      unfold evAppendA at h
      split at h
      · rename_i Te z hTe hz
        rw [hTe] at hz
        have hh_ := bif_some h
        clear h
        obtain ⟨hc, h⟩ := hh_
        have e := beq_eq (and_l hc)
        subst e
        split at h
        · rename_i es ds h1 h2
          have hh_ := bif_some h
          clear h
          obtain ⟨hl, h⟩ := hh_
          have hh_ := new_some h
          clear h
          obtain ⟨hk0, h⟩ := hh_
          obtain ⟨d, hd, hn, hk⟩ := out_some h
          refine ⟨_, hk, fun σ' ag => ?_⟩
          have key := op_appendA (σ := σ') (l := l) (l2 := l2) (l' := σ.hs.length) ho hd hn (slE_some hTe) (zeroD_sound hz) (nbeq (and_l (and_r hc))) (Nat.le_of_ble_eq_true (and_r (and_r hc))) (ev_is ag hx e1) (ag.hs l (by simp)) (elsA_some h1) (by rw [ag.hs _ (by simp)]; exact free_end σ) (by rw [ag.k0]; exact hk0) (ev_is ag hy e2) (ag.hs l2 (by simp)) (elsA_some h2) (Nat.le_of_ble_eq_true hl)
          rw [hd]
          exact key
        · cases h
      · cases h
  · exact s_append ho hxs hTs h
theorem evLA_of {D : List TypeId} {Te : TypeId} {τ : St} : ∀ {xs : List Operand}, (∀ z ∈ xs, Ev P τ z (opd P D σ Te z)) → (xs.all fun z => szB P Te (opd P D σ Te z)) = true → EvLA P τ Te xs (xs.map (opd P D σ Te))
  | [], _, _ => .nil
  | z :: xs, hev, h => by
    simp only [List.all_cons, Bool.and_eq_true] at h
    obtain ⟨q1, q2, _, _, q5⟩ := szB_some h.1
    exact .cons (hev z (by simp)) q1 q2 q5 (evLA_of (fun u hu => hev u (by simp [hu])) h.2)
theorem s_buildS2 {len : Nat} {parts : Array (Nat × Operand)} (ho : o.op = .buildSlice T len parts) (h : evBuildS2 P E n o σ T len parts.toList k = some r) : OpS P n o σ k r := by
  unfold evBuildS2 at h
  cases hb : E.nest o with
  | false => rw [hb, cond_false] at h; exact s_buildSlice ho h
  | true =>
    rw [hb, cond_true] at h
    unfold evBuildSA at h
    split at h
    · rename_i Te hTe
      split at h
      · rename_i z hz
        have hh_ := bif_some h
        clear h
        obtain ⟨hc0, h⟩ := hh_
        have hc := and_r hc0
        have hh_ := new_some h
        clear h
        obtain ⟨hk0, h⟩ := hh_
        obtain ⟨d, hd, hn, hk⟩ := out_some h
        refine ⟨_, hk, fun σ' ag => ?_⟩
        have hmem : ∀ z ∈ parts.toList.map (·.2), z ∈ o.op.operands.toList := by
          intro z hz
          rw [ho]
          simpa [Op.operands] using hz
        have hlen : len = (parts.toList.map (·.2)).length := by rw [List.length_map]; exact beq_eq (and_l (and_r hc))
        have hpos : parts.toList.map (·.2) ≠ [] := by
          intro e
          rw [e] at hlen
          exact nbeq (and_l (and_r (and_r hc))) hlen
        have key := op_buildSA (σ := σ') (l := σ.hs.length) ho hd hn (slE_some hTe) (by rw [ag.hs _ (by simp)]; exact free_end σ) (by rw [ag.k0]; exact hk0) (zeroD_sound hz) (nbeq (and_l (and_r (and_r (and_r hc))))) (dense_zip (and_l hc)) hlen hpos
          (Nat.le_of_ble_eq_true (and_r (and_r (and_r (and_r hc))))) (evLA_of (D := E.dt) (σ := σ) (fun z hz => ev_at ag (hmem z hz)) (and_l hc0))
        rw [hd]
        exact key
      · cases h
    · cases h
theorem bset_or {A : Type} {b : Bool} {u v : Option A} {q : A} (h : (bif b then u else v) = some q) : (b = true ∧ u = some q) ∨ (b = false ∧ v = some q) := by
  cases b
  · exact .inr ⟨rfl, h⟩
  · exact .inl ⟨rfl, h⟩
theorem s_appendS {xs : Array Operand} {Ts : Array TypeId} {T' : TypeId} (ho : o.op = .call ⟨.builtin .append, xs, Ts⟩) (hxs : xs.toList = [x, y]) (hTs : Ts.toList = [T, T']) (h : evAppendS P n o σ T T' (opd P E.dt σ T x) (opd P E.dt σ T' y) k = some r) : OpS P n o σ k r := by
  have hxs' := two hxs
  have hTs' := two hTs
  subst hxs' hTs'
  have hx : x ∈ o.op.operands.toList := by rw [ho]; simp [Op.operands, Call.operands]
  have hy : y ∈ o.op.operands.toList := by rw [ho]; simp [Op.operands, Call.operands]
  unfold evAppendS at h
  split at h
  · rename_i Te hTe
    obtain ⟨hc, h⟩ := bif_some h
    have hu8 := and_l hc
    have hS := isS_some (and_r hc)
    unfold u8B at hu8
    have he := isI_some (and_l hu8)
    have hinf := and_r hu8
    split at hinf
    · rename_i i hi
      have h1 := beq_eq (and_l hinf)
      have h2 := beq_eq (and_l (and_r hinf))
      have h3 := and_r (and_r hinf)
      split at h3
      · rename_i m hm
        have hm0 : m = 0 := of_decide_eq_true h3
        subst hm0
        split at h
        · rename_i T2 s e2
          obtain ⟨d1, e3, u2, rfl⟩ := sval_some e2
          split at h
          · rename_i l e1
            split at h
            · rename_i T5 es hl
              obtain ⟨hc5, h⟩ := bif_some h
              obtain ⟨hk0, h⟩ := new_some h
              obtain ⟨rs, hrs, h⟩ := Option.bind_eq_some_iff.1 h
              obtain ⟨p1, p2⟩ := app_some hrs
              subst p2
              obtain ⟨d, hd, hn, hk⟩ := out_some h
              refine ⟨_, hk, fun σ' ag => ?_⟩
              have key := op_append_str (σ := σ') (l := l) (l' := σ.hs.length) ho hd hn (slE_some hTe) (elemOK_some hc5).1 hS u2 he hi hm h1 h2 (ev_is ag hx e1) (by rw [ag.hs l (by simp)]; exact hl) (by rw [ag.hs _ (by simp)]; exact free_end σ) (by rw [ag.k0]; exact hk0) ((ev_is ag hy e3).cstr u2) p1
              rw [hd]
              exact key
            · cases h
          · cases h
        · cases h
      · cases h3
    · cases hinf
  · cases h
theorem s_convB {S1 S2 Te : TypeId} (ho : o.op = .convert S1 S2 x) (hTe : slE P S1 = some Te) (h : evConvB P n o σ Te S2 (opd P E.dt σ S1 x) k = some r) : OpS P n o σ k r := by
  have hx : x ∈ o.op.operands.toList := by rw [ho]; simp [Op.operands]
  unfold evConvB at h
  obtain ⟨hc, h⟩ := bif_some h
  have he := isI_some (and_l hc)
  have hc1 := beq_eq (and_l (and_r hc))
  have hS := isS_some (and_r (and_r hc))
  split at h
  · rename_i rd ds hsrc
    obtain ⟨s, hs, h⟩ := Option.bind_eq_some_iff.1 h
    unfold bstr at hs
    obtain ⟨hb, hs⟩ := bif_some hs
    have hlen := Nat.le_of_ble_eq_true hb
    cases hs
    obtain ⟨d, hd, hn, hk⟩ := out_some h
    refine ⟨_, hk, fun σ' ag => ?_⟩
    have key := op_conv_bytes (σ := σ') ho hd hn (slE_some hTe) hS he hc1 (src_of hsrc σ' (ev_at ag hx) fun l2 hl2 => ag.hs l2 (by simp [hl2])) hlen
    rw [hd]
    exact key
  · cases h
end
end Go.Am
