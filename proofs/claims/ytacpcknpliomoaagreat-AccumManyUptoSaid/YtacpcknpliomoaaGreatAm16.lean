/- The abstract machine, part 16: calls. -/
import Derived.Test.YtacpcknpliomoaaGreatAm15
set_option linter.unusedVariables false
set_option linter.unusedSimpArgs false
namespace Go.Am
open Go.RowKit

def CallOK {R : Type} (P : Program) (call : FuncId → List AV → List Ob → (Res → Option R) → Option R) : Prop := ∀ f args objs K r, call f args objs K = some r → ∃ q : Res, K q = some r ∧ FX P f args objs q.1 q.2 ∧ HasBody P f

theorem backW_rest {ρ : Nat → Option Nat} {c : Nat} : ∀ {os : List Ob} {src : List Nat} {nm : Nat} {hs : List Ob}, c ∉ src → ¬ (nm ≤ c ∧ c < nm + (os.length - src.length)) → lk (wrO hs (backW ρ nm src os)) c = lk hs c
  | [], src, nm, hs, _, _ => by cases src <;> rfl
  | o :: os, [], nm, hs, h1, h2 => by
    simp only [backW, wrO]
    rw [backW_rest (by simp) (by simp only [List.length_cons, List.length_nil] at h2 ⊢; omega), lk_other]
    intro e; subst e; simp only [List.length_cons, List.length_nil] at h2; omega
  | o :: os, l :: src, nm, hs, h1, h2 => by
    simp only [List.mem_cons, not_or] at h1
    simp only [backW, wrO]
    rw [backW_rest h1.2 (by simp only [List.length_cons] at h2 ⊢; omega), lk_other _ _ _ _ h1.1]
theorem backW_old {ρ : Nat → Option Nat} : ∀ {os : List Ob} {src : List Nat} {nm : Nat} {hs : List Ob} {i l : Nat}, src.Nodup → (∀ l ∈ src, ¬ (nm ≤ l ∧ l < nm + (os.length - src.length))) → src.length ≤ os.length → src[i]? = some l → lk (wrO hs (backW ρ nm src os)) l = (lk os i).ren ρ
  | [], src, nm, hs, i, l, _, _, h3, h4 => by
    have : src = [] := List.eq_nil_of_length_eq_zero (by simpa using h3)
    subst this
    simp at h4
  | o :: os, [], nm, hs, i, l, _, _, _, h4 => by simp at h4
  | o :: os, m :: src, nm, hs, i, l, h1, h2, h3, h4 => by
    obtain ⟨hm, hnd⟩ := List.nodup_cons.1 h1
    simp only [backW, wrO]
    cases i with
    | zero =>
      simp only [List.getElem?_cons_zero, Option.some.injEq] at h4
      subst h4
      rw [backW_rest hm (by have := h2 m (by simp); simp only [List.length_cons] at this ⊢; omega), lk_same]
      rfl
    | succ i =>
      simp only [List.getElem?_cons_succ] at h4
      rw [backW_old hnd (fun l hl => by have := h2 l (by simp [hl]); simp only [List.length_cons] at this ⊢; omega) (by simpa using h3) h4]
      rfl
theorem backW_new {ρ : Nat → Option Nat} : ∀ {os : List Ob} {src : List Nat} {nm : Nat} {hs : List Ob} {j : Nat}, (∀ l ∈ src, ¬ (nm ≤ l ∧ l < nm + (os.length - src.length))) → src.length ≤ j → j < os.length → lk (wrO hs (backW ρ nm src os)) (nm + (j - src.length)) = (lk os j).ren ρ
  | [], src, nm, hs, j, _, _, h3 => by simp at h3
  | o :: os, [], nm, hs, j, h1, h2, h3 => by
    simp only [backW, wrO]
    cases j with
    | zero =>
      simp only [List.length_nil, Nat.sub_zero, Nat.add_zero]
      rw [backW_rest (by simp) (by simp only [List.length_nil]; omega), lk_same]
      rfl
    | succ j =>
      have := backW_new (ρ := ρ) (os := os) (src := []) (nm := nm + 1) (hs := setO hs nm (o.ren ρ)) (j := j) (by simp) (by simp) (by simpa using h3)
      simp only [List.length_nil, Nat.sub_zero] at this ⊢
      rw [show nm + (j + 1) = nm + 1 + j by omega, this]
      rfl
  | o :: os, m :: src, nm, hs, j, h1, h2, h3 => by
    simp only [backW, wrO]
    cases j with
    | zero => simp at h2
    | succ j =>
      have := backW_new (ρ := ρ) (os := os) (src := src) (nm := nm) (hs := setO hs m (o.ren ρ)) (j := j) (fun l hl => by have := h1 l (by simp [hl]); simp only [List.length_cons] at this ⊢; omega) (by simpa using h2) (by simpa using h3)
      simp only [List.length_cons] at this ⊢
      rw [show nm + (j + 1 - (src.length + 1)) = nm + (j - src.length) by omega, this]
      rfl
theorem backH_of {src : List Nat} {nm : Nat} {hs os : List Ob} (h1 : src.Nodup) (h2 : ∀ l ∈ src, ¬ (nm ≤ l ∧ l < nm + (os.length - src.length))) (h3 : src.length ≤ os.length) : BackH src nm hs os (wrO hs (backW (bkN src nm) nm src os)) :=
  ⟨fun i l h => backW_old h1 h2 h3 h, fun j h4 h5 => backW_new h2 h4 h5, fun c h4 h5 => backW_rest h4 h5⟩
theorem allNames_get {hs : List Ob} : ∀ {src : List Nat}, allNames hs src = true → ∀ l ∈ src, lk hs l ≠ .free
  | [], _, l, hl => by simp at hl
  | m :: r, h, l, hl => by
    unfold allNames at h
    rcases List.mem_cons.1 hl with e | hl
    · subst e
      intro e
      have := and_l h
      rw [e] at this
      cases this
    · exact allNames_get (and_r h) l hl
theorem mem_upto {l : Nat} : ∀ {m k : Nat}, k ≤ l → l < k + m → l ∈ upto k m
  | 0, k, h1, h2 => by omega
  | m + 1, k, h1, h2 => by
    simp only [upto, List.mem_cons]
    by_cases h : l = k
    · exact .inl h
    · exact .inr (mem_upto (by omega) (by omega))
theorem wr_nil : ∀ (Ts : List TypeId) (hs : List Ob) (k : Nat), wrO hs (nilW k Ts) = layN hs k Ts
  | [], _, _ => rfl
  | T :: r, hs, k => by simp only [nilW, wrO, layN]; exact wr_nil r _ _
theorem layN_free : ∀ {Ts : List TypeId} {hs : List Ob} {k l : Nat}, k + Ts.length ≤ l → lk hs l = .free → lk (layN hs k Ts) l = .free
  | [], _, _, _, _, h => h
  | T :: r, hs, k, l, h1, h2 => by
    simp only [List.length_cons] at h1
    simp only [layN]
    refine layN_free (by omega) ?_
    rw [lk_other _ _ _ _ (by omega)]
    exact h2
theorem pick_len (ρ : Nat → Option Nat) (hs : List Ob) : ∀ src : List Nat, (pickO ρ hs src).length = src.length
  | [] => rfl
  | _ :: r => by simp [pickO, pick_len ρ hs r]
theorem pick_agr {ρ : Nat → Option Nat} {hs hs' : List Ob} : ∀ {src : List Nat}, (∀ l ∈ src, lk hs' l = lk hs l) → pickO ρ hs' src = pickO ρ hs src
  | [], _ => rfl
  | l :: r, h => by simp only [pickO]; rw [h l (by simp), pick_agr fun m hm => h m (by simp [hm])]

section
variable {P : Program} {n : Nat} {o : Oper} {σ τ : St} {x y : Operand} {v : AV} {T : TypeId} {R : Type} {E : Env} {k : Dl → Option R} {r : R} {call : FuncId → List AV → List Ob → (Res → Option R) → Option R}

theorem pack1_own (o : Ob) : (pack1 P o).isOwn = o.isOwn := by
  unfold pack1
  split
  · split
    · cases Nat.beq _ _ <;> rfl
    · rfl
  · rfl
theorem pack1_obs {ok : Nat → Prop} {w : World} {β : Nat → Option Value} {v : Option Value} {o : Ob} (h : ObOK P ok w β o v) : ObOK P ok w β (pack1 P o) v := by
  unfold pack1
  split
  · rename_i T c
    split
    · rename_i T' d hp
      cases hb : Nat.beq T' T
      · exact h
      · have e := beq_eq hb
        subst e
        obtain ⟨b, cs, h1, h2, h3, h4⟩ := h
        have hrd := pk_sound (hs := []) (fun l T es hl => by cases l <;> cases hl) h4 hp
        exact ⟨b, cs, h1, h2, h3, .dat (by rw [canD_eq hrd]; exact hrd)⟩
    · exact h
  · exact h
theorem lk_map_pack (os : List Ob) (l : Nat) : lk (os.map (pack1 P)) l = pack1 P (lk os l) := by
  induction os generalizing l with
  | nil => rfl
  | cons o r ih => cases l with
    | zero => rfl
    | succ l => exact ih l
theorem FX_packB {f : FuncId} {args : List AV} {b : Bool} {os hs' : List Ob} {res : AV} (h : FX P f args (packB P b os) res hs') : FX P f args os res hs' := by
  cases b
  · exact h
  replace h : FX P f args (os.map (pack1 P)) res hs' := h
  intro ok w β zs h1 h2 h3 h4 h5
  have hown : ∀ l b, owns (os.map (pack1 P)) β l b ↔ owns os β l b := fun l b => by simp only [owns, lk_map_pack, pack1_own]
  have hX : XO (os.map (pack1 P)) β = XO os β := by
    funext b
    apply propext
    exact ⟨fun ⟨l, hl⟩ => ⟨l, (hown l b).1 hl⟩, fun ⟨l, hl⟩ => ⟨l, (hown l b).2 hl⟩⟩
  have hc := h ok w β zs (fun b hb => by rw [hX]; exact h1 b hb) (fun l => by rw [lk_map_pack]; exact pack1_obs (h2 l)) (fun l l' b q1 q2 => h3 l l' b ((hown _ _).1 q1) ((hown _ _).1 q2)) h4 h5
  refine hc.mono ?_
  rintro e w' ⟨v, β', rfl, hf, hr⟩
  obtain ⟨f1, f2, f3, f4, f5⟩ := hf
  rw [hX, List.length_map] at f2 hr
  rw [hX] at f1
  exact ⟨v, β', rfl, ⟨f1, f2, f3, fun l b q => by have := f4 l b q; rwa [hX] at this, fun l hl => f5 l (by rw [List.length_map]; exact hl)⟩, hr⟩
theorem chgW_ok {src : List Nat} {hs : List Ob} : ∀ (ws : List (Nat × Ob)) (hs' : List Ob), (ws.map (·.1)).Nodup → (∀ l ∈ src, l ∈ ws.map (·.1) → lk hs' l = lk hs l) → ∀ l, lk (wrO hs' (chgW hs src ws)) l = lk (wrO hs' ws) l
  | [], _, _, _, _ => rfl
  | (k, o) :: r, hs', hn, ha, l => by
    simp only [List.map_cons, List.nodup_cons] at hn
    unfold chgW
    cases hb : memB k src && obEq o (lk hs k) with
    | true =>
      simp only [cond_true]
      rw [chgW_ok r hs' hn.2 (fun l h1 h2 => ha l h1 (List.mem_cons_of_mem _ h2)) l]
      have e1 : lk hs' k = o := by rw [ha k (memB_iff.1 (and_l hb)) (by simp), obEq_ok (and_r hb)]
      simp only [wrO]
      refine (wrO_agr (ls := [l]) (fun c hc => ?_) l (by simp)).symm
      rw [lk_set]
      split
      · next h => rw [h, e1]
      · rfl
    | false =>
      simp only [cond_false, wrO]
      refine chgW_ok r _ hn.2 (fun c h1 h2 => ?_) l
      rw [lk_other _ _ _ _ (fun e => hn.1 (by rw [← e]; exact h2))]
      exact ha c h1 (List.mem_cons_of_mem _ h2)
theorem keepW_ok {b : Bool} {src : List Nat} {hs hs' : List Ob} {ws : List (Nat × Ob)} (ha : ∀ l ∈ src, lk hs' l = lk hs l) (l : Nat) : lk (wrO hs' (keepW b hs src ws)) l = lk (wrO hs' ws) l := by
  unfold keepW
  cases hb : b && nodupB (ws.map (·.1)) with
  | true => exact chgW_ok ws hs' (nodupB_nodup (and_r hb)) (fun c hc _ => ha c hc) l
  | false => rfl
theorem s_tailG (hcall : CallOK P call) {f : FuncId} {as : List AV} {hs1 : List Ob} {rd0 : List Nat} {wr0 : List (Nat × Ob)} {nm : Nat} {src : List Nat}
    (h1 : hs1 = wrO σ.hs wr0) (hnm : σ.hs.length ≤ nm) (hfree : ∀ l, nm ≤ l → lk hs1 l = .free)
    (hpre : ∀ σ' rd, Agr o σ σ' (rd0 ++ rd) → (∀ l, σ.hs.length ≤ l → l < nm → l ∈ rd) → ∀ (K : OkX) (w0 : World) (a : Act) (w : World), Rel P K w0 n σ' a w → σ.k0 ≤ σ.hs.length → ∃ (β1 : Nat → Option Value) (zs : List Value), RelB P K w0 n ⟨σ'.ts, wrO σ'.hs wr0, σ'.k0⟩ a w β1 ∧ (HasBody P f → (execOp a.eval o).run P w = .ok (.enter f zs.toArray) w) ∧ RVsX P (okOf K w0 w (wrO σ'.hs wr0) β1) w β1 as zs)
    (h : callTail P E call n o σ f as hs1 rd0 wr0 nm src k = some r) : OpS P n o σ k r := by
  unfold callTail at h
  have hh_ := bif_some h
  clear h
  obtain ⟨hc, h⟩ := hh_
  have hh_ := hcall _ _ _ _ _ h
  clear h
  obtain ⟨q, h, hfx, hbody⟩ := hh_
  replace hfx := FX_packB hfx
  have hh_ := bif_some h
  clear h
  obtain ⟨hc2, h⟩ := hh_
  have hnd := nodupB_nodup (and_l hc)
  have hsf := allNames_get (and_l (and_r hc))
  have hk0 : σ.k0 ≤ σ.hs.length := Nat.le_of_ble_eq_true (and_r (and_r hc))
  have hlen := Nat.le_of_ble_eq_true (and_l hc2)
  have hsrcnew : ∀ l ∈ src, ¬ (nm ≤ l ∧ l < nm + (q.2.length - src.length)) := fun l hl hc => hsf l hl (hfree l hc.1)
  refine ⟨_, h, fun σ' ag => ?_⟩
  have hagr1 : ∀ l ∈ src ++ upto σ.hs.length ((nm - σ.hs.length) + (q.2.length - src.length)), lk (wrO σ'.hs wr0) l = lk hs1 l := by
    intro l hl
    rw [h1]
    exact wrO_agr (ls := src ++ upto σ.hs.length ((nm - σ.hs.length) + (q.2.length - src.length))) (fun l hl => ag.hs l (List.mem_append_right _ hl)) l hl
  have hobj : ∀ i l, src[i]? = some l → lk (pickO (ix src) hs1 src) i = (lk (wrO σ'.hs wr0) l).ren (ix src) := by
    intro i l hi
    rw [lk_pick, hi]
    simp only [pickAt]
    rw [hagr1 l (List.mem_append_left _ (List.mem_of_getElem? hi))]
  have hfr : ∀ j, j < q.2.length - src.length → lk (wrO σ'.hs wr0) (nm + j) = .free := by
    intro j hj
    rw [hagr1 _ (List.mem_append_right _ (mem_upto (by omega) (by omega)))]
    exact hfree _ (by omega)
  have hsf' : ∀ l ∈ src, lk (wrO σ'.hs wr0) l ≠ .free := fun l hl => by rw [hagr1 l (List.mem_append_left _ hl)]; exact hsf l hl
  intro K w0 a w rr Kt Q hK
  obtain ⟨β1, zs, r1, hrun, ha⟩ := hpre σ' _ ag (fun l h3 h4 => List.mem_append_right _ (mem_upto h3 (by omega))) K w0 a w rr hk0
  have hback := backH_of (hs := wrO σ'.hs wr0) hnd hsrcnew hlen
  refine callG_wp (σ := St.mk σ'.ts (wrO σ'.hs wr0) σ'.k0) (as := as) (res := q.1) (hrun hbody) hnd (pick_len _ _ _) hobj hfx hfr (by show σ'.k0 ≤ nm; rw [ag.k0]; omega) hsf' hback r1 ha Kt Q fun z w' β'' h3 h4 => hK _ _ ?_
  have hI : Imp P n (σ'.app o.dst ⟨o.dst.map fun _ => q.1.ren (bkN src nm), rd0 ++ (src ++ upto σ.hs.length ((nm - σ.hs.length) + (q.2.length - src.length))), wr0 ++ backW (bkN src nm) nm src q.2⟩) (σ'.app o.dst ⟨o.dst.map fun _ => q.1.ren (bkN src nm), rd0 ++ (src ++ upto σ.hs.length ((nm - σ.hs.length) + (q.2.length - src.length))), wr0 ++ keepW (E.rdo f) hs1 src (backW (bkN src nm) nm src q.2)⟩) := by
    refine Rel.congr (fun k => .inr rfl) (fun l => ?_) rfl
    unfold St.app
    simp only
    rw [wrO_app, wrO_app]
    exact keepW_ok (fun c hc => hagr1 c (List.mem_append_left _ hc)) l
  refine hI _ _ _ _ ?_
  unfold St.app
  simp only
  rw [wrO_app]
  cases hd : o.dst with
  | none => exact ⟨β'', h3⟩
  | some d =>
    have hn : d < n := by
      have := and_r hc2
      unfold dstB at this
      rw [hd] at this
      exact Nat.le_of_ble_eq_true this
    exact Rel.put h3 hn h4
theorem s_tail (hcall : CallOK P call) {g : Operand} {xs : Array Operand} {Ts : Array TypeId} {f : FuncId} {as caps : List AV} {hs1 : List Ob} {rd0 : List Nat} {wr0 : List (Nat × Ob)} {nm : Nat} {src : List Nat} (ho : o.op = .call ⟨.value g, xs, Ts⟩) (hcap : ∀ v ∈ caps, v.isAgg P = false ∧ ∀ us, v ≠ .tup us)
    (h1 : hs1 = wrO σ.hs wr0) (hnm : σ.hs.length ≤ nm) (hfree : ∀ l, nm ≤ l → lk hs1 l = .free)
    (hpre : ∀ σ' rd, Agr o σ σ' (rd0 ++ rd) → (∀ l, σ.hs.length ≤ l → l < nm → l ∈ rd) → ∀ (K : OkX) (w0 : World) (a : Act) (w : World), Rel P K w0 n σ' a w → σ.k0 ≤ σ.hs.length → ∃ β1, RelB P K w0 n ⟨σ'.ts, wrO σ'.hs wr0, σ'.k0⟩ a w β1 ∧ RV P (okOf K w0 w (wrO σ'.hs wr0) β1) w β1 (.fn f caps) (a.eval g) ∧ RVsX P (okOf K w0 w (wrO σ'.hs wr0) β1) w β1 as (xs.toList.map a.eval))
    (h : callTail P E call n o σ f (as ++ caps) hs1 rd0 wr0 nm src k = some r) : OpS P n o σ k r := by
  refine s_tailG hcall h1 hnm hfree (fun σ' rd ag hin K w0 a w rr hk0 => ?_) h
  obtain ⟨β1, r1, hg, ha⟩ := hpre σ' rd ag hin K w0 a w rr hk0
  obtain ⟨cv, ecv, hcv⟩ := fn_evalC hg hcap
  exact ⟨β1, _, r1, fun hb => run_callC (xs := xs.toList) (by rw [ho]) hb a w ecv, ha.app hcv⟩
theorem RVsX.map_pk {b : Bool} {ok : Nat → Prop} {w : World} {β : Nat → Option Value} {hs : List Ob} {vs : List AV} {zs : List Value} (hf : FrzOK P ok w β hs) (hfa : ∀ l T es, lk hs l = .frz T es → aggT P T = false) (h : RVsX P ok w β vs zs) : RVsX P ok w β (vs.map (pkA P b hs)) zs := by
  induction h with
  | nil => exact .nil
  | cons h _ ih =>
    refine .cons ?_ ih
    unfold pkA
    cases (b && isNils _) with
    | true => exact h
    | false =>
    simp only [cond_false]
    split
    · rename_i T d hp; exact h.pk hf hfa hp
    · exact h
theorem RVsX.n2r {ok : Nat → Prop} {w : World} {β : Nat → Option Value} {vs : List AV} {zs : List Value} (h : RVsX P ok w β vs zs) : ∀ k, NilB β k (AV.n2rL P vs k).2.length → RVsX P ok w β (AV.n2rL P vs k).1 zs := by
  induction h with
  | nil => intro k _; exact .nil
  | cons h _ ih =>
    intro k hb
    simp only [AV.n2rL, List.length_append] at hb ⊢
    exact .cons (h.n2r k hb.left) (ih _ hb.right)
theorem RV.dn {ok : Nat → Prop} {w : World} {β : Nat → Option Value} {v : AV} {z : Value} (h : RV P ok w β v z) : RV P ok w β (dn1 P v) z := by
  unfold dn1
  split
  · split
    · rename_i hu
      have h1 := h.2 rfl
      cases h1 with
      | nils => exact (RV.dat_one (aggT_of_not hu rfl)).2 (RD.nil hu)
    · exact h
  · exact h
theorem RVsX.dn {ok : Nat → Prop} {w : World} {β : Nat → Option Value} {vs : List AV} {zs : List Value} (ps : List Nat) (h : RVsX P ok w β vs zs) : ∀ k, RVsX P ok w β (dnL P ps k vs) zs := by
  induction h with
  | nil => intro k; exact .nil
  | cons h _ ih =>
    intro k
    refine .cons ?_ (ih _)
    cases memB k ps
    · exact h
    · exact h.dn
theorem RVsX.mono {ok ok' : Nat → Prop} {w w' : World} {β β' : Nat → Option Value} {vs : List AV} {zs : List Value} (h : RVsX P ok w β vs zs) (hk : ∀ b, ok b → ok' b ∧ w'.heap[b]? = w.heap[b]?) (hβ : Ext β β') : RVsX P ok' w' β' vs zs := by
  induction h with
  | nil => exact .nil
  | cons h _ ih => exact .cons (h.mono hk hβ) ih
theorem n2rL_sl (P : Program) : ∀ (vs : List AV) (k : Nat), ∀ T ∈ (AV.n2rL P vs k).2, ∃ E, P.underlying T = some (.slice E)
  | [], k, T, h => by simp [AV.n2rL] at h
  | v :: vs, k, T, h => by
    simp only [AV.n2rL, List.mem_append] at h
    rcases h with h | h
    · exact n2r_sl P v k T h
    · exact n2rL_sl P vs _ T h
theorem pkA_agr {b : Bool} {hs hs' : List Ob} : ∀ {vs : List AV}, (∀ l ∈ AV.rwsL vs, lk hs' l = lk hs l) → vs.map (pkA P b hs') = vs.map (pkA P b hs)
  | [], _ => rfl
  | v :: r, h => by
    simp only [List.map_cons]
    rw [pkA_agr (vs := r) fun l hl => h l (by simp [AV.rwsL, hl])]
    congr 1
    unfold pkA
    rw [pk_agr (hs := hs) (hs' := hs') v fun l hl => h l (by simp [AV.rwsL, hl])]
theorem lay_nil' : ∀ (Ts : List TypeId) (σ : St) (K : OkX) (w0 w : World) (a : Act) (β : Nat → Option Value) (k : Nat), RelB P K w0 n σ a w β → (∀ T ∈ Ts, ∃ E, P.underlying T = some (.slice E)) → (∀ i, k ≤ i → i < k + Ts.length → lk σ.hs i = .free) → σ.k0 ≤ k →
    ∃ β', RelB P K w0 n ⟨σ.ts, layN σ.hs k Ts, σ.k0⟩ a w β' ∧ Ext β β' ∧ NilB β' k Ts.length ∧ ∀ b, okOf K w0 w σ.hs β b → okOf K w0 w (layN σ.hs k Ts) β' b
  | [], σ, K, w0, w, a, β, k, r, _, _, _ => ⟨β, r, Ext.refl _, fun i h1 h2 => by simp at h2; omega, fun b hb => hb⟩
  | T :: Ts, σ, K, w0, w, a, β, k, r, hT, hf, hk => by
    obtain ⟨E, hu⟩ := hT T (by simp)
    have hfk := hf k (Nat.le_refl _) (by simp)
    have r1 := r.nilrow hu hfk hk
    obtain ⟨β', r2, e2, n2, o2⟩ := lay_nil' Ts (σ.lay k (.row T [])) K w0 w a _ (k + 1) r1 (fun T' h => hT T' (by simp [h])) (fun i hi hi2 => by
      show lk (setO σ.hs k _) i = .free
      rw [lk_other _ _ _ _ (by omega)]; exact hf i (by omega) (by simp; omega)) (by show σ.k0 ≤ k + 1; omega)
    have hb : β k = none := by have := r.hs k; rw [hfk] at this; exact this
    have e1 : Ext β (upB β k (some (.slice none 0 0))) := fun i z hz => by
      by_cases hik : i = k
      · subst hik; rw [hb] at hz; cases hz
      · rw [upB_other _ _ _ _ hik]; exact hz
    refine ⟨β', r2, e1.trans e2, fun i h1 h2 => ?_, fun b hb2 => o2 b ⟨hb2.1, hb2.2.1, fun j hj => ?_⟩⟩
    · by_cases hik : i = k
      · subst hik; exact e2 _ _ (upB_same _ _ _)
      · exact n2 i (by omega) (by simp at h2 ⊢; omega)
    · obtain ⟨q1, z', q2, q3⟩ := hj
      by_cases hjk : j = k
      · subst hjk
        rw [upB_same] at q2
        cases q2
        simp [Blk, blk] at q3
      · rw [upB_other _ _ _ _ hjk] at q2
        have q1' : (lk (setO σ.hs k (.row T [])) j).isOwn = true := q1
        rw [lk_other _ _ _ _ hjk] at q1'
        exact hb2.2.2 j ⟨q1', z', q2, q3⟩
theorem scV_any {ok ok' : Nat → Prop} {w w' : World} {β β' : Nat → Option Value} {v : AV} {z : Value} (hs : scV P v = true) (h : RV1 P ok w β v z) : RV1 P ok' w' β' v z := by
  cases v with
  | dat T d =>
    simp only [scV, scT] at hs
    have hag : aggT P T = false := by
      unfold aggT
      split at hs <;> simp_all
    have h1 := h.2 hag
    refine ⟨fun e => (by rw [show AV.isAgg P (.dat T d) = false from hag] at e; cases e), fun _ => ?_⟩
    cases h1 with
    | dat h1 =>
      refine .dat ?_
      split at hs
      · rename_i hu
        obtain ⟨e1, e2, e3, e4⟩ := h1.int_inv hu
        rw [e1, e2]; exact .int hu e3 e4
      · rename_i hu
        obtain ⟨e1, e2⟩ := h1.bool_inv hu
        rw [e1, e2]; exact .bool hu
      · rename_i hu
        obtain ⟨e1, e2, e3⟩ := h1.str_inv hu
        rw [e1, e2]; exact .str hu e3
      · cases hs
  | _ => cases hs
theorem scR_any {ok ok' : Nat → Prop} {w w' : World} {β β' : Nat → Option Value} {v : AV} {z : Value} (hs : scR P v = true) (h : RV P ok w β v z) : RV P ok' w' β' v z := by
  cases v with
  | tup vs =>
    obtain ⟨arr, e, hl, h⟩ := h
    exact ⟨arr, e, hl, fun i av hv => scV_any (List.all_eq_true.1 hs av (List.mem_of_getElem? hv)) (h i av hv)⟩
  | dat T d => exact scV_any hs h
  | _ => cases hs
theorem s_lend (hcall : CallOK P call) {g : Operand} {xs : Array Operand} {Ts : Array TypeId} {f : FuncId} {as caps : List AV} {rd : List Nat} (ho : o.op = .call ⟨.value g, xs, Ts⟩) (hcap : ∀ v ∈ caps, v.isAgg P = false ∧ ∀ us, v ≠ .tup us)
    (hpre : ∀ σ', Agr o σ σ' rd → ∀ (K : OkX) (w0 : World) (a : Act) (w : World), Rel P K w0 n σ' a w → ∃ hs1 β1, RelB P K w0 n ⟨σ'.ts, hs1, σ'.k0⟩ a w β1 ∧ RV P (fun b => b < w.heap.size) w β1 (.fn f caps) (a.eval g) ∧ RVsX P (fun b => b < w.heap.size) w β1 as (xs.toList.map a.eval))
    (h : (call f (AV.renL (ix []) (as ++ caps)) [] fun q => bif (scR P q.1 && (isNil q.2 && dstB n o)) then k ⟨o.dst.map fun _ => q.1, rd, []⟩ else none) = some r) : OpS P n o σ k r := by
  have hh_ := hcall _ _ _ _ _ h
  clear h
  obtain ⟨q, h, hfx, hbody⟩ := hh_
  have hh_ := bif_some h
  clear h
  obtain ⟨hc2, h⟩ := hh_
  have hsc := and_l hc2
  have hnil : q.2 = [] := by
    have := and_l (and_r hc2)
    cases hq : q.2 with
    | nil => rfl
    | cons a b => rw [hq] at this; cases this
  refine ⟨_, h, fun σ' ag => ?_⟩
  intro K w0 a w rr Kt Q hK
  obtain ⟨hs1, β1, r1, hg, ha⟩ := hpre σ' ag K w0 a w rr
  obtain ⟨β, rb⟩ := rr
  obtain ⟨cv, ecv, hcv⟩ := fn_evalC hg hcap
  have hargs := (ha.app hcv).ren (src_ren [] β1)
  have no : ∀ (β : Nat → Option Value) l b, ¬ owns [] β l b := fun β l b h => by obtain ⟨h1, _⟩ := h; cases l <;> cases h1
  have hc := hfx (fun b => b < w.heap.size) w (srcB [] β1) _ (fun b hb => ⟨hb, fun ⟨l, hx⟩ => no _ _ _ hx⟩) (fun i => by cases i <;> rfl) (fun l l' b h1 => (no _ _ _ h1).elim) hargs (r1.tab.mono fun b hb => ⟨hb.1, rfl⟩)
  rw [hnil] at hc
  have ho' : o.op = .call { callee := .value g, args := xs.toList.toArray, argTypes := Ts } := by rw [ho]
  unfold Oper.wp
  rw [run_callC ho' hbody a w ecv, Oper.upon_enter]
  refine hc.mono ?_
  rintro e w' ⟨z, β', rfl, fin, hz⟩
  have hbel : Below w.heap.size w w' := ⟨fin.below.os, fin.below.tape, fin.below.output, fin.below.size, fun b hb => fin.below.block b hb (fun ⟨l, hx⟩ => no _ _ _ hx)⟩
  obtain ⟨rg, _⟩ := rb.grow hbel
  refine hK _ _ ?_
  unfold St.app
  simp only
  cases hd : o.dst with
  | none => exact ⟨β, rg⟩
  | some d =>
    have hn : d < n := by
      have := and_r (and_r hc2)
      unfold dstB at this
      rw [hd] at this
      exact Nat.le_of_ble_eq_true this
    exact Rel.put rg hn (scR_any hsc hz)
theorem bset2 {A : Type} {b : Bool} {x y z : A} (h : (bif b then x else y) = z) : (b = true ∧ x = z) ∨ (b = false ∧ y = z) := by cases b <;> simp_all
theorem nmsL_app : ∀ us vs : List AV, AV.nmsL (us ++ vs) = AV.nmsL us ++ AV.nmsL vs
  | [], vs => by simp [AV.nmsL]
  | u :: us, vs => by simp [AV.nmsL, nmsL_app us vs]
theorem mem_rwsL {v : AV} {l : Nat} : ∀ {vs : List AV}, v ∈ vs → l ∈ v.rws → l ∈ AV.rwsL vs
  | u :: us, h, hl => by
    simp only [AV.rwsL, List.mem_append]
    rcases List.mem_cons.1 h with e | h
    · subst e; exact .inl hl
    · exact .inr (mem_rwsL h hl)
theorem lend1_ra {hs : List Ob} {ts : List AV} {k0 : Nat} {K : OkX} {w0 w : World} {a : Act} {β : Nat → Option Value} {cs : List Value} (rb : RelB P K w0 n ⟨ts, hs, k0⟩ a w β) (h : RA P (fun b => b < w.heap.size) w β v cs) : RA P (fun b => b < w.heap.size) w β (lend1 P hs v) cs := by
  unfold lend1
  split
  · rename_i l
    split
    · rename_i T c hl
      split
      · rename_i T' d hp
        cases hb : Nat.beq T' T
        · exact h
        · have e := beq_eq hb
          subst e
          simp only [cond_true]
          have ho := rb.hs l
          rw [show lk (St.mk ts hs k0).hs l = lk hs l from rfl, hl] at ho
          obtain ⟨b, cc, e1, e2, e3, e4⟩ := ho
          cases h with
          | @ptr _ b' off path hβ =>
            rw [e1] at hβ
            simp only [Option.some.injEq, Value.pointer.injEq, Addr.mk.injEq, and_true] at hβ
            subst hβ
            have hrd := pk_sound rb.frzOK e4 hp
            have hlt : b < w.heap.size := (Array.getElem?_eq_some_iff.1 e2).1
            refine .rptr (ad := ⟨b, 0, none⟩) (cs := cc.toList) hlt (by rw [Array.length_toList]; exact e3) (fun j u hu => ?_) (hrd.mono fun b hb => ⟨hb.1, rfl⟩)
            rw [add_mk, Nat.zero_add]
            simp only [World.cell?, e2]
            rw [Array.getElem?_toList] at hu
            simpa using hu
      · exact h
    · exact h
  · exact h
theorem lend1_plain {hs : List Ob} (hv : v.isAgg P = false ∧ ∀ us, v ≠ .tup us) : (lend1 P hs v).isAgg P = false ∧ ∀ us, lend1 P hs v ≠ .tup us := by
  unfold lend1
  split
  · split
    · split
      · cases Nat.beq _ _
        · exact hv
        · exact ⟨rfl, fun us h => by cases h⟩
      · exact hv
    · exact hv
  · exact hv
theorem lendV_rv {hs : List Ob} {ts : List AV} {k0 : Nat} {K : OkX} {w0 w : World} {a : Act} {β : Nat → Option Value} {z : Value} (rb : RelB P K w0 n ⟨ts, hs, k0⟩ a w β) (h : RV P (fun b => b < w.heap.size) w β v z) : RV P (fun b => b < w.heap.size) w β (lendV P hs v) z := by
  cases v with
  | fn f caps =>
    have h1 := h.2 rfl
    refine ⟨fun hi => (by cases hi), fun _ => ?_⟩
    show RA P _ w β (.fn f (caps.map (lend1 P hs))) [z]
    cases h1 with
    | @fn _ _ cv hl hh =>
      refine .fn (by rw [List.length_map]; exact hl) fun i av hav => ?_
      rw [List.getElem?_map] at hav
      obtain ⟨u, hu, rfl⟩ := Option.map_eq_some_iff.1 hav
      exact lend1_ra rb (hh i u hu)
  | ptr l path off =>
    have h1 := h.2 rfl
    have h2 := lend1_ra rb h1
    have hp : (AV.ptr l path off).isAgg P = false ∧ ∀ us, AV.ptr l path off ≠ .tup us := ⟨rfl, fun us h => by cases h⟩
    have h3 := lend1_plain (hs := hs) hp
    show RV P _ w β (lend1 P hs (.ptr l path off)) z
    have h4 : RV1 P (fun b => b < w.heap.size) w β (lend1 P hs (.ptr l path off)) z := ⟨fun hi => (by rw [h3.1] at hi; cases hi), fun _ => h2⟩
    exact h4.toRV h3.2
  | _ => exact h
theorem frzW_box {T : TypeId} {c : AV} : ∀ {ls : List Nat} {hs : List Ob} {l : Nat}, lk (wrO hs (Am.frzW hs ls)) l = .box T c → lk hs l = .box T c
  | [], hs, l, h => h
  | k :: r, hs, l, h => by
    unfold Am.frzW at h
    split at h
    · rename_i T' es hl
      have h2 := frzW_box (ls := r) (hs := setO hs k (.frz T' es)) h
      rw [lk_set] at h2
      split at h2
      · cases h2
      · exact h2
    · rename_i T' T2 c' kk es hl
      split at h
      · rename_i ls hls
        have h2 := frzW_box (ls := r) (hs := setO (setO (setO hs k (.row T' (frzD c' es ls))) kk .gone) k (.frz T' (frzD c' es ls))) h
        simp only [lk_set] at h2
        split at h2
        · cases h2
        · split at h2
          · cases h2
          · first | exact h2 | (split at h2; · cases h2; · exact h2)
      · exact frzW_box h
    · exact frzW_box h
theorem mem_withTok {hs : List Ob} {q : Nat} : ∀ {ls : List Nat}, q ∈ ls → q ∈ withTok hs ls
  | k :: r, h => by
    simp only [withTok, List.mem_append]
    rcases List.mem_cons.1 h with rfl | h
    · left; split <;> simp
    · exact .inr (mem_withTok h)
theorem mem_boxRows {hs : List Ob} {T : TypeId} {c : AV} {l q : Nat} : ∀ {ls : List Nat}, l ∈ ls → lk hs l = .box T c → q ∈ c.rws → q ∈ boxRows hs ls
  | k :: r, h, hl, hq => by
    simp only [boxRows, List.mem_append]
    rcases List.mem_cons.1 h with rfl | h
    · left; rw [hl]; exact mem_withTok hq
    · exact .inr (mem_boxRows h hl hq)
theorem lend1_agr {hs hs' : List Ob} (h1 : ∀ l ∈ v.nms, lk hs' l = lk hs l) (h2 : ∀ l ∈ v.nms, ∀ T c, lk hs l = .box T c → ∀ q ∈ c.rws, lk hs' q = lk hs q) : lend1 P hs' v = lend1 P hs v := by
  cases v with
  | ptr l path off =>
    have hl : l ∈ (AV.ptr l path off).nms := by simp [AV.nms]
    cases path with
    | nil =>
      cases off with
      | zero =>
        simp only [lend1, h1 l hl]
        cases hk : lk hs l with
        | box T c =>
          simp only
          rw [pk_agr (P := P) (hs := hs) (hs' := hs') c (h2 l hl T c hk)]
        | _ => rfl
      | succ _ => rfl
    | cons _ _ => rfl
  | _ => rfl
theorem map_lend1_agr {hs hs' : List Ob} : ∀ {vs : List AV}, (∀ l ∈ AV.nmsL vs, lk hs' l = lk hs l) → (∀ l ∈ AV.nmsL vs, ∀ T c, lk hs l = .box T c → ∀ q ∈ c.rws, lk hs' q = lk hs q) → vs.map (lend1 P hs') = vs.map (lend1 P hs)
  | [], _, _ => rfl
  | v :: r, h1, h2 => by
    simp only [List.map_cons]
    rw [lend1_agr (fun l hl => h1 l (by simp [AV.nmsL, hl])) (fun l hl => h2 l (by simp [AV.nmsL, hl])), map_lend1_agr (vs := r) (fun l hl => h1 l (by simp [AV.nmsL, hl])) (fun l hl => h2 l (by simp [AV.nmsL, hl]))]
theorem lendV_agr {hs hs' : List Ob} (h1 : ∀ l ∈ v.nms, lk hs' l = lk hs l) (h2 : ∀ l ∈ v.nms, ∀ T c, lk hs l = .box T c → ∀ q ∈ c.rws, lk hs' q = lk hs q) : lendV P hs' v = lendV P hs v := by
  cases v with
  | fn f caps =>
    show AV.fn f (caps.map (lend1 P hs')) = AV.fn f (caps.map (lend1 P hs))
    rw [map_lend1_agr h1 h2]
  | ptr l path off => exact lend1_agr h1 h2
  | _ => rfl
theorem pkA_nms {b : Bool} {hs : List Ob} : ∀ l ∈ (pkA P b hs v).nms, l ∈ v.nms := by
  intro l hl
  unfold pkA at hl
  cases hb : (b && isNils v)
  · rw [hb, cond_false] at hl
    split at hl
    · simp [AV.nms] at hl
    · exact hl
  · rw [hb, cond_true] at hl; exact hl
theorem pkA_agr1 {b : Bool} {hs hs' : List Ob} (h : ∀ l ∈ v.rws, lk hs' l = lk hs l) : pkA P b hs' v = pkA P b hs v := by
  unfold pkA
  rw [pk_agr (hs := hs) (hs' := hs') v h]
theorem map_lendV_agr {b : Bool} {hs hs' : List Ob} : ∀ {vs : List AV}, (∀ l ∈ AV.rwsL vs, lk hs' l = lk hs l) → (∀ l ∈ AV.nmsL vs, lk hs' l = lk hs l) → (∀ l ∈ AV.nmsL vs, ∀ T c, lk hs l = .box T c → ∀ q ∈ c.rws, lk hs' q = lk hs q) → (vs.map fun v => lendV P hs' (pkA P b hs' v)) = vs.map fun v => lendV P hs (pkA P b hs v)
  | [], _, _, _ => rfl
  | v :: r, h0, h1, h2 => by
    simp only [List.map_cons]
    rw [pkA_agr1 (hs := hs) fun l hl => h0 l (by simp [AV.rwsL, hl]), lendV_agr (fun l hl => h1 l (by simp [AV.nmsL, pkA_nms l hl])) (fun l hl => h2 l (by simp [AV.nmsL, pkA_nms l hl])),
      map_lendV_agr (vs := r) (fun l hl => h0 l (by simp [AV.rwsL, hl])) (fun l hl => h1 l (by simp [AV.nmsL, hl])) (fun l hl => h2 l (by simp [AV.nmsL, hl]))]
theorem RVsX.map_lend {hs : List Ob} {ts : List AV} {k0 : Nat} {K : OkX} {w0 w : World} {a : Act} {β : Nat → Option Value} {vs : List AV} {zs : List Value} (rb : RelB P K w0 n ⟨ts, hs, k0⟩ a w β) (h : RVsX P (fun b => b < w.heap.size) w β vs zs) : RVsX P (fun b => b < w.heap.size) w β (vs.map (lendV P hs)) zs := by
  induction h with
  | nil => exact .nil
  | cons h _ ih => exact .cons (lendV_rv rb h) ih
theorem fzb1_some {pty : TypeId → Option TypeId} {hs : List Ob} {l : Nat} {ob : Ob} (h : fzb1 P pty hs l = some ob) : ∃ T c PT d, lk hs l = .box T c ∧ P.underlying PT = some (.pointer T) ∧ pk P hs c = some (T, d) ∧ ob = .frz PT [d] := by
  unfold fzb1 at h
  split at h
  · rename_i T c hl
    split at h
    · rename_i PT hPT
      split at h
      · rename_i T2 hT2
        split at h
        · rename_i T' d hp
          obtain ⟨hc, h⟩ := bif_some h
          cases h
          have e1 := beq_eq (and_l hc)
          have e2 := beq_eq (and_r hc)
          subst e1 e2
          exact ⟨_, c, PT, d, hl, ppE_some hT2, hp, rfl⟩
        · cases h
      · cases h
    · cases h
  · cases h
theorem RelB.fzbW {K : OkX} {w0 w : World} {a : Act} {β : Nat → Option Value} {pty : TypeId → Option TypeId} : ∀ {bs : List Nat} {σ : St}, RelB P K w0 n σ a w β → RelB P K w0 n ⟨σ.ts, wrO σ.hs (Am.fzbW P pty σ.hs bs), σ.k0⟩ a w β
  | [], σ, r => r
  | l :: bs, σ, r => by
    unfold Am.fzbW
    split
    · rename_i ob h1
      obtain ⟨T, c, PT, d, h2, h3, h4, rfl⟩ := fzb1_some h1
      exact RelB.fzbW (bs := bs) (σ := ⟨σ.ts, setO σ.hs l (.frz PT [d]), σ.k0⟩) (r.frzBox h2 h4 h3)
    · exact RelB.fzbW (bs := bs) r
theorem fzb1_agr {pty : TypeId → Option TypeId} {hs hs' : List Ob} {l : Nat} (h1 : lk hs' l = lk hs l) (h2 : ∀ T c, lk hs l = .box T c → ∀ q ∈ c.rws, lk hs' q = lk hs q) : fzb1 P pty hs' l = fzb1 P pty hs l := by
  unfold fzb1
  rw [h1]
  split
  · rename_i T c hl
    rw [pk_agr (P := P) (hs := hs) (hs' := hs') c (h2 T c hl)]
  · rfl
theorem fzbW_agr {pty : TypeId → Option TypeId} : ∀ {bs : List Nat} {hs hs' : List Ob}, (∀ l ∈ bs, lk hs' l = lk hs l) → (∀ l ∈ bs, ∀ T c, lk hs l = .box T c → ∀ q ∈ c.rws, lk hs' q = lk hs q) → fzbW P pty hs' bs = fzbW P pty hs bs
  | [], _, _, _, _ => rfl
  | l :: bs, hs, hs', h1, h2 => by
    unfold fzbW
    rw [fzb1_agr (h1 l (by simp)) (h2 l (by simp))]
    split
    · rename_i ob hob
      obtain ⟨T0, c0, PT, d, _, _, _, rfl⟩ := fzb1_some hob
      rw [fzbW_agr (bs := bs) (hs := setO hs l (.frz PT [d])) (hs' := setO hs' l (.frz PT [d])) (fun k hk => ?_) (fun k hk T c hkc q hq => ?_)]
      · rw [lk_set, lk_set]
        split
        · rfl
        · exact h1 k (by simp [hk])
      · rw [lk_set] at hkc
        rw [lk_set, lk_set]
        split
        · rfl
        · split at hkc
          · cases hkc
          · exact h2 k (by simp [hk]) T c hkc q hq
    · exact fzbW_agr (fun k hk => h1 k (by simp [hk])) (fun k hk => h2 k (by simp [hk]))
theorem fzbW_free {pty : TypeId → Option TypeId} : ∀ {bs : List Nat} {hs : List Ob} {l : Nat}, lk hs l = .free → lk (wrO hs (fzbW P pty hs bs)) l = .free
  | [], hs, l, h => h
  | k :: r, hs, l, h => by
    unfold fzbW
    split
    · rename_i ob hob
      obtain ⟨T0, c0, PT, d, h2, _, _, rfl⟩ := fzb1_some hob
      simp only [wrO]
      refine fzbW_free ?_
      rw [lk_set]
      split
      · rename_i e; subst e; rw [h] at h2; cases h2
      · exact h
    · exact fzbW_free h
theorem pkZ_rv {ok : Nat → Prop} {w : World} {β : Nat → Option Value} {hs : List Ob} {z : Value} (hf : FrzOK P ok w β hs) (hfa : ∀ l T es, lk hs l = .frz T es → aggT P T = false) (h : RV P ok w β v z) : RV P ok w β (pkZ hs v) z := by
  unfold pkZ
  split
  · rename_i l
    split
    · rename_i T es hl
      have h1 := h.2 rfl
      obtain ⟨z', e, hr⟩ := hf l T es hl
      cases h1 with
      | ptr hβ =>
        rw [hβ] at e
        cases e
        exact (RV.dat_one (hfa l T es hl)).2 hr
    · exact h
  · exact h
theorem RVsX.map_pkZ {b : Bool} {ok : Nat → Prop} {w : World} {β : Nat → Option Value} {hs : List Ob} {vs : List AV} {zs : List Value} (hf : FrzOK P ok w β hs) (hfa : ∀ l T es, lk hs l = .frz T es → aggT P T = false) (h : RVsX P ok w β vs zs) : RVsX P ok w β (vs.map fun v => pkZ hs (pkA P b hs v)) zs := by
  have h2 := h.map_pk (b := b) hf hfa
  generalize hus : vs.map (pkA P b hs) = us at h2
  have e : (vs.map fun v => pkZ hs (pkA P b hs v)) = us.map (pkZ hs) := by rw [← hus, List.map_map]; rfl
  rw [e]
  clear e hus h
  induction h2 with
  | nil => exact .nil
  | cons h _ ih => exact .cons (pkZ_rv hf hfa h) ih
theorem mem_ptrsL {l : Nat} : ∀ {vs : List AV}, .ptr l [] 0 ∈ vs → l ∈ ptrsL vs
  | u :: us, h => by
    simp only [ptrsL, List.mem_append]
    rcases List.mem_cons.1 h with e | h
    · subst e; left; simp
    · exact .inr (mem_ptrsL h)
theorem map_pkZ_agr {b : Bool} {hs hs' : List Ob} {vs : List AV} (h0 : ∀ l ∈ AV.rwsL vs, lk hs' l = lk hs l) (h1 : ∀ l ∈ ptrsL vs, lk hs' l = lk hs l) : (vs.map fun v => pkZ hs' (pkA P b hs' v)) = vs.map fun v => pkZ hs (pkA P b hs v) := by
  refine List.map_congr_left fun v hv => ?_
  rw [pkA_agr1 (hs := hs) (hs' := hs') fun l hl => h0 l (mem_rwsL hv hl)]
  cases v with
  | ptr l p q =>
    have e : pkA P b hs (.ptr l p q) = .ptr l p q := by
      unfold pkA
      cases b <;> rfl
    rw [e]
    match p, q with
    | [], 0 => simp only [pkZ]; rw [h1 l (mem_ptrsL hv)]
    | [], _ + 1 => rfl
    | _ :: _, _ => rfl
  | _ =>
    unfold pkA
    cases b <;> simp only [isNils, Bool.and_false, Bool.and_true, cond_false, cond_true] <;> first | rfl | (split <;> rfl)
theorem s_call (hcall : CallOK P call) {g : Operand} {xs : Array Operand} {Ts : Array TypeId} (ho : o.op = .call ⟨.value g, xs, Ts⟩) (h : evCall P E call n o σ g xs.toList Ts.toList k = some r) : OpS P n o σ k r := by
  have hg : g ∈ o.op.operands.toList := by rw [ho]; simp [Op.operands, Call.operands]
  have hxs : ∀ z ∈ xs.toList, z ∈ o.op.operands.toList := by intro z hz; rw [ho]; simp [Op.operands, Call.operands]; right; simpa using hz
  unfold evCall at h
  split at h
  · rename_i f caps e1
    have hh_ := bif_some h
    clear h
    obtain ⟨hc, h⟩ := hh_
    have hlen := beq_eq (and_l hc)
    have hcap := capsB_some (and_r hc)
    cases how : E.own f with
    | true =>
      rw [how] at h
      simp only [cond_true] at h
      refine s_tail hcall ho (fun v hv => ⟨(hcap v hv).1, (hcap v hv).2.2⟩) (wr_nil _ _ _).symm (by omega) (fun l hl => layN_free hl (lk_end _ _ (by omega))) ?_ h
      intro σ' rd ag hin K w0 a w rr hk0
      obtain ⟨β, rb⟩ := rr
      obtain ⟨β1, r1, ex1, nb1, ok1⟩ := lay_nil' (P := P) (n := n) _ σ' K w0 w a β σ.hs.length rb (n2rL_sl P (dnL P (E.nd f) 0 (opds P E.dt σ Ts.toList xs.toList)) σ.hs.length) (fun i h3 h4 => by
        rw [ag.hs i (hin i h3 h4)]
        exact lk_end _ _ h3) (by rw [ag.k0]; exact hk0)
      rw [← wr_nil] at r1 ok1
      have hk : ∀ b, okOf K w0 w σ'.hs β b → okOf K w0 w (wrO σ'.hs (nilW σ.hs.length (AV.n2rL P (dnL P (E.nd f) 0 (opds P E.dt σ Ts.toList xs.toList)) σ.hs.length).2)) β1 b ∧ w.heap[b]? = w.heap[b]? := fun b hb => ⟨ok1 b hb, rfl⟩
      have hopds := (opds_ev (P := P) (σ := σ') (D := E.dt) hlen).rvs rb
      rw [opds_agr ag.ts hxs] at hopds
      exact ⟨β1, r1, (ev_is ag hg e1 _ _ _ _ _ _ rb).mono hk ex1, ((hopds.mono hk ex1).dn _ 0).n2r _ nb1⟩
    | false =>
      rw [how] at h
      simp only [cond_false] at h
      have main : ∀ (L : List Nat), (∀ l ∈ AV.rwsL (opds P E.dt σ Ts.toList xs.toList), l ∈ L) → ∀ σ' rd, Agr o σ σ' (L ++ rd) → ∀ (K : OkX) (w0 : World) (a : Act) (w : World), Rel P K w0 n σ' a w → ∃ β1, RelB P K w0 n ⟨σ'.ts, wrO σ'.hs (frzW σ.hs L), σ'.k0⟩ a w β1 ∧ RV P (okOf K w0 w (wrO σ'.hs (frzW σ.hs L)) β1) w β1 (.fn f caps) (a.eval g) ∧ RVsX P (okOf K w0 w (wrO σ'.hs (frzW σ.hs L)) β1) w β1 ((opds P E.dt σ Ts.toList xs.toList).map (pkA P (E.raw f) (wrO σ.hs (frzW σ.hs L)))) (xs.toList.map a.eval) := by
       intro L hL σ' rd ag K w0 a w rr
       obtain ⟨β, rb⟩ := rr
       have hagr : ∀ l ∈ L, lk σ'.hs l = lk σ.hs l := fun l hl => ag.hs l (List.mem_append_left _ hl)
       have hfw := frzW_agr hagr
       obtain ⟨β1, r1⟩ := Imp.frzW (P := P) (n := n) (σ := σ') L K w0 a w ⟨β, rb⟩
       rw [hfw] at r1
       refine ⟨β1, r1, ?_, ?_⟩
       · have := ev_imp (P := P) (T := 0) (D := E.dt) (hs := wrO σ'.hs (frzW σ.hs L)) (k0 := σ'.k0) ag hg
         rw [e1] at this
         exact this _ _ _ _ _ _ r1
       · have hopds := (opds_ev (P := P) (σ := St.mk σ'.ts (wrO σ'.hs (frzW σ.hs L)) σ'.k0) (D := E.dt) hlen).rvs r1
         rw [opds_agr (σ := σ) (σ' := St.mk σ'.ts (wrO σ'.hs (frzW σ.hs L)) σ'.k0) (xs := o.op.operands.toList) (fun t ht => ag.ts t ht) hxs] at hopds
         have := hopds.map_pk (b := E.raw f) r1.frzOK r1.frzAgg
         have e3 : (opds P E.dt σ Ts.toList xs.toList).map (pkA P (E.raw f) (wrO σ'.hs (frzW σ.hs L))) = (opds P E.dt σ Ts.toList xs.toList).map (pkA P (E.raw f) (wrO σ.hs (frzW σ.hs L))) :=
           pkA_agr fun l hl => wrO_agr hagr l (hL l hl)
         rw [e3] at this
         exact this
      cases hfz : E.fzc f with
      | true =>
        rw [hfz] at h
        simp only [cond_true] at h
        rw [← wrO_app] at h
        refine s_tail hcall ho (fun v hv => ⟨(hcap v hv).1, (hcap v hv).2.2⟩) rfl (Nat.le_refl _) (fun l hl => (by rw [wrO_app]; exact fzbW_free (frzW_free (lk_end _ _ hl)))) (fun σ' rd ag _ K w0 a w rr _ => ?_) h
        obtain ⟨β, rb⟩ := rr
        have hagL : ∀ l ∈ AV.rwsL (opds P E.dt σ Ts.toList xs.toList) ++ boxRows σ.hs (ptrsL (opds P E.dt σ Ts.toList xs.toList)), lk σ'.hs l = lk σ.hs l := fun l hl => ag.hs l (List.mem_append_left _ (List.mem_append_left _ hl))
        have hagB : ∀ l ∈ ptrsL (opds P E.dt σ Ts.toList xs.toList), lk σ'.hs l = lk σ.hs l := fun l hl => ag.hs l (List.mem_append_left _ (List.mem_append_right _ hl))
        have hfw := frzW_agr hagL
        obtain ⟨β1, r1⟩ := Imp.frzW (P := P) (n := n) (σ := σ') (AV.rwsL (opds P E.dt σ Ts.toList xs.toList) ++ boxRows σ.hs (ptrsL (opds P E.dt σ Ts.toList xs.toList))) K w0 a w ⟨β, rb⟩
        rw [hfw] at r1
        have hwB : ∀ l, l ∈ AV.rwsL (opds P E.dt σ Ts.toList xs.toList) ++ boxRows σ.hs (ptrsL (opds P E.dt σ Ts.toList xs.toList)) ++ ptrsL (opds P E.dt σ Ts.toList xs.toList) → lk (wrO σ'.hs (frzW σ.hs (AV.rwsL (opds P E.dt σ Ts.toList xs.toList) ++ boxRows σ.hs (ptrsL (opds P E.dt σ Ts.toList xs.toList))))) l = lk (wrO σ.hs (frzW σ.hs (AV.rwsL (opds P E.dt σ Ts.toList xs.toList) ++ boxRows σ.hs (ptrsL (opds P E.dt σ Ts.toList xs.toList))))) l := fun l hl =>
          wrO_agr (ls := AV.rwsL (opds P E.dt σ Ts.toList xs.toList) ++ boxRows σ.hs (ptrsL (opds P E.dt σ Ts.toList xs.toList)) ++ ptrsL (opds P E.dt σ Ts.toList xs.toList)) (fun k hk => ag.hs k (List.mem_append_left _ hk)) l hl
        have hfb := fzbW_agr (P := P) (pty := E.pty) (bs := ptrsL (opds P E.dt σ Ts.toList xs.toList)) (fun l hl => hwB l (List.mem_append_right _ hl)) (fun l hl T c hk q hq => hwB q (List.mem_append_left _ (List.mem_append_right _ (mem_boxRows hl (frzW_box hk) hq))))
        have r2 := RelB.fzbW (pty := E.pty) (bs := ptrsL (opds P E.dt σ Ts.toList xs.toList)) r1
        simp only at r2
        rw [hfb, ← wrO_app] at r2
        refine ⟨β1, r2, ?_, ?_⟩
        · have := ev_imp (P := P) (T := 0) (D := E.dt) (hs := wrO σ'.hs (frzW σ.hs (AV.rwsL (opds P E.dt σ Ts.toList xs.toList) ++ boxRows σ.hs (ptrsL (opds P E.dt σ Ts.toList xs.toList))) ++ fzbW P E.pty (wrO σ.hs (frzW σ.hs (AV.rwsL (opds P E.dt σ Ts.toList xs.toList) ++ boxRows σ.hs (ptrsL (opds P E.dt σ Ts.toList xs.toList))))) (ptrsL (opds P E.dt σ Ts.toList xs.toList)))) (k0 := σ'.k0) ag hg
          rw [e1] at this
          exact this _ _ _ _ _ _ r2
        · have hopds := (opds_ev (P := P) (σ := St.mk σ'.ts (wrO σ'.hs (frzW σ.hs (AV.rwsL (opds P E.dt σ Ts.toList xs.toList) ++ boxRows σ.hs (ptrsL (opds P E.dt σ Ts.toList xs.toList))) ++ fzbW P E.pty (wrO σ.hs (frzW σ.hs (AV.rwsL (opds P E.dt σ Ts.toList xs.toList) ++ boxRows σ.hs (ptrsL (opds P E.dt σ Ts.toList xs.toList))))) (ptrsL (opds P E.dt σ Ts.toList xs.toList)))) σ'.k0) (D := E.dt) hlen).rvs r2
          rw [opds_agr (σ := σ) (σ' := St.mk σ'.ts (wrO σ'.hs (frzW σ.hs (AV.rwsL (opds P E.dt σ Ts.toList xs.toList) ++ boxRows σ.hs (ptrsL (opds P E.dt σ Ts.toList xs.toList))) ++ fzbW P E.pty (wrO σ.hs (frzW σ.hs (AV.rwsL (opds P E.dt σ Ts.toList xs.toList) ++ boxRows σ.hs (ptrsL (opds P E.dt σ Ts.toList xs.toList))))) (ptrsL (opds P E.dt σ Ts.toList xs.toList)))) σ'.k0) (xs := o.op.operands.toList) (fun t ht => ag.ts t ht) hxs] at hopds
          have h5 := hopds.map_pkZ (b := E.raw f) r2.frzOK r2.frzAgg
          have hw2 : ∀ l, l ∈ AV.rwsL (opds P E.dt σ Ts.toList xs.toList) ++ boxRows σ.hs (ptrsL (opds P E.dt σ Ts.toList xs.toList)) ++ ptrsL (opds P E.dt σ Ts.toList xs.toList) → lk (wrO σ'.hs (frzW σ.hs (AV.rwsL (opds P E.dt σ Ts.toList xs.toList) ++ boxRows σ.hs (ptrsL (opds P E.dt σ Ts.toList xs.toList))) ++ fzbW P E.pty (wrO σ.hs (frzW σ.hs (AV.rwsL (opds P E.dt σ Ts.toList xs.toList) ++ boxRows σ.hs (ptrsL (opds P E.dt σ Ts.toList xs.toList))))) (ptrsL (opds P E.dt σ Ts.toList xs.toList)))) l = lk (wrO σ.hs (frzW σ.hs (AV.rwsL (opds P E.dt σ Ts.toList xs.toList) ++ boxRows σ.hs (ptrsL (opds P E.dt σ Ts.toList xs.toList))) ++ fzbW P E.pty (wrO σ.hs (frzW σ.hs (AV.rwsL (opds P E.dt σ Ts.toList xs.toList) ++ boxRows σ.hs (ptrsL (opds P E.dt σ Ts.toList xs.toList))))) (ptrsL (opds P E.dt σ Ts.toList xs.toList)))) l := fun l hl =>
            wrO_agr (ls := AV.rwsL (opds P E.dt σ Ts.toList xs.toList) ++ boxRows σ.hs (ptrsL (opds P E.dt σ Ts.toList xs.toList)) ++ ptrsL (opds P E.dt σ Ts.toList xs.toList)) (fun k hk => ag.hs k (List.mem_append_left _ hk)) l hl
          rw [map_pkZ_agr (P := P) (b := E.raw f) (fun l hl => hw2 l (List.mem_append_left _ (List.mem_append_left _ hl))) (fun l hl => hw2 l (List.mem_append_right _ hl))] at h5
          exact h5
      | false =>
      rw [hfz] at h
      simp only [cond_false] at h
      cases hl : (lendB P E f && isNil (AV.nmsL ((opds P E.dt σ Ts.toList xs.toList).map (pkA P (E.raw f) (wrO σ.hs (frzW σ.hs (AV.rwsL (opds P E.dt σ Ts.toList xs.toList))))) ++ caps))) with
      | true =>
        rw [hl] at h
        simp only [cond_true] at h
        refine s_lend hcall ho (fun v hv => ⟨(hcap v hv).1, (hcap v hv).2.2⟩) (fun σ' ag K w0 a w rr => ?_) h
        obtain ⟨β1, h1, h2, h3⟩ := main _ (fun l hl => hl) σ' [] (by rw [List.append_nil]; exact ag) K w0 a w rr
        exact ⟨_, β1, h1, h2.mono (fun b hb => ⟨hb.1, rfl⟩) (Ext.refl _), h3.mono (fun b hb => ⟨hb.1, rfl⟩) (Ext.refl _)⟩
      | false =>
        rw [hl] at h
        simp only [cond_false] at h
        have hh_ := bset2 h
        clear h
        rcases hh_ with ⟨_, h⟩ | ⟨_, h⟩
        · refine s_lend hcall ho (fun v hv => ?_) (fun σ' ag K w0 a w rr => ?_) h
          · obtain ⟨u, hu, rfl⟩ := List.mem_map.1 hv
            exact lend1_plain ⟨(hcap u hu).1, (hcap u hu).2.2⟩
          · obtain ⟨β1, h1, h2, h3⟩ := main _ (fun l hl => List.mem_append_left _ hl) σ' _ ag K w0 a w rr
            have hagr : ∀ l ∈ (AV.rwsL (opds P E.dt σ Ts.toList xs.toList) ++ boxRows σ.hs (AV.nmsL (opds P E.dt σ Ts.toList xs.toList ++ caps))) ++ AV.nmsL (opds P E.dt σ Ts.toList xs.toList ++ caps), lk (wrO σ'.hs (frzW σ.hs (AV.rwsL (opds P E.dt σ Ts.toList xs.toList) ++ boxRows σ.hs (AV.nmsL (opds P E.dt σ Ts.toList xs.toList ++ caps))))) l = lk (wrO σ.hs (frzW σ.hs (AV.rwsL (opds P E.dt σ Ts.toList xs.toList) ++ boxRows σ.hs (AV.nmsL (opds P E.dt σ Ts.toList xs.toList ++ caps))))) l := fun l hl => wrO_agr ag.hs l hl
            have hbox : ∀ l ∈ AV.nmsL (opds P E.dt σ Ts.toList xs.toList ++ caps), ∀ T c, lk (wrO σ.hs (frzW σ.hs (AV.rwsL (opds P E.dt σ Ts.toList xs.toList) ++ boxRows σ.hs (AV.nmsL (opds P E.dt σ Ts.toList xs.toList ++ caps))))) l = .box T c → ∀ q ∈ c.rws, lk (wrO σ'.hs (frzW σ.hs (AV.rwsL (opds P E.dt σ Ts.toList xs.toList) ++ boxRows σ.hs (AV.nmsL (opds P E.dt σ Ts.toList xs.toList ++ caps))))) q = lk (wrO σ.hs (frzW σ.hs (AV.rwsL (opds P E.dt σ Ts.toList xs.toList) ++ boxRows σ.hs (AV.nmsL (opds P E.dt σ Ts.toList xs.toList ++ caps))))) q :=
              fun l hl T c hk q hq => hagr q (List.mem_append_left _ (List.mem_append_right _ (mem_boxRows hl (frzW_box hk) hq)))
            have hn : ∀ (us vs : List AV) (l : Nat), l ∈ AV.nmsL us ∨ l ∈ AV.nmsL vs → l ∈ AV.nmsL (us ++ vs) := fun us vs l h => by rw [nmsL_app]; exact List.mem_append.2 h
            have ea := map_lendV_agr (P := P) (b := E.raw f) (vs := opds P E.dt σ Ts.toList xs.toList) (fun l hl => hagr l (List.mem_append_left _ (List.mem_append_left _ hl))) (fun l hl => hagr l (List.mem_append_right _ (hn _ _ l (.inl hl)))) (fun l hl => hbox l (hn _ _ l (.inl hl)))
            have ec := map_lend1_agr (P := P) (vs := caps) (fun l hl => hagr l (List.mem_append_right _ (hn _ _ l (.inr hl)))) (fun l hl => hbox l (hn _ _ l (.inr hl)))
            refine ⟨_, β1, h1, ?_, ?_⟩
            · rw [← ec]
              exact lendV_rv h1 (h2.mono (fun b hb => ⟨hb.1, rfl⟩) (Ext.refl _))
            · rw [← ea]
              have h4 := (h3.mono (ok' := fun b => b < w.heap.size) (w' := w) (fun b hb => ⟨hb.1, rfl⟩) (Ext.refl _)).map_lend h1
              rw [List.map_map] at h4
              have e5 : ((opds P E.dt σ Ts.toList xs.toList).map fun v => lendV P (wrO σ'.hs (frzW σ.hs (AV.rwsL (opds P E.dt σ Ts.toList xs.toList) ++ boxRows σ.hs (AV.nmsL (opds P E.dt σ Ts.toList xs.toList ++ caps))))) (pkA P (E.raw f) (wrO σ'.hs (frzW σ.hs (AV.rwsL (opds P E.dt σ Ts.toList xs.toList) ++ boxRows σ.hs (AV.nmsL (opds P E.dt σ Ts.toList xs.toList ++ caps))))) v)) = (opds P E.dt σ Ts.toList xs.toList).map (lendV P (wrO σ'.hs (frzW σ.hs (AV.rwsL (opds P E.dt σ Ts.toList xs.toList) ++ boxRows σ.hs (AV.nmsL (opds P E.dt σ Ts.toList xs.toList ++ caps))))) ∘ pkA P (E.raw f) (wrO σ.hs (frzW σ.hs (AV.rwsL (opds P E.dt σ Ts.toList xs.toList) ++ boxRows σ.hs (AV.nmsL (opds P E.dt σ Ts.toList xs.toList ++ caps)))))) := by
                refine List.map_congr_left fun v hv => ?_
                have : pkA P (E.raw f) (wrO σ'.hs (frzW σ.hs (AV.rwsL (opds P E.dt σ Ts.toList xs.toList) ++ boxRows σ.hs (AV.nmsL (opds P E.dt σ Ts.toList xs.toList ++ caps))))) v = pkA P (E.raw f) (wrO σ.hs (frzW σ.hs (AV.rwsL (opds P E.dt σ Ts.toList xs.toList) ++ boxRows σ.hs (AV.nmsL (opds P E.dt σ Ts.toList xs.toList ++ caps))))) v := pkA_agr1 fun l hl => hagr l (List.mem_append_left _ (List.mem_append_left _ (mem_rwsL hv hl)))
                show lendV P _ (pkA P _ _ v) = lendV P _ (pkA P _ _ v)
                rw [this]
              rw [e5]
              exact h4
        · exact s_tail hcall ho (fun v hv => ⟨(hcap v hv).1, (hcap v hv).2.2⟩) rfl (Nat.le_refl _) (fun l hl => frzW_free (lk_end _ _ hl)) (fun σ' rd ag _ K w0 a w rr _ => main _ (fun l hl => hl) σ' rd ag K w0 a w rr) h
  · cases h

theorem plainV_some (h : plainV v = true) : v ≠ .dead ∧ ∀ us, v ≠ .tup us := by
  constructor
  · intro e; subst e; cases h
  · intro us e; subst e; cases h
theorem s_makeI (ho : o.op = .makeInterface T x) (h : evMakeI P E n o σ T x k = some r) : OpS P n o σ k r := by
  unfold evMakeI at h
  have hh_ := bif_some h
  clear h
  obtain ⟨hc, h⟩ := hh_
  obtain ⟨h1, h2⟩ := plainV_some (and_r hc)
  exact val_s h fun σ' ag d hd hn => op_makeI ho hd hn (and_l hc) (ev_at ag (by rw [ho]; simp [Op.operands])) h1 h2
theorem s_inv (hcall : CallOK P call) {g : Operand} {name : String} {xs : Array Operand} {Ts : Array TypeId} (ho : o.op = .call ⟨.invoke g name, xs, Ts⟩) (h : evInv P E call n o σ g name xs.toList Ts.toList k = some r) : OpS P n o σ k r := by
  have hg : g ∈ o.op.operands.toList := by rw [ho]; simp [Op.operands, Call.operands]
  have hxs : ∀ z ∈ xs.toList, z ∈ o.op.operands.toList := by intro z hz; rw [ho]; simp [Op.operands, Call.operands]; right; simpa using hz
  unfold evInv at h
  split at h
  · rename_i Tv v e1
    split at h
    · rename_i f hm
      have hh_ := bif_some h
      clear h
      obtain ⟨hc, h⟩ := hh_
      have hlen := beq_eq (and_l hc)
      obtain ⟨hv1, hv2⟩ := plainV_some (and_r hc)
      cases how : E.own f with
      | true =>
        rw [how] at h
        simp only [cond_true] at h
        refine s_tailG hcall (wr_nil _ _ _).symm (by omega) (fun l hl => layN_free hl (lk_end _ _ (by omega))) (fun σ' rd ag hin K w0 a w rr hk0 => ?_) h
        obtain ⟨β, rb⟩ := rr
        obtain ⟨β1, r1, ex1, nb1, ok1⟩ := lay_nil' (P := P) (n := n) _ σ' K w0 w a β σ.hs.length rb (n2rL_sl P (v :: opds P E.dt σ Ts.toList xs.toList) σ.hs.length) (fun i h3 h4 => by
          rw [ag.hs i (hin i h3 h4)]
          exact lk_end _ _ h3) (by rw [ag.k0]; exact hk0)
        rw [← wr_nil] at r1 ok1
        have hk : ∀ b, okOf K w0 w σ'.hs β b → okOf K w0 w (wrO σ'.hs (nilW σ.hs.length (AV.n2rL P (v :: opds P E.dt σ Ts.toList xs.toList) σ.hs.length).2)) β1 b ∧ w.heap[b]? = w.heap[b]? := fun b hb => ⟨ok1 b hb, rfl⟩
        obtain ⟨z, ez, hz⟩ := ifc_inv (ev_is ag hg e1 _ _ _ _ _ _ rb) hv2
        have hopds := (opds_ev (P := P) (σ := σ') (D := E.dt) hlen).rvs rb
        rw [opds_agr ag.ts hxs] at hopds
        exact ⟨β1, _, r1, fun hb => run_invoke (xs := xs.toList) (by rw [ho]) hb hm a w ez, ((RVsX.cons hz hopds).mono hk ex1).n2r _ nb1⟩
      | false =>
      rw [how] at h
      simp only [cond_false] at h
      refine s_tailG hcall rfl (Nat.le_refl _) (fun l hl => frzW_free (lk_end _ _ hl)) (fun σ' rd ag _ K w0 a w rr _ => ?_) h
      obtain ⟨β, rb⟩ := rr
      have hagr : ∀ l ∈ AV.rwsL (v :: opds P E.dt σ Ts.toList xs.toList), lk σ'.hs l = lk σ.hs l := fun l hl => ag.hs l (List.mem_append_left _ hl)
      have hfw := frzW_agr hagr
      obtain ⟨β1, r1⟩ := Imp.frzW (P := P) (n := n) (σ := σ') (AV.rwsL (v :: opds P E.dt σ Ts.toList xs.toList)) K w0 a w ⟨β, rb⟩
      rw [hfw] at r1
      have hrecv := ev_imp (P := P) (T := 0) (D := E.dt) (hs := wrO σ'.hs (frzW σ.hs (AV.rwsL (v :: opds P E.dt σ Ts.toList xs.toList)))) (k0 := σ'.k0) ag hg
      rw [e1] at hrecv
      obtain ⟨z, ez, hz⟩ := ifc_inv (hrecv _ _ _ _ _ _ r1) hv2
      have hopds := (opds_ev (P := P) (σ := St.mk σ'.ts (wrO σ'.hs (frzW σ.hs (AV.rwsL (v :: opds P E.dt σ Ts.toList xs.toList)))) σ'.k0) (D := E.dt) hlen).rvs r1
      rw [opds_agr (σ := σ) (σ' := St.mk σ'.ts (wrO σ'.hs (frzW σ.hs (AV.rwsL (v :: opds P E.dt σ Ts.toList xs.toList)))) σ'.k0) (xs := o.op.operands.toList) (fun t ht => ag.ts t ht) hxs] at hopds
      have hall := (RVsX.cons hz hopds).map_pk (b := E.raw f) r1.frzOK r1.frzAgg
      have e3 : (v :: opds P E.dt σ Ts.toList xs.toList).map (pkA P (E.raw f) (wrO σ'.hs (frzW σ.hs (AV.rwsL (v :: opds P E.dt σ Ts.toList xs.toList))))) = (v :: opds P E.dt σ Ts.toList xs.toList).map (pkA P (E.raw f) (wrO σ.hs (frzW σ.hs (AV.rwsL (v :: opds P E.dt σ Ts.toList xs.toList))))) :=
        pkA_agr fun l hl => wrO_agr hagr l hl
      rw [e3] at hall
      exact ⟨β1, _, r1, fun hb => run_invoke (xs := xs.toList) (by rw [ho]) hb hm a w ez, hall⟩
    · cases h
  · cases h

/-- EVERY OPERATION. -/
theorem evO_sound (hcall : CallOK P call) (h : evO P E call n o σ k = some r) : OpS P n o σ k r := by
  unfold evO at h
  split at h
  · rename_i ho; exact s_move ho h
  · rename_i ho; exact s_assign ho h
  · rename_i ho; exact s_pick ho h
  · rename_i ho; exact s_alloc ho h
  · rename_i ho; exact s_box ho h
  · rename_i ho; exact s_build2 ho h
  · rename_i ho; exact s_buildS2 ho h
  · rename_i ho; exact s_load ho h
  · rename_i ho; exact s_store ho h
  · rename_i ho; exact s_nilCheck ho h
  · rename_i ho; exact s_bin ho h
  · rename_i ho; exact s_not ho h
  · rename_i ho; exact s_neg ho h
  · rename_i ho; exact s_compl ho h
  · rename_i ho
    split at h
    · rename_i hTe; exact s_convB ho hTe h
    · exact s_convert ho h
  · rename_i ho; exact s_make ho h
  · rename_i ho; exact s_slice ho h
  · rename_i ho; exact s_fieldAddr ho h
  · rename_i ho; exact s_field ho h
  · rename_i ho; exact s_tab ho h
  · rename_i ho; exact s_indexAddr ho h
  · rename_i ho; exact s_lookup ho h
  · rename_i ho; exact s_makeMap ho h
  · rename_i ho; exact s_mapUpdate ho h
  · rename_i ho; exact s_index ho h
  · rename_i ho; exact s_extract ho h
  · rename_i ho; exact s_makeFunc ho h
  · rename_i ho; exact s_makeMth ho h
  · rename_i ho; exact s_call hcall ho h
  · rename_i b xs Ts ho
    unfold evBuiltin at h
    split at h
    · rename_i hx hT; exact s_len ho hx hT h
    · rename_i hx hT
      rcases bset_or h with ⟨_, h1⟩ | ⟨_, h1⟩
      · exact s_appendS ho hx hT h1
      · exact s_append2 ho hx hT h1
    · rename_i hx hT; exact s_min ho hx hT h
    · rename_i hx hT; exact s_max ho hx hT h
    · cases h
  · rename_i ho; exact s_makeI ho h
  · rename_i ho; exact s_inv hcall ho h
  · cases h
end
end Go.Am
