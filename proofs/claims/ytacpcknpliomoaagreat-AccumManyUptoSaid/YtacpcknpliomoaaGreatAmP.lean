/- The abstract machine: pointers to memory that nobody changes any more, as plain data: nil is no element, else one. -/
import Derived.Test.YtacpcknpliomoaaGreatAm8
set_option linter.unusedVariables false
set_option linter.unusedSimpArgs false
namespace Go.Am
open Go.RowKit
/-- A pointer type's pointee. -/
def ppE (P : Program) (T : TypeId) : Option TypeId := match P.underlying T with
  | some (.pointer E) => some E
  | _ => none
theorem ppE_some {P : Program} {T E : TypeId} (h : ppE P T = some E) : P.underlying T = some (.pointer E) := by
  unfold ppE at h
  split at h
  · rename_i E' hu; cases h; exact hu
  · cases h
section
variable {P : Program} {n : Nat} {o : Oper} {σ σ' : St} {x y : Operand} {v : AV} {T : TypeId}
/-- The box 'l' is from now on plain data. -/
theorem RelB.frzBox {K : OkX} {w0 w : World} {a : Act} {β : Nat → Option Value} (r : RelB P K w0 n σ a w β) {l : Nat} {c : AV} {d : Dt} {PT : TypeId} (hl : lk σ.hs l = .box T c) (hp : pk P σ.hs c = some (T, d)) (hu : P.underlying PT = some (.pointer T)) :
    RelB P K w0 n (σ.lay l (.frz PT [d])) a w β := by
  have hob := r.hs l
  rw [hl] at hob
  obtain ⟨b, cs, hz, hh, hsz, hra⟩ := hob
  have hrd := pk_sound r.frzOK hra hp
  have hown2 : ∀ k b, owns (setO σ.hs l (.frz PT [d])) β k b → k ≠ l ∧ owns σ.hs β k b := by
    rintro k b ⟨h1, z, h2, h3⟩
    by_cases hkl : k = l
    · subst hkl; rw [lk_same] at h1; cases h1
    · rw [lk_other _ _ _ _ hkl] at h1; exact ⟨hkl, h1, z, h2, h3⟩
  have hk : ∀ b, okOf K w0 w σ.hs β b → okOf K w0 w (setO σ.hs l (.frz PT [d])) β b ∧ w.heap[b]? = w.heap[b]? := fun b hb => ⟨⟨hb.1, hb.2.1, fun k hk => hb.2.2 k (hown2 k b hk).2⟩, rfl⟩
  have hold : owns σ.hs β l b := ⟨by rw [hl]; rfl, _, hz, .inl rfl⟩
  refine ⟨r.size, r.defers, r.below, fun k => (r.ts k).mono hk (Ext.refl _), fun k => ?_, fun k k' b h1 h2 => r.sep k k' b (hown2 _ _ h1).2 (hown2 _ _ h2).2, fun k b h1 => r.own k b (hown2 _ _ h1).2, r.ext, r.kk, r.tab.mono hk⟩
  show ObOK P _ w β (lk (setO σ.hs l (.frz PT [d])) k) _
  by_cases hkl : k = l
  · subst hkl
    rw [lk_same, hz]
    refine ⟨_, rfl, aggT_of_not hu rfl, .ptr (cs := cs.toList) ⟨b, 0, none⟩ hu ⟨r.blk_lt hold, fun hlt => ?_, fun k' hk' => ?_⟩ (by rw [Array.length_toList]; exact hsz) (fun j u hj => ?_) (hrd.mono hk)⟩
    · have hlt' : b < w0.heap.size := hlt
      rcases r.own _ b hold with h2 | h2
      · omega
      · exact .inr h2
    · obtain ⟨h2, h3⟩ := hown2 k' b hk'
      exact h2 (r.sep _ _ _ h3 hold)
    · rw [add_mk, Nat.zero_add]
      simp only [World.cell?, hh]
      rw [Array.getElem?_toList] at hj
      simpa using hj
  · rw [lk_other _ _ _ _ hkl]
    exact (r.hs k).mono hk (fun _ _ _ _ _ => rfl) (Ext.refl _)
/-- A pointer to frozen memory, as what it points to. -/
theorem Ev.pd {E : TypeId} {d e : Dt} (h : Ev P σ x (.dat T d)) (hu : P.underlying T = some (.pointer E)) (hi : idx d.toLst 0 = some e) : Ev P σ x (.rptr E e) := fun ok0 w0 n a w β r => by
  have h1 := (RV.dat_one (aggT_of_not hu rfl)).1 (h _ _ _ _ _ _ r)
  obtain ⟨_, h2⟩ := h1.ptr_inv hu
  rcases h2 with ⟨h3, _⟩ | ⟨e', ad, c, h3, h4, h5, h6, h7, h8⟩
  · rw [h3] at hi; cases hi
  · rw [h3] at hi
    cases hi
    have e4 : a.eval x = .pointer (some ad) := by simpa using h4
    rw [e4]
    exact rptr_rv h5 h6 h7 h8
theorem run_pnil {T1 E : TypeId} (w : World) (hu : P.underlying T1 = some (.pointer E)) (p : Option Addr) : (Op.equal T1 (.pointer p) (.pointer none)).run P w = .ok p.isNone w := by
  have key : ∀ d : Nat, (Op.equalIn (d + 1) T1 (.pointer p) (.pointer none)).run P w = .ok p.isNone w := fun d => by cases p <;> simp [Op.equalIn, run_underlying hu]
  simp only [Op.equal, Op.maxDepth]
  exact key 9999
/-- A pointer beside the literal nil. -/
theorem op_pnil {d : Nat} {op : BinOp} {T2 TB E : TypeId} {p : Dt} {b : Bool} (ho : o.op = .binOp op T x (.const (.pointer none)) T2) (hd : o.dst = some d) (hn : d < n) (hb : P.underlying TB = some .bool) (hu : P.underlying T = some (.pointer E))
    (hx : Ev P σ x (.dat T p)) (hop : (op = .eql ∧ b = p.toLst.isEmpty) ∨ (op = .neq ∧ b = !p.toLst.isEmpty)) : OpOK P n o σ (σ.put d (.dat TB (.bool b))) :=
  opOK_val hd hn fun ok0 w0 a w β r => by
    have h1 := (RV.dat_one (aggT_of_not hu rfl)).1 (hx _ _ _ _ _ _ r)
    obtain ⟨_, h2⟩ := h1.ptr_inv hu
    have key : ∃ q : Option Addr, a.eval x = .pointer q ∧ q.isNone = p.toLst.isEmpty := by
      rcases h2 with ⟨h3, h4⟩ | ⟨e', ad, c, h3, h4, _⟩
      · exact ⟨none, by simpa using h4, by rw [h3]; rfl⟩
      · exact ⟨some ad, by simpa using h4, by rw [h3]; rfl⟩
    obtain ⟨q, e1, e2⟩ := key
    have e3 : a.eval (.const (.pointer none)) = .pointer none := rfl
    refine ⟨.bool b, ?_, RV.mk_bool hb⟩
    unfold execOp
    rcases hop with ⟨rfl, rfl⟩ | ⟨rfl, rfl⟩
    · simp only [ho, e1, e3]
      simp [eqGuard, binOp, run_pnil w hu q, e2]
    · simp only [ho, e1, e3]
      simp [eqGuard, binOp, run_pnil w hu q, e2]
end
end Go.Am
