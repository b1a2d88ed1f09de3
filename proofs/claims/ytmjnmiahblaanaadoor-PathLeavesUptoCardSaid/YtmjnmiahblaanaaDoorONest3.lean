/- path.nest as the machine sees it. -/
import Derived.Test.YtmjnmiahblaanaaDoorONest2
set_option linter.unusedVariables false
set_option linter.unusedSimpArgs false
namespace Go.Proofs.YtmjnmiahblaanaaDoor
open Go.RowKit Go.Shelf Go.Am

def nestD (es : List Dt) (x : Dt) : Dt := es.foldr (fun e d => wrapD e.toStr d) x

theorem nestR_snoc (pre : List (Int × BS)) (y : Int × BS) (x : Dt) : nestR (pre ++ [y]) x = wrapD y.2.1 (nestR pre x) := by simp [nestR, List.foldl_append]

theorem nestR_upto (es : List Dt) (x : Dt) (ss : Nat → BS) (hss : ∀ j e, es[j]? = some e → (ss j).1 = e.toStr) : ∀ k, k ≤ es.length → nestR (upto (bk es.length ss) k) x = nestD (es.drop (es.length - k)) x
  | 0, _ => by simp [upto, nestR, nestD]
  | k + 1, hk => by
    rw [upto_succ, nestR_snoc, nestR_upto es x ss hss k (by omega)]
    have hlt : es.length - (k + 1) < es.length := by omega
    rw [List.drop_eq_getElem_cons hlt, show es.length - (k + 1) + 1 = es.length - k by omega]
    show _ = wrapD _ _
    have := hss (es.length - (k + 1)) _ (List.getElem?_eq_getElem hlt)
    rw [show (bk es.length ss k).2 = ss (es.length - (k + 1)) from congrArg ss (by omega : es.length - 1 - k = es.length - (k + 1)), this]
    rfl

theorem list5 {cs : List Value} (h : cs.length = 5) : ∃ a b c d e, cs = [a, b, c, d, e] := by
  match cs, h with
  | [a, b, c, d, e], _ => exact ⟨a, b, c, d, e, rfl⟩

theorem spot_none {w : World} {ad : Addr} {v : Value} (h : w.cell? ad = some v) : ad = ⟨ad.block, ad.off, none⟩ := by
  obtain ⟨b, o, sp⟩ := ad
  cases sp with
  | none => rfl
  | some k =>
    simp only [World.cell?] at h
    split at h <;> simp at h

theorem agg_sl {P : Program} {T E : TypeId} (h : P.underlying T = some (.slice E)) (d : Dt) : AV.isAgg P (.dat T d) = false := by
  show aggT P T = false
  unfold aggT
  rw [h]
theorem agg_st {P : Program} {T : TypeId} {fs : Array Field} (h : P.underlying T = some (.struct fs)) (d : Dt) : AV.isAgg P (.dat T d) = true := by
  show aggT P T = true
  unfold aggT
  rw [h]
theorem agg23 (d : Dt) : AV.isAgg Tryd.prog (.dat 23 d) = false := agg_sl Tryd.underlying23 d
theorem agg36 (d : Dt) : AV.isAgg Tryd.prog (.dat 36 d) = true := agg_st Tryd.underlying36 d

theorem nest_fx (es : List Dt) (x : Dt) : FX Tryd.prog 74 [.dat 23 (.lst es), .dat 36 x] [] (.dat 36 (nestD es x)) [] := by
  refine fx_nil fun ok w β vs hok hvs => ?_
  obtain ⟨u, v, rfl, hu, hv⟩ := hvs.two
  obtain ⟨cs, rfl, hra⟩ := hv.1 (agg36 _)
  have hmax : maxLen = 9223372036854775807 := rfl
  cases hra with
  | dat hrd =>
    obtain ⟨_, hcl, _, _⟩ := hrd.agg_inv Tryd.underlying36
    rw [c36] at hcl
    obtain ⟨c0, c1, c2, c3, c4, rfl⟩ := list5 hcl
    cases hu.2 (agg23 _) with
    | dat h =>
      obtain ⟨_, a, cap, ad, g, hv', hc, hm, ha, hg, hd⟩ := h.lst_inv Tryd.underlying23
      simp only [Dt.toLst] at hv' hc ha hg hd
      obtain rfl : u = .slice a es.length cap := by simpa using hv'
      have hz : ∀ (j : Nat) (e : Dt), es[j]? = some e → e.toStr.size ≤ maxLen := fun j e he => ((hd j e he).str_inv Tryd.underlying9).2.2
      obtain ⟨ss, hss⟩ : ∃ ss : Nat → BS, ∀ j e, es[j]? = some e → (ss j).1 = e.toStr := by
        refine ⟨fun j => if h : (((es[j]?).map Dt.toStr).getD ByteArray.empty).size ≤ maxLen then ⟨_, h⟩ else ⟨ByteArray.empty, by decide⟩, fun j e he => ?_⟩
        have h := hz j e he
        simp [he, h]
      have hst : StrsAt w.heap.size w a es.length ss := by
        by_cases h0 : es.length = 0
        · exact .inl h0
        · obtain ⟨rfl, hok'⟩ := ha (by omega)
          have hcell : ∀ (j : Nat), j < es.length → w.cell? (ad.add j) = some (.string (ss j).1) := by
            intro j hj
            obtain ⟨h1, h2, h3⟩ := hg j hj
            have he := List.getElem?_eq_getElem hj
            obtain ⟨_, hcs, _⟩ := (hd j _ he).str_inv Tryd.underlying9
            have := h3 0 (.string (es[j]).toStr) (by rw [hcs]; rfl)
            rw [c9, Nat.mul_one, Nat.add_zero] at this
            rw [hss j _ he]
            exact this
          have h00 := hcell 0 (by omega)
          have e0 : ad.add 0 = ad := by unfold Addr.add; simp
          rw [e0] at h00
          have hsp := spot_none h00
          refine .inr ⟨ad.block, ad.off, by rw [← hsp], hok _ hok', fun j hj => ?_⟩
          rw [← add_mk, ← hsp]
          exact hcell j hj
      have hn := callsIn_wide.1 (nest_in Fence.wide 3 trivial trivial trivial rfl (Nat.le_refl _) a es.length cap c0 c1 c2 c3 c4 w ok hok x ss (by omega) hst hrd)
      refine hn.mono ?_
      rintro e w' ⟨e0, e1, e2, e3, e4, rfl, hb, hr⟩
      refine ⟨_, rfl, hb, ⟨fun _ => ⟨[e0, e1, e2, e3, e4], rfl, RA.dat ?_⟩, fun h => (by rw [agg36] at h; cases h)⟩⟩
      have e := nestR_upto es x ss hss es.length (Nat.le_refl _)
      rw [Nat.sub_self, List.drop_zero] at e
      rw [← e]
      exact hr
end Go.Proofs.YtmjnmiahblaanaaDoor
