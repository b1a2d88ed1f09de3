/- The law on string literals, in plain Lean. -/
import Derived.Test.YtmejbpmceflcjaaDoorNLit
import Derived.Test.YtmejbpmceflcjaaDoorFx
set_option linter.unusedVariables false
set_option linter.unusedSimpArgs false
namespace Go.Proofs.YtmejbpmceflcjaaDoor
open Go.Am

theorem parse_quote (m : Nat) (l : List UInt8) (hl : l.length ≤ 4096) (hm : l.length ≤ m) : notation_Parse (m + 14) ⟨(qtL l).toArray⟩ = bif Lib.validD l then some (vText l, 0, 0) else some (kza2373, 0, 4) := by
  generalize hs : (⟨(qtL l).toArray⟩ : ByteArray) = s
  have hsd : s.data.toList = qtL l := by rw [← hs]
  have hsz : s.size = (qtL l).length := by rw [← hs, mkB_size]
  have hql := qL_len l
  have hqs : (qtL l).length = (qL l).length + 2 := by simp [qtL]
  have hd : s.data.toList.drop 0 = qtL l ++ [] := by rw [List.drop_zero, List.append_nil, hsd]
  have hd2 : s.data.toList.drop 0 = 34 :: (qL l ++ [34]) := by rw [List.drop_zero, hsd]; simp [qtL]
  have hb := blanks_no (m + 11) (n := 0) hd2 (by omega) (by decide)
  have hv := value_text (m + 1) s 0 0 1 l [] hd (by omega) (by omega) hl (by omega) (by omega)
  have hb' : i7 (m + 13) (Dt.agg [Dt.str s, Dt.int 0, Dt.int 0, Dt.int 0, Dt.int 0]) = some (Q s 0 0) := hb
  rw [Nat.zero_add] at hv
  rw [notation_Parse]
  simp only [hb', Option.bind_some, hv]
  cases Lib.validD l
  · rfl
  · have he := blanks_end (m + 11) (s := s) (i := (qtL l).length) (n := 1) hsz.symm
    have e1 : decide ((((qtL l).length : Nat) : Int) < (s.size : Int)) = false := decide_eq_false (by omega)
    simp only [cond_true, Option.bind_some, he]
    show (bif decide ((((qtL l).length : Nat) : Int) < (s.size : Int)) then _ else notation_Parse_j0 (m + 13) kza2373 (Q s (qtL l).length 1) (vText l)) = _
    rw [e1]
    rfl
theorem valid_text (m : Nat) (s : ByteArray) (hs : s.size ≤ 4096) (hm : 2 * s.size + 400 ≤ m) (hm2 : m < 9223372036854775000) : ref01_Valid (m + 4) (Dt.agg [Dt.int 4, Dt.int 0, Dt.str s, Dt.lst [], Dt.lst []]) = some (Lib.validD s.data.toList) := by
  have hw : WV (Dt.agg [Dt.int 4, Dt.int 0, Dt.str s, Dt.lst [], Dt.lst []]) := .mk (fun _ h => by cases h) (fun _ h => by cases h)
  have hb : Dt.bulk (Dt.agg [Dt.int 4, Dt.int 0, Dt.str s, Dt.lst [], Dt.lst []]) = s.size + 6 := by rw [bulk_val]; simp [Dt.bulkL]
  have h1 := rValid_eq hw m (by rw [hb]; omega) hm2 (by rw [hb]; omega)
  rw [h1]
  have hp : prts (Dt.agg [Dt.int 4, Dt.int 0, Dt.str s, Dt.lst [], Dt.lst []]) = [] := rfl
  have n1 : nds (Dt.agg [Dt.int 4, Dt.int 0, Dt.str s, Dt.lst [], Dt.lst []]) = 1 := by rw [nds_eq hw, hp]; rfl
  have d1 : dpt (Dt.agg [Dt.int 4, Dt.int 0, Dt.str s, Dt.lst [], Dt.lst []]) = 1 := by rw [dpt_eq hw, hp]; rfl
  have e : decide ((s.size : Int) ≤ 4096) = true := decide_eq_true (by omega)
  unfold okV
  rw [n1, d1, hb]
  show some (decide (1 ≤ 1024) && decide (1 ≤ 16) && (true && (decide ((s.size : Int) ≤ 4096) && Lib.validD s.data.toList))) = _
  rw [e]
  simp
theorem law_nquotes (s : ByteArray) : law05_NotationQuotes (400000000000 + 1) s = some true := by
  rw [law05_NotationQuotes]
  by_cases h : 2000 < s.size
  · have e : decide ((2000 : Int) < (s.size : Int)) = true := decide_eq_true (by omega)
    simp only [e, cond_true, awakeC, Option.bind_some]
  have e : decide ((2000 : Int) < (s.size : Int)) = false := decide_eq_false (by omega)
  have h1 : notation_Quote 400000000000 s = some ⟨(qtL s.data.toList).toArray⟩ := quote_eq 399999999999 s (by omega) (by omega)
  have h2 : ref05_Quote 400000000000 s = some ⟨(qtL s.data.toList).toArray⟩ := rquote_eq 399999999998 s (by omega) (by omega)
  have h3 : notation_Parse 400000000000 ⟨(qtL s.data.toList).toArray⟩ = _ := parse_quote 399999999986 s.data.toList (by rw [lenB]; omega) (by rw [lenB]; omega)
  have h4 : ref01_Valid 400000000000 (Dt.agg [Dt.int 4, Dt.int 0, Dt.str s, Dt.lst [], Dt.lst []]) = some (Lib.validD s.data.toList) := valid_text 399999999996 s (by omega) (by omega) (by omega)
  simp only [e, cond_false, law05_NotationQuotes_j0, h1, h2, Option.bind_some, beq_self_eq_true, Bool.not_true, law05_NotationQuotes_j1, h3, h4]
  cases Lib.validD s.data.toList
  · simp only [cond_false, Option.bind_some, Bool.not_false, cond_true, awakeC, beq_self_eq_true]
  · have ek : Dt.I (vText s.data.toList) 0 = 4 := rfl
    have et : Dt.S (vText s.data.toList) 2 = s := mkB_self s
    simp only [cond_true, Option.bind_some, Bool.not_true, cond_false, law05_NotationQuotes_j2, ek, et, beq_self_eq_true, awakeC]
theorem nquotes_fx {ds : List Dt} (h : HasTys Tryd.prog Tryd.f3.params.toList ds) : FX Tryd.prog 3 (dats Tryd.f3.params.toList ds) [] (.dat 4 (.bool true)) [] := by
  have h' : HasTys Tryd.prog [9] ds := h
  cases h' with
  | @cons _ d _ _ h1 r =>
    cases r
    obtain ⟨e, _⟩ := ty_str Tryd.underlying9 h1
    rw [e]
    exact law05_NotationQuotes_fx 400000000000 (ct_ok 400000000000) _ (law_nquotes d.toStr)
end Go.Proofs.YtmejbpmceflcjaaDoor
