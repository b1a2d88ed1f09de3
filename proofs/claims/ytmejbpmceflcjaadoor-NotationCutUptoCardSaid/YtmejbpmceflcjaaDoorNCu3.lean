/- The law on the beginnings of printed texts, in plain Lean. -/
import Derived.Test.YtmejbpmceflcjaaDoorNCu2
import Derived.Test.YtmejbpmceflcjaaDoorNPrL
set_option linter.unusedVariables false
set_option linter.unusedSimpArgs false
namespace Go.Proofs.YtmejbpmceflcjaaDoor
open Go.Am

theorem opn_cut (m : Nat) (s : ByteArray) (i n : Nat) (lv : Int) (late : Bool) (c : UInt8) (t : List UInt8) (h : Cu s i (c :: t)) (hs : s.size < 1000000000000) (hlv : lv ≤ 16) (hn : n < 1024) (hc : opn c)
    (hgo : i < s.size → Fl (i25_j3 (m + 1) (i35 (m + 1)) (i36 (m + 1)) lv (c.toNat : Int) (Q s i (n + 1)) kza2373) s) : Fl (i25 (m + 2) lv late (Q s i n)) s := by
  rcases cu_cons h with h0 | ⟨⟨p, hp⟩, _⟩
  · rw [cu_end h0 h.1]
    exact ⟨_, _, val_end m s n lv late⟩
  · obtain ⟨hlt, _, _⟩ := dr_cons hp
    rw [val_opn m s i n lv late c p hp hs hlv hn hc]
    exact hgo hlt
theorem fl_bind {f : Option (Dt × Bool × Dt)} {s : ByteArray} (h : Fl f s) : Fl (f.bind fun r => some (r.1, r.2.1, r.2.2)) s := by
  obtain ⟨v, n, e⟩ := h
  rw [e]; exact ⟨v, n, rfl⟩
theorem sp_cut (m : Nat) (hm : 5000 ≤ m) (s : ByteArray) (hs : s.size < 1000000000000) (lv : Int) (hlv : 0 ≤ lv ∧ lv ≤ 16) (late : Bool) (nm : ByteArray) (v : Dt) (t : List UInt8) (i n : Nat) (hn : n < 1024) (T : List UInt8) (hT : T = [123] ++ (qtL nm.data.toList ++ ([58] ++ (t ++ [125])))) (h : Cu s i T) (hw : wd nm = true) (hsp : isSp nm = true)
    (hv : (∃ x : Int, v = vInt x ∧ t = Lib.itoa x ∧ rgI x) ∨ (∃ l : List UInt8, v = vText l ∧ t = qtL l ∧ l.length ≤ 4096 ∧ Lib.validD l = true)) :
    Fl (i25 (m + 20) lv late (Q s i n)) s := by
  subst hT
  refine opn_cut (m + 18) s i n lv late 123 _ h hs hlv.2 hn (by unfold opn; simp) fun hlt => ?_
  have hg : [123] ++ (qtL nm.data.toList ++ ([58] ++ (t ++ [125]))) = [123] ++ (lsF (ftx fun _ => t) 0 [Dt.agg [Dt.str nm, v]] ++ [125]) := by
    show _ = [123] ++ (([] ++ ((qtL nm.data.toList ++ ([58] ++ t)) ++ [])) ++ [125])
    simp
  rw [hg] at h
  have hth : hdOK t := by
    rcases hv with ⟨x, _, rfl, _⟩ | ⟨l, _, rfl, _⟩
    · exact itoa_hd x
    · exact qt_hd l
  have ho : Fl (i36 (m + 7 + 12) lv (Q s i (n + 1))) s := by
    refine obj_cut' (m + 7) (by omega) s hs (fun _ => t) lv ⟨hlv.1, by omega⟩ [Dt.agg [Dt.str nm, v]] i (n + 1) h hlt fun f r hfr h2 => ?_
    injection hfr with e1 e2
    subst e1 e2
    refine obj_cut (m + 7) (by omega) _ s hs (fun _ => t) lv ⟨hlv.1, by omega⟩ kza2373 [] (Dt.agg [Dt.str nm, v]) [] (m + 19) (i + 1) (n + 1) 0 [] true (n + 1) hsp.symm h2 (by simp) ?_ mapS_nil hth rfl ?_ ?_ (fun h => absurd rfl h) (fun x hx => by cases hx) (by simp)
    · show (wd nm && true && true && true) = true
      rw [hw]; rfl
    · intro j rest hj hdj hr
      rcases hv with ⟨x, rfl, rfl, hx⟩ | ⟨l, rfl, rfl, hl, hva⟩
      · have := val_int (m - 13) s j (n + 1) (lv + 1) true x hx.1 hx.2 rest hdj hj hs hr (fun h => by cases h)
        rw [show m - 13 + 31 = m + 7 + 11 by omega] at this
        exact this
      · exact val_text (m + 6) s j (n + 1) (lv + 1) true l rest hdj hs (by omega) hl hva (fun h => by cases h)
    · intro j hj
      rcases hv with ⟨x, rfl, rfl, hx⟩ | ⟨l, rfl, rfl, hl, hva⟩
      · have := val_int_cut (m - 13) s j (n + 1) (lv + 1) true x hx.1 hx.2 hj hs (fun h => by cases h)
        rw [show m - 13 + 31 = m + 7 + 11 by omega] at this
        exact this
      · exact .inl (val_text_cut (m + 6) s j (n + 1) (lv + 1) true l hj hs (by omega) (by omega) (fun h => by cases h))
  exact fl_bind ho
theorem word_fl (m : Nat) (s : ByteArray) (i n : Nat) (lv : Int) (late : Bool) (c : UInt8) (t : List UInt8) (w : ByteArray) (hwt : w.data.toList = c :: t) (hwz : w.size < 1000 ∧ w.size ≤ m) (h : Cu s i (c :: t)) (hs : s.size < 1000000000000) (hlv : lv ≤ 16) (hn : n < 1024) (hc : opn c)
    (hj : ∃ x : Dt, i25_j3 (m + 3) (i35 (m + 3)) (i36 (m + 3)) lv (c.toNat : Int) (Q s i (n + 1)) kza2373 = (i42 (m + 3) w (Q s i (n + 1))).bind fun r5 => some (x, r5.1, r5.2)) : Fl (i25 (m + 4) lv late (Q s i n)) s := by
  refine opn_cut (m + 2) s i n lv late c t h hs hlv hn hc fun hlt => ?_
  obtain ⟨x, hj⟩ := hj
  rw [hj, word_cut' (m + 1) s i (n + 1) hs w hwz.1 (by omega) (by rw [hwt]; exact h)]
  exact ⟨_, _, rfl⟩
theorem read_cut : ∀ (N : Nat) (d : Dt), d.bulk ≤ N → N ≤ 100000000 → WV d → WR d → sndF wd N d = true → perr N d = 0 → ∀ (s : ByteArray), s.size < 1000000000000 → ∀ (lv m : Nat), lv + dpt d ≤ 17 → 2 * N + 6000 ≤ m → RC (i25 m) s (lv : Int) d (txt N d) ∧ (Dt.I d 0 ≠ 3 → ∀ (late : Bool) (n i : Nat), n + nds d ≤ 1024 → Cu s i (txt N d) → Fl (i25 m (lv : Int) late (Q s i n)) s)
  | 0, d, h, _, _, _, _, _, _, _, _, _, _, _ => by have := bulk_pos d; omega
  | N + 1, d, hb, hN, hw, hr, hsd, hpe, s, hs, lv, m, hlv, hm => by
    obtain ⟨m, rfl⟩ : ∃ q, m = q + 40 := ⟨m - 40, by omega⟩
    obtain ⟨p1, p2, p3, p4⟩ := wv_parts hw
    obtain ⟨r1, r3, r4⟩ := wr_parts hr
    obtain ⟨hk, hs6, hs5⟩ := snd_kind hsd
    obtain ⟨b9, b10, b4, b8⟩ := snd_body hsd
    have hdp := dpt_pos hw
    have hnd1 := nds_pos hw
    suffices H : (Dt.I d 0 ≠ 3 → ∀ (late : Bool) (n i : Nat), n + nds d ≤ 1024 → Cu s i (txt (N + 1) d) → Fl (i25 (m + 40) (lv : Int) late (Q s i n)) s) from by
      refine ⟨fun late n i hn h => ?_, H⟩
      by_cases e3 : Dt.I d 0 = 3
      · have ht : txt (N + 1) d = Lib.itoa (Dt.I d 1) := by simp only [txt]; rw [e3]; rfl
        rw [ht] at h
        exact val_int_cut (m + 9) s i n (lv : Int) late (Dt.I d 1) r1.1 r1.2 h hs (fun _ => ⟨by omega, by omega⟩)
      · exact .inl (H e3 late n i hn h)
    intro ne3 late n i hn h
    obtain ⟨q1, q2, q3, q4, q5⟩ := nm_facts
    obtain ⟨z1, z2, z3, z4, z5, z6, z7, z8, z9, z10, z11, z12, z13, z14, z15⟩ := nm_eqb
    have spc1 : ∀ (nm : ByteArray) (v : Dt) (t : List UInt8) (T : List UInt8), txt (N + 1) d = T → T = [123] ++ (qtL nm.data.toList ++ ([58] ++ (t ++ [125]))) → wd nm = true → isSp nm = true →
        ((∃ x : Int, v = vInt x ∧ t = Lib.itoa x ∧ rgI x) ∨ (∃ l : List UInt8, v = vText l ∧ t = qtL l ∧ l.length ≤ 4096 ∧ Lib.validD l = true)) → Fl (i25 (m + 40) (lv : Int) late (Q s i n)) s := fun nm v t T e1 e2 hwn hsf hv => by
      rw [e1] at h
      exact sp_cut (m + 20) (by omega) s hs (lv : Int) ⟨by omega, by omega⟩ late nm v t i n (by omega) T e2 h hwn hsf hv
    rcases kcase (Dt.I d 0) with e | e | e | e | e | e | e | e | e | e | e | hk2
    · exact spc1 nmMin (vInt 1) (Lib.itoa 1) litMin (by simp only [txt]; rw [e]; rfl) (by rw [itoa1]; decide) q4 (by unfold isSp; rw [z7, z8, z9, z10]; rfl) (.inl ⟨1, rfl, rfl, by unfold rgI; omega⟩)
    · have ht : txt (N + 1) d = litNull := by simp only [txt]; rw [e]; rfl
      rw [ht] at h
      exact word_fl (m + 36) s i n (lv : Int) late 110 _ (ByteArray.mk (List.toArray [110, 117, 108, 108])) rfl (by rw [mkB_size]; simp) h hs (by omega) (by omega) (by unfold opn; simp) ⟨_, rfl⟩
    · exact absurd e ne3
    · obtain ⟨c1, c2⟩ := b4 e
      have ht : txt (N + 1) d = qtL (Dt.S d 2).data.toList := by simp only [txt]; rw [e]; rfl
      rw [ht] at h
      exact val_text_cut (m + 28) s i n (lv : Int) late (Dt.S d 2).data.toList h hs (by rw [lenB]; omega) (by rw [lenB]; omega) (fun _ => ⟨by omega, by omega⟩)
    · have ht : txt (N + 1) d = [123] ++ (lsF (ftx (txt N)) 0 (Dt.L d 4) ++ [125]) := by simp only [txt]; rw [e]; rfl
      have hpe2 : erF (fun f => perr N (Dt.fld f 1)) (Dt.L d 4) = 0 := by
        simp only [perr] at hpe
        rw [e] at hpe
        have hpe : (bif spc (Dt.L d 4) then (4 : Int) else erF (fun f => perr N (Dt.fld f 1)) (Dt.L d 4)) = 0 := hpe
        cases hs : spc (Dt.L d 4)
        · rw [hs] at hpe; exact hpe
        · rw [hs] at hpe; cases hpe
      have hfl : fl wd (fun _ => true) [] (Dt.L d 4) = true := by
        have h1 : fl wd (sndF wd N) [] (Dt.L d 4) = true := by
          have := hsd
          rw [sndF_5 wd N d e] at this
          exact (Bool.and_eq_true_iff.1 this).2
        have key : ∀ (L : List Dt) (seen : List ByteArray), fl wd (sndF wd N) seen L = true → fl wd (fun _ => true) seen L = true := by
          intro L
          induction L with
          | nil => intro _ _; rfl
          | cons a r ih =>
            intro seen h
            simp only [fl, Bool.and_eq_true] at h ⊢
            exact ⟨⟨h.1.1, trivial⟩, ih _ h.2⟩
        exact key _ _ h1
      have hmem : ∀ f ∈ Dt.L d 4, Dt.fld f 1 ∈ prts d := fun f hf => by
        rw [prts5 (by rw [e]; rfl) (by rw [e]; rfl)]
        exact List.mem_map.2 ⟨f, hf, rfl⟩
      have hH : ∀ x ∈ Dt.L d 4, HC (i25 (m + 38)) s (lv : Int) (txt N) x := fun x hx => by
        obtain ⟨hwx, hbx⟩ := p4 x hx
        have hdx := dpt_part hw (hmem x hx)
        have hsx := hs5 e x hx
        obtain ⟨N', rfl⟩ : ∃ q, N = q + 1 := ⟨N - 1, by have := bulk_pos (Dt.fld x 1); omega⟩
        have hkx := (snd_kind hsx).1
        refine ⟨?_, ?_, txt_hd N' _ hkx, nds_pos hwx, ?_⟩
        · exact read_value (N' + 1) (Dt.fld x 1) (by omega) (by omega) hwx (r4 x hx) hsx (erF_zero hpe2 x hx) s hs (lv + 1) (m + 38) (by omega) (by omega)
        · exact (read_cut (N' + 1) (Dt.fld x 1) (by omega) (by omega) hwx (r4 x hx) hsx (erF_zero hpe2 x hx) s hs (lv + 1) (m + 38) (by omega) (by omega)).1
        · cases hw with
          | mk hl hdd =>
            cases hdd x hx with
            | mk hv => rfl
      rw [ht] at h
      have hnn := nds_d hw e
      refine opn_cut (m + 38) s i n (lv : Int) late 123 _ h hs (by omega) (by omega) (by unfold opn; simp) fun hlt => ?_
      have ho : Fl (i36 (m + 27 + 12) (lv : Int) (Q s i (n + 1))) s := by
        refine obj_cut' (m + 27) (by omega) s hs (txt N) (lv : Int) ⟨by omega, by omega⟩ (Dt.L d 4) i (n + 1) h hlt fun f r hfr h2 => ?_
        rw [hfr] at hH hfl hnn hmem p2 p4
        have hF := hH f (List.mem_cons_self ..)
        simp only [List.map_cons, List.sum_cons] at hnn
        rw [List.length_cons] at p2
        have hdx := dpt_part hw (hmem f (List.mem_cons_self ..))
        have hd1 := dpt_pos (p4 f (List.mem_cons_self ..)).1
        have hal := adj_le (late := isSp (Dt.S f 0)) hF.one
        exact obj_cut (m + 27) (by omega) _ s hs (txt N) (lv : Int) ⟨by omega, by omega⟩ kza2373 r f [] (m + 39) (i + 1) (n + 1) 0 [] (isSp (Dt.S f 0)) (n + 1 + nds (Dt.fld f 1) - adj (isSp (Dt.S f 0)) (Dt.fld f 1)) rfl h2 (by omega) hfl mapS_nil hF.hd hF.eq
          (fun j rest hj hdj hr => hF.rd (isSp (Dt.S f 0)) (n + 1) j rest (by omega) hj hdj hr)
          (fun j hj => hF.rc (isSp (Dt.S f 0)) (n + 1) j (by omega) hj)
          (fun _ => ⟨by omega, by omega⟩) (fun x hx => hH x (List.mem_cons_of_mem _ hx)) (by simp; omega)
      exact fl_bind ho
    · have ht : txt (N + 1) d = [91] ++ (lsF (txt N) 0 (Dt.L d 3) ++ [93]) := by simp only [txt]; rw [e]; rfl
      have hpe2 : erF (perr N) (Dt.L d 3) = 0 := by
        simp only [perr] at hpe
        rw [e] at hpe
        exact hpe
      have hmem : ∀ f ∈ Dt.L d 3, f ∈ prts d := fun f hf => by
        rw [prts6 (by rw [e]; rfl)]
        exact hf
      have hH : ∀ x ∈ Dt.L d 3, Rd (i25 (m + 38)) s ((lv : Int) + 1) x (txt N x) ∧ RC (i25 (m + 38)) s ((lv : Int) + 1) x (txt N x) ∧ hdOK (txt N x) ∧ 1 ≤ nds x := fun x hx => by
        obtain ⟨hwx, hbx⟩ := p3 x hx
        have hdx := dpt_part hw (hmem x hx)
        have hsx := hs6 e x hx
        obtain ⟨N', rfl⟩ : ∃ q, N = q + 1 := ⟨N - 1, by have := bulk_pos x; omega⟩
        have hkx := (snd_kind hsx).1
        exact ⟨read_value (N' + 1) x (by omega) (by omega) hwx (r3 x hx) hsx (erF_zero hpe2 x hx) s hs (lv + 1) (m + 38) (by omega) (by omega), (read_cut (N' + 1) x (by omega) (by omega) hwx (r3 x hx) hsx (erF_zero hpe2 x hx) s hs (lv + 1) (m + 38) (by omega) (by omega)).1, txt_hd N' _ hkx, nds_pos hwx⟩
      rw [ht] at h
      have hnn := nds_l hw e
      refine opn_cut (m + 38) s i n (lv : Int) late 91 _ h hs (by omega) (by omega) (by unfold opn; simp) fun hlt => ?_
      exact fl_bind (list_cut' (m + 35) s hs (txt N) (lv : Int) ⟨by omega, by omega⟩ (Dt.L d 3) i (n + 1) h hlt (by omega) (by omega) hH (by omega))
    · have hpe2 : (Dt.S d 2).size ≤ 2048 := by
        simp only [perr] at hpe
        rw [e] at hpe
        have hpe : (bif decide ((2048 : Int) < ((Dt.S d 2).size : Int)) then (2 : Int) else 0) = 0 := hpe
        cases h : decide ((2048 : Int) < ((Dt.S d 2).size : Int))
        · have := of_decide_eq_false h; omega
        · rw [h] at hpe; cases hpe
      have hxl := hxL_len (Dt.S d 2).data.toList
      rw [lenB] at hxl
      have hqh : qtL (hxL (Dt.S d 2).data.toList) = [34] ++ (hxL (Dt.S d 2).data.toList ++ [34]) := by unfold qtL; rw [qL_hx]
      refine spc1 nmBytes (vText (hxL (Dt.S d 2).data.toList)) (qtL (hxL (Dt.S d 2).data.toList)) (litBytes ++ (hxL (Dt.S d 2).data.toList ++ litEnd)) (by simp only [txt]; rw [e]; rfl) ?_ q2 (by unfold isSp; rw [z2, z3]; rfl) (.inr ⟨_, rfl, rfl, by omega, valid_hx _⟩)
      rw [hqh]
      simp only [List.append_assoc]
      rfl
    · have h12 := b8 e
      have hxl := hxL_len (Dt.S d 2).data.toList
      rw [lenB] at hxl
      have hqh : qtL (hxL (Dt.S d 2).data.toList) = [34] ++ (hxL (Dt.S d 2).data.toList ++ [34]) := by unfold qtL; rw [qL_hx]
      refine spc1 nmId (vText (hxL (Dt.S d 2).data.toList)) (qtL (hxL (Dt.S d 2).data.toList)) (litId ++ (hxL (Dt.S d 2).data.toList ++ litEnd)) (by simp only [txt]; rw [e]; rfl) ?_ q1 (by unfold isSp; rw [z1]; rfl) (.inr ⟨_, rfl, rfl, by omega, valid_hx _⟩)
      rw [hqh]
      simp only [List.append_assoc]
      rfl
    · rcases b9 e with h0 | h0
      · have ht : txt (N + 1) d = litFalse := by simp only [txt]; rw [e, h0]; rfl
        rw [ht] at h
        exact word_fl (m + 36) s i n (lv : Int) late 102 _ (ByteArray.mk (List.toArray [102, 97, 108, 115, 101])) rfl (by rw [mkB_size]; simp) h hs (by omega) (by omega) (by unfold opn; simp) ⟨_, rfl⟩
      · have ht : txt (N + 1) d = litTrue := by simp only [txt]; rw [e, h0]; rfl
        rw [ht] at h
        exact word_fl (m + 36) s i n (lv : Int) late 116 _ (ByteArray.mk (List.toArray [116, 114, 117, 101])) rfl (by rw [mkB_size]; simp) h hs (by omega) (by omega) (by unfold opn; simp) ⟨_, rfl⟩
    · refine spc1 nmTime (vInt (Dt.I d 1)) (Lib.itoa (Dt.I d 1)) (litTime ++ (Lib.itoa (Dt.I d 1) ++ [125])) (by simp only [txt]; rw [e]; rfl) ?_ q3 (by unfold isSp; rw [z4, z5, z6]; rfl) (.inl ⟨_, rfl, rfl, r1⟩)
      rw [show [123] ++ (qtL nmTime.data.toList ++ ([58] ++ (Lib.itoa (Dt.I d 1) ++ [125]))) = ([123] ++ (qtL nmTime.data.toList ++ [58])) ++ (Lib.itoa (Dt.I d 1) ++ [125]) by simp]
      congr 1
    · exact spc1 nmMax (vInt 1) (Lib.itoa 1) litMax (by simp only [txt]; rw [e]; rfl) (by rw [itoa1]; decide) q5 (by unfold isSp; rw [z11, z12, z13, z14, z15]; rfl) (.inl ⟨1, rfl, rfl, by unfold rgI; omega⟩)
    · omega
/-- A proper beginning of a printed text. -/
theorem parse_cut (m : Nat) (d : Dt) (hb : d.bulk ≤ 10000000) (hw : WV d) (hr : WR d) (hok : okF d = true) (hpe : perr d.bulk d = 0) (h3 : Dt.I d 0 ≠ 3) (p q : List UInt8) (hpq : txt d.bulk d = p ++ q) (hq : q ≠ []) (hm : 2 * d.bulk + 6000 ≤ m) :
    ∃ v, notation_Parse (m + 3) ⟨p.toArray⟩ = some (v, (p.length : Int), 4) := by
  generalize hse : (⟨p.toArray⟩ : ByteArray) = s
  have htl := txt_len d.bulk d hw hr (Nat.le_refl _)
  have hsd : s.data.toList = p := by rw [← hse]
  have hsz : s.size = p.length := by rw [← hse, mkB_size]
  have hlp : (txt d.bulk d).length = p.length + q.length := by rw [hpq, List.length_append]
  have hs : s.size < 1000000000000 := by omega
  have hsnd := okF_snd hok
  obtain ⟨N, hN⟩ : ∃ N, d.bulk = N + 1 := ⟨d.bulk - 1, by have := bulk_pos d; omega⟩
  have hth : hdOK (txt d.bulk d) := by
    rw [hN] at hsnd ⊢
    exact txt_hd N d (snd_kind hsnd).1
  have hcu : Cu s 0 (txt d.bulk d) := ⟨Nat.zero_le _, p, q, by rw [List.drop_zero, hsd], hpq, hq⟩
  have hbl := blanks_cu m (n := 0) hcu hth hs
  have hok' := hok
  unfold okF at hok'
  obtain ⟨ho1, _⟩ := Bool.and_eq_true_iff.1 hok'
  obtain ⟨ho1, ho2⟩ := Bool.and_eq_true_iff.1 ho1
  have ho1 := of_decide_eq_true ho1
  have ho2 := of_decide_eq_true ho2
  obtain ⟨v, n', e⟩ := (read_cut d.bulk d (Nat.le_refl _) (by omega) hw hr hsnd hpe s hs 1 (m + 2) (by omega) (by omega)).2 h3 false 0 0 (by omega) hcu
  have hbl' : i23 (m + 2) (Dt.agg [Dt.str s, Dt.int 0, Dt.int 0, Dt.int 0, Dt.int 0]) = some (Q s 0 0) := hbl
  have e' : i25 (m + 2) 1 false (Q s 0 0) = some (v, false, QE s s.size n' 4 (s.size : Int)) := e
  refine ⟨kza2373, ?_⟩
  rw [notation_Parse]
  simp only [hbl', Option.bind_some, e', cond_false]
  rw [← hsz]
  rfl
theorem law_ncut (d : Dt) (k : Int) (hw : WV d) (hr : WR d) (hb : d.bulk ≤ 1048576) (hk0 : 0 ≤ k) : law05_NotationCut (400000000000 + 1) d k = some true := by
  obtain ⟨f, hf⟩ := few_tot hw (by omega) 399999999998 (by omega) 3000
  have hf' : ref02_Few 400000000000 d 3000 = some f := hf
  have h1 : notation_Print 400000000000 d = some (prt d) := Print_eq hw hr (by omega) 399999999993 (by omega)
  have hT : ∀ x t, law05_NotationCut_j1 400000000000 x t true = some true := fun x t => rfl
  rw [law05_NotationCut]
  simp only [hf', Option.bind_some]
  cases f
  · rfl
  simp only [Bool.not_true, cond_false, law05_NotationCut_j0, h1, Option.bind_some]
  unfold prt
  cases hok : okF d
  · rfl
  simp only [cond_true]
  cases hpe : (perr d.bulk d == 0)
  · have hbn : (perr d.bulk d != 0) = true := by unfold bne; rw [hpe]; rfl
    simp only [cond_false, hbn, cond_true, hT]
  have hp0 : perr d.bulk d = 0 := by simpa using hpe
  have htl := txt_len d.bulk d hw hr (Nat.le_refl _)
  have hsnd := okF_snd hok
  obtain ⟨N, hN⟩ : ∃ N, d.bulk = N + 1 := ⟨d.bulk - 1, by have := bulk_pos d; omega⟩
  obtain ⟨c, r, hcr, hc⟩ : hdOK (txt d.bulk d) := by
    rw [hN] at hsnd ⊢
    exact txt_hd N d (snd_kind hsnd).1
  have hsz : (ByteArray.mk (List.toArray (txt d.bulk d))).size = (txt d.bulk d).length := mkB_size _
  have hpos : 1 ≤ (txt d.bulk d).length := by rw [hcr]; simp
  have hi0 : idxS (ByteArray.mk (List.toArray (txt d.bulk d))) 0 = some (c.toNat : Int) := by
    obtain ⟨hi, h1, _⟩ := dr_cons (s := ByteArray.mk (List.toArray (txt d.bulk d))) (i := 0) (c := c) (r := r) (by rw [List.drop_zero, show (ByteArray.mk (List.toArray (txt d.bulk d))).data.toList = txt d.bulk d by simp, hcr])
    have h := idxS_lt hi
    rw [h1] at h
    exact h
  have hnil : (ByteArray.toList (ByteArray.mk (List.toArray (txt d.bulk d))) == []) = false := by
    rw [ByteArray.toList_eq, show (ByteArray.mk (List.toArray (txt d.bulk d))).data.toList = txt d.bulk d by simp, hcr]; rfl
  have main : (c.toNat = 91 ∨ c.toNat = 123 ∨ c.toNat = 34) → law05_NotationCut_j1 400000000000 k ⟨(txt d.bulk d).toArray⟩ false = some true := fun hcc => by
    have h3 : Dt.I d 0 ≠ 3 := fun h3 => by
      have ht : txt d.bulk d = Lib.itoa (Dt.I d 1) := by rw [hN]; simp only [txt]; rw [h3]; rfl
      rw [ht] at hcr
      by_cases hn : Dt.I d 1 < 0
      · obtain ⟨u, hu⟩ : ∃ u : Nat, Dt.I d 1 = -(u : Int) := ⟨(Dt.I d 1).natAbs, by omega⟩
        rw [hu, Lib.itoa_neg u (by omega)] at hcr
        injection hcr with h _
        rw [← h] at hcc
        rcases hcc with h | h | h <;> cases h
      · obtain ⟨u, hu⟩ : ∃ u : Nat, Dt.I d 1 = (u : Int) := ⟨(Dt.I d 1).toNat, by omega⟩
        rw [hu, Lib.itoa_nonneg] at hcr
        have := dig_rng u c (by rw [hcr]; exact List.mem_cons_self ..)
        omega
    have w1 : IntKind.wrap IntKind.u64 ((ByteArray.size (ByteArray.mk (List.toArray (txt d.bulk d))) : Nat) : Int) = (((txt d.bulk d).length : Nat) : Int) := by
      rw [hsz, wrapU (by omega) (by omega)]
    have hmod : k.toNat % (txt d.bulk d).length < (txt d.bulk d).length := Nat.mod_lt _ (by omega)
    have w2 : IntKind.wrap .i64 (Int.tmod k (((txt d.bulk d).length : Nat) : Int)) = ((k.toNat % (txt d.bulk d).length : Nat) : Int) := by
      obtain ⟨kk, rfl⟩ : ∃ kk : Nat, k = (kk : Int) := ⟨k.toNat, by omega⟩
      have e : Int.tmod (kk : Int) (((txt d.bulk d).length : Nat) : Int) = ((kk % (txt d.bulk d).length : Nat) : Int) := rfl
      rw [e, wrap64 (by omega) (by rw [Int.toNat_natCast] at hmod; omega), Int.toNat_natCast]
    have hz : decide ((((txt d.bulk d).length : Nat) : Int) = 0) = false := decide_eq_false (by omega)
    have hcut := cutS_nat (s := ByteArray.mk (List.toArray (txt d.bulk d))) (i := 0) (j := k.toNat % (txt d.bulk d).length) (by omega) (by omega)
    have hext : (ByteArray.mk (List.toArray (txt d.bulk d))).extract 0 (k.toNat % (txt d.bulk d).length) = ByteArray.mk (List.toArray ((txt d.bulk d).take (k.toNat % (txt d.bulk d).length))) := by
      refine nba_ext ?_
      rw [ByteArray.data_extract, Array.toList_extract]
      show ((txt d.bulk d).drop 0).take (k.toNat % (txt d.bulk d).length - 0) = (txt d.bulk d).take (k.toNat % (txt d.bulk d).length)
      simp
    rw [hext] at hcut
    obtain ⟨v, hv⟩ := parse_cut 399999999997 d (by omega) hw hr hok hp0 h3 ((txt d.bulk d).take (k.toNat % (txt d.bulk d).length)) ((txt d.bulk d).drop (k.toNat % (txt d.bulk d).length)) (List.take_append_drop _ _).symm (fun h0 => by
      have := congrArg List.length h0
      rw [List.length_drop, List.length_nil] at this
      omega) (by omega)
    have hv' : notation_Parse 400000000000 ⟨((txt d.bulk d).take (k.toNat % (txt d.bulk d).length)).toArray⟩ = _ := hv
    rw [List.length_take, Nat.min_eq_left (by omega)] at hv'
    have hcut' : cutS (ByteArray.mk (List.toArray (txt d.bulk d))) 0 ((k.toNat % (txt d.bulk d).length : Nat) : Int) = _ := hcut
    show law05_NotationCut_j2 400000000000 k ⟨(txt d.bulk d).toArray⟩ = some true
    simp only [law05_NotationCut_j2, w1, w2, hz, cond_false, hcut', Option.bind_some, hv', beq_self_eq_true, cond_true, awakeC]
  simp only [cond_true, bne_self_eq_false, cond_false, hnil, hi0, Option.bind_some]
  by_cases h91 : c.toNat = 91
  · have e : ((c.toNat : Int) != 91) = false := by rw [h91]; rfl
    rw [e, cond_false]
    exact main (.inl h91)
  have e : ((c.toNat : Int) != 91) = true := by unfold bne; rw [Bool.not_eq_true', beq_eq_false_iff_ne]; omega
  rw [e, cond_true]
  by_cases h123 : c.toNat = 123
  · have e : ((c.toNat : Int) != 123) = false := by rw [h123]; rfl
    rw [e, cond_false]
    exact main (.inr (.inl h123))
  have e : ((c.toNat : Int) != 123) = true := by unfold bne; rw [Bool.not_eq_true', beq_eq_false_iff_ne]; omega
  rw [e, cond_true]
  by_cases h34 : c.toNat = 34
  · have e : ((c.toNat : Int) != 34) = false := by rw [h34]; rfl
    rw [e]
    exact main (.inr (.inr h34))
  have e : ((c.toNat : Int) != 34) = true := by unfold bne; rw [Bool.not_eq_true', beq_eq_false_iff_ne]; omega
  rw [e]
  rfl
theorem ncut_fx {ds : List Dt} (h : HasTys Tryd.prog Tryd.f6.params.toList ds) (hb : Dt.bulkL ds ≤ 1048576) : FX Tryd.prog 6 (dats Tryd.f6.params.toList ds) [] (.dat 4 (.bool true)) [] := by
  have h' : HasTys Tryd.prog [27, 38] ds := h
  cases h' with
  | @cons _ d _ _ h1 r =>
    cases r with
    | @cons _ a _ _ h2 r =>
      cases r
      simp only [Dt.bulkL] at hb
      obtain ⟨ea, a0, a1⟩ := ty_int Tryd.underlying38 h2
      rw [ea]
      exact law05_NotationCut_fx 400000000000 (ct_ok 400000000000) _ _ (law_ncut d a.toInt (wv_of h1) (wr_of h1) (by omega) a0)
end Go.Proofs.YtmejbpmceflcjaaDoor
