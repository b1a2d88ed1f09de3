/- String literals and hexadecimal digits: the program and the reference write the same. -/
import Derived.Test.YtmejbpmceflcjaaDoorNTx
set_option linter.unusedVariables false
set_option linter.unusedSimpArgs false
namespace Go.Proofs.YtmejbpmceflcjaaDoor
open Go.Am

theorem apI (a l : List UInt8) (h : a.length + l.length ≤ 137438953472) : app (bytesI a) (bytesI l) = some (bytesI (a ++ l)) := by
  rw [app_le (by rw [bytesI_len, bytesI_len]; exact h), bytesI_app]
theorem hexT_ok : ((List.range 256).all fun n => (idxS (ByteArray.mk (List.toArray [48, 49, 50, 51, 52, 53, 54, 55, 56, 57, 97, 98, 99, 100, 101, 102])) (shrI .u8 (n : Int) 4) == some ((hdg (n / 16)).toNat : Int)) && (idxS (ByteArray.mk (List.toArray [48, 49, 50, 51, 52, 53, 54, 55, 56, 57, 97, 98, 99, 100, 101, 102])) (andI .u8 (n : Int) 15) == some ((hdg (n % 16)).toNat : Int))) = true := by kernel_rfl
theorem hex_hi (c : UInt8) : idxS (ByteArray.mk (List.toArray [48, 49, 50, 51, 52, 53, 54, 55, 56, 57, 97, 98, 99, 100, 101, 102])) (shrI .u8 (c.toNat : Int) 4) = some ((hdg (c.toNat / 16)).toNat : Int) := by
  have h := List.all_eq_true.1 hexT_ok c.toNat (List.mem_range.2 (UInt8.toNat_lt c))
  exact eq_of_beq ((Bool.and_eq_true_iff).1 h).1
theorem hex_lo (c : UInt8) : idxS (ByteArray.mk (List.toArray [48, 49, 50, 51, 52, 53, 54, 55, 56, 57, 97, 98, 99, 100, 101, 102])) (andI .u8 (c.toNat : Int) 15) = some ((hdg (c.toNat % 16)).toNat : Int) := by
  have h := List.all_eq_true.1 hexT_ok c.toNat (List.mem_range.2 (UInt8.toNat_lt c))
  exact eq_of_beq ((Bool.and_eq_true_iff).1 h).2
theorem strI_ok (l : List UInt8) : strOfNums (List.map Dt.toInt (bytesI l)) = ⟨l.toArray⟩ := strD_I l

-- the program
theorem quote_loop (m : Nat) (s : ByteArray) (hs : s.size < 9223372036854775807) : ∀ (M i : Nat) (a : List UInt8), i ≤ s.size → s.size - i < M → a.length + 6 * (s.size - i) + 1 ≤ 137438953472 →
    notation_Quote_l1 m M s (s.size : Int) (i : Int) (bytesI a) = some ⟨(a ++ (qL (s.data.toList.drop i) ++ [34])).toArray⟩
  | 0, i, _, _, h, _ => by omega
  | M + 1, i, a, hi, h, ha => by
    simp only [notation_Quote_l1, dlt]
    by_cases hlt : i < s.size
    · rw [getB s i hlt]
      have ih := fun a' (h' : a'.length ≤ a.length + 6) => quote_loop m s hs M (i + 1) a' (by omega) (by omega) (by omega)
      have a1 : app (bytesI a) [Dt.int 92, Dt.int ((s[i]).toNat : Int)] = some (bytesI (a ++ [92, s[i]])) := apI a [92, s[i]] (by simp; omega)
      have a2 : app (bytesI a) [Dt.int 92, Dt.int 110] = some (bytesI (a ++ [92, 110])) := apI a [92, 110] (by simp; omega)
      have a3 : app (bytesI a) [Dt.int 92, Dt.int 114] = some (bytesI (a ++ [92, 114])) := apI a [92, 114] (by simp; omega)
      have a4 : app (bytesI a) [Dt.int 92, Dt.int 116] = some (bytesI (a ++ [92, 116])) := apI a [92, 116] (by simp; omega)
      have a5 : app (bytesI a) [Dt.int 92, Dt.int 117, Dt.int 48, Dt.int 48] = some (bytesI (a ++ [92, 117, 48, 48])) := apI a [92, 117, 48, 48] (by simp; omega)
      have a6 : app (bytesI (a ++ [92, 117, 48, 48])) [Dt.int ((hdg ((s[i]).toNat / 16)).toNat : Int), Dt.int ((hdg ((s[i]).toNat % 16)).toNat : Int)] = some (bytesI ((a ++ [92, 117, 48, 48]) ++ hx2 s[i])) := apI (a ++ [92, 117, 48, 48]) (hx2 s[i]) (by simp [hx2]; omega)
      have a7 : app (bytesI a) [Dt.int ((s[i]).toNat : Int)] = some (bytesI (a ++ [s[i]])) := apI a [s[i]] (by simp; omega)
      simp only [hlt, decide_true, cond_true, notation_Quote_j4, notation_Quote_j5, notation_Quote_j3, notation_Quote_j2, notation_Quote_j6, notation_Quote_j0, idxS_lt hlt, Option.bind_some, wrapS (show i < 9223372036854775807 by omega), hex_hi, hex_lo, a1, a2, a3, a4, a5, a6, a7, qL, qb]
      cases (((s[i]).toNat : Int) == 34)
      · cases (((s[i]).toNat : Int) == 92)
        · cases (((s[i]).toNat : Int) == 10)
          · cases (((s[i]).toNat : Int) == 13)
            · cases (((s[i]).toNat : Int) == 9)
              · cases decide (((s[i]).toNat : Int) < 32)
                · cases (((s[i]).toNat : Int) == 127)
                  · simp only [cond_false, Bool.or_self]
                    rw [ih _ (by simp), List.append_assoc, List.append_assoc]
                  · simp only [cond_false, cond_true, Bool.or_self, Bool.or_true]
                    rw [ih _ (by simp [hx2]), List.append_assoc, List.append_assoc, List.append_assoc, List.append_assoc]
                · simp only [cond_false, cond_true, Bool.or_self, Bool.true_or]
                  rw [ih _ (by simp [hx2]), List.append_assoc, List.append_assoc, List.append_assoc, List.append_assoc]
              · simp only [cond_false, cond_true, Bool.or_self]
                rw [ih _ (by simp), List.append_assoc, List.append_assoc]
            · simp only [cond_false, cond_true, Bool.or_self]
              rw [ih _ (by simp), List.append_assoc, List.append_assoc]
          · simp only [cond_false, cond_true, Bool.or_self]
            rw [ih _ (by simp), List.append_assoc, List.append_assoc]
        · simp only [cond_false, cond_true, Bool.or_true]
          rw [ih _ (by simp), List.append_assoc, List.append_assoc]
      · simp only [cond_true, Bool.true_or]
        rw [ih _ (by simp), List.append_assoc, List.append_assoc]
    · have : i = s.size := by omega
      subst this
      rw [List.drop_eq_nil_of_le (by rw [lenB]; omega)]
      have a1 : app (bytesI a) [Dt.int 34] = some (bytesI (a ++ [34])) := apI a [34] (by simp; omega)
      have hb : Nat.ble (bytesI (a ++ [34])).length 137438953472 = true := by rw [Nat.ble_eq, bytesI_len, List.length_append]; simp; omega
      simp only [hlt, decide_false, cond_false, notation_Quote_j4, notation_Quote_j5, notation_Quote_j3, notation_Quote_j2, notation_Quote_j6, notation_Quote_j0, a1, Option.bind_some, hb, cond_true, strI_ok, qL, List.nil_append]
theorem quote_eq (m : Nat) (s : ByteArray) (hm : s.size ≤ m) (hs : s.size ≤ 20000000000) : notation_Quote (m + 1) s = some ⟨(qtL s.data.toList).toArray⟩ := by
  have := quote_loop m s (by omega) (m + 1) 0 [34] (by omega) (by omega) (by simp; omega)
  rw [List.drop_zero] at this
  simp only [notation_Quote, notation_Quote_j4, notation_Quote_j5, notation_Quote_j3, notation_Quote_j2, notation_Quote_j6, notation_Quote_j0]
  exact this
theorem mkB_app (a b : List UInt8) : (ByteArray.mk (List.toArray a)) ++ (ByteArray.mk (List.toArray b)) = ByteArray.mk (List.toArray (a ++ b)) := by
  refine nba_ext ?_
  rw [ByteArray.data_append]
  simp
theorem mkB_size (a : List UInt8) : (ByteArray.mk (List.toArray a)).size = a.length := by
  show (List.toArray a).size = _
  simp
theorem mkB_self (s : ByteArray) : ByteArray.mk (List.toArray s.data.toList) = s := nba_ext (by simp)
theorem cut1 {s : ByteArray} {i : Nat} (h : i < s.size) : cutS s (i : Int) ((i + 1 : Nat) : Int) = some (ByteArray.mk (List.toArray [s[i]])) := by
  rw [cutS_nat (by omega) (by omega)]
  congr 1
  refine nba_ext ?_
  rw [ByteArray.data_extract, Array.toList_extract]
  have hl : i < s.data.toList.length := by rw [lenB]; exact h
  show (s.data.toList.drop i).take (i + 1 - i) = [s[i]]
  rw [List.drop_eq_getElem_cons hl, show i + 1 - i = 1 by omega]
  rfl
theorem dig_eq (m k : Nat) (h : k < 16) : ref05_digit (m + 1) (k : Int) = some (ByteArray.mk (List.toArray [hdg k])) := by
  match k, h with
  | 0, _ => show ref05_digit (m + 1) 0 = some (ByteArray.mk (List.toArray [hdg 0])); kernel_rfl
  | 1, _ => show ref05_digit (m + 1) 1 = some (ByteArray.mk (List.toArray [hdg 1])); kernel_rfl
  | 2, _ => show ref05_digit (m + 1) 2 = some (ByteArray.mk (List.toArray [hdg 2])); kernel_rfl
  | 3, _ => show ref05_digit (m + 1) 3 = some (ByteArray.mk (List.toArray [hdg 3])); kernel_rfl
  | 4, _ => show ref05_digit (m + 1) 4 = some (ByteArray.mk (List.toArray [hdg 4])); kernel_rfl
  | 5, _ => show ref05_digit (m + 1) 5 = some (ByteArray.mk (List.toArray [hdg 5])); kernel_rfl
  | 6, _ => show ref05_digit (m + 1) 6 = some (ByteArray.mk (List.toArray [hdg 6])); kernel_rfl
  | 7, _ => show ref05_digit (m + 1) 7 = some (ByteArray.mk (List.toArray [hdg 7])); kernel_rfl
  | 8, _ => show ref05_digit (m + 1) 8 = some (ByteArray.mk (List.toArray [hdg 8])); kernel_rfl
  | 9, _ => show ref05_digit (m + 1) 9 = some (ByteArray.mk (List.toArray [hdg 9])); kernel_rfl
  | 10, _ => show ref05_digit (m + 1) 10 = some (ByteArray.mk (List.toArray [hdg 10])); kernel_rfl
  | 11, _ => show ref05_digit (m + 1) 11 = some (ByteArray.mk (List.toArray [hdg 11])); kernel_rfl
  | 12, _ => show ref05_digit (m + 1) 12 = some (ByteArray.mk (List.toArray [hdg 12])); kernel_rfl
  | 13, _ => show ref05_digit (m + 1) 13 = some (ByteArray.mk (List.toArray [hdg 13])); kernel_rfl
  | 14, _ => show ref05_digit (m + 1) 14 = some (ByteArray.mk (List.toArray [hdg 14])); kernel_rfl
  | 15, _ => show ref05_digit (m + 1) 15 = some (ByteArray.mk (List.toArray [hdg 15])); kernel_rfl
  | n + 16, h => omega
theorem u8lt (c : UInt8) : c.toNat < 256 := UInt8.toNat_lt c
theorem d_hi (m : Nat) (c : UInt8) : ref05_digit (m + 1) (IntKind.wrap IntKind.i64 (Int.tdiv (IntKind.wrap IntKind.i64 (c.toNat : Int)) 16)) = some (ByteArray.mk (List.toArray [hdg (c.toNat / 16)])) := by
  have := u8lt c
  have e : IntKind.wrap IntKind.i64 (Int.tdiv (IntKind.wrap IntKind.i64 (c.toNat : Int)) 16) = ((c.toNat / 16 : Nat) : Int) := by
    rw [wrap64 (n := (c.toNat : Int)) (by omega) (by omega), Int.tdiv_eq_ediv_of_nonneg (by omega), wrap64 (by omega) (by omega)]; omega
  rw [e, dig_eq m _ (by omega)]
theorem d_lo (m : Nat) (c : UInt8) : ref05_digit (m + 1) (Int.tmod (IntKind.wrap IntKind.i64 (c.toNat : Int)) 16) = some (ByteArray.mk (List.toArray [hdg (c.toNat % 16)])) := by
  have := u8lt c
  have e : Int.tmod (IntKind.wrap IntKind.i64 (c.toNat : Int)) 16 = ((c.toNat % 16 : Nat) : Int) := by
    rw [wrap64 (n := (c.toNat : Int)) (by omega) (by omega), Int.tmod_eq_emod_of_nonneg (by omega)]; omega
  rw [e, dig_eq m _ (by omega)]
theorem ble_of {n k : Nat} (h : n ≤ k) : Nat.ble n k = true := by rw [Nat.ble_eq]; exact h
theorem rquote_loop (m : Nat) (s : ByteArray) (hs : s.size < 1000000000000) : ∀ (M i : Nat) (a : List UInt8), i ≤ s.size → s.size - i < M → a.length + 6 * (s.size - i) + 1 ≤ 1152921504606846976 →
    ref05_Quote_l1 (m + 1) M s (ByteArray.mk (List.toArray a)) (i : Int) = some ⟨(a ++ (qL (s.data.toList.drop i) ++ [34])).toArray⟩
  | 0, i, _, _, h, _ => by omega
  | M + 1, i, a, hi, h, ha => by
    simp only [ref05_Quote_l1, dlt]
    by_cases hlt : i < s.size
    · rw [getB s i hlt]
      have ih := fun a' (h' : a'.length ≤ a.length + 6) => rquote_loop m s hs M (i + 1) a' (by omega) (by omega) (by omega)
      simp only [hlt, decide_true, cond_true, ref05_Quote_j4, ref05_Quote_j5, ref05_Quote_j3, ref05_Quote_j2, ref05_Quote_j6, ref05_Quote_j0, idxS_lt hlt, Option.bind_some, wrapS (show i < 9223372036854775807 by omega), cut1 hlt, d_hi, d_lo, mkB_app, mkB_size, List.length_append, List.length_cons, List.length_nil, qL, qb]
      simp (disch := omega) only [ble_of]
      simp only [cond_true]
      cases (((s[i]).toNat : Int) == 34)
      · cases (((s[i]).toNat : Int) == 92)
        · cases (((s[i]).toNat : Int) == 10)
          · cases (((s[i]).toNat : Int) == 13)
            · cases (((s[i]).toNat : Int) == 9)
              · cases decide (((s[i]).toNat : Int) < 32)
                · cases (((s[i]).toNat : Int) == 127)
                  · simp only [cond_false, Bool.or_self]
                    rw [ih _ (by simp), List.append_assoc, List.append_assoc]
                  · simp only [cond_false, cond_true, Bool.or_self, Bool.or_true]
                    rw [ih _ (by simp)]
                    simp [hx2]
                · simp only [cond_false, cond_true, Bool.or_self, Bool.true_or]
                  rw [ih _ (by simp)]
                  simp [hx2]
              · simp only [cond_false, cond_true, Bool.or_self]
                rw [ih _ (by simp), List.append_assoc, List.append_assoc]
            · simp only [cond_false, cond_true, Bool.or_self]
              rw [ih _ (by simp), List.append_assoc, List.append_assoc]
          · simp only [cond_false, cond_true, Bool.or_self]
            rw [ih _ (by simp), List.append_assoc, List.append_assoc]
        · simp only [cond_false, cond_true, Bool.or_true]
          rw [ih _ (by simp)]
          simp
      · simp only [cond_true, Bool.true_or]
        rw [ih _ (by simp)]
        simp
    · have : i = s.size := by omega
      subst this
      rw [List.drop_eq_nil_of_le (by rw [lenB]; omega)]
      simp only [hlt, decide_false, cond_false, ref05_Quote_j4, ref05_Quote_j5, ref05_Quote_j3, ref05_Quote_j2, ref05_Quote_j6, ref05_Quote_j0, mkB_app, mkB_size, ble_of (show a.length + 1 ≤ 1152921504606846976 by omega), cond_true, qL, List.nil_append]
theorem rquote_eq (m : Nat) (s : ByteArray) (hm : s.size ≤ m) (hs : s.size < 1000000000000) : ref05_Quote (m + 2) s = some ⟨(qtL s.data.toList).toArray⟩ := by
  have := rquote_loop m s (by omega) (m + 2) 0 [34] (by omega) (by omega) (by simp; omega)
  rw [List.drop_zero] at this
  simp only [ref05_Quote, ref05_Quote_j4, ref05_Quote_j5, ref05_Quote_j3, ref05_Quote_j2, ref05_Quote_j6, ref05_Quote_j0]
  exact this
end Go.Proofs.YtmejbpmceflcjaaDoor
