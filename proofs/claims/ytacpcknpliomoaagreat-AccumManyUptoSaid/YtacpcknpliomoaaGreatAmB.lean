/- The abstract machine, bytes: strings appended to rows of bytes, bytes as strings. -/
import Derived.Test.YtacpcknpliomoaaGreatAm5
import Derived.Lib.AppendStr
import Derived.Laws.BytesArg
set_option linter.unusedVariables false
set_option linter.unusedSimpArgs false
namespace Go.Am
open Go.RowKit Go.Lib
section
variable {P : Program} {n : Nat} {o : Oper} {σ τ : St} {x y : Operand} {v : AV} {T : TypeId}
/-- A string's bytes as data. -/
def bytesD (s : ByteArray) : List Dt := s.data.toList.map fun b => Dt.int (b.toNat : Int)
theorem bytesD_len (s : ByteArray) : (bytesD s).length = s.size := by
  rw [bytesD, List.length_map, Array.length_toList]; rfl
theorem run_append_str (w : World) (t u ty e : TypeId) (i : TypeInfo) (ht : P.underlying t = some (.slice e)) (hu : P.underlying u = some .string) (hi : P.info? e = some i) (hz : i.zero = some (.int .u8 0))
    (hsize : i.size = 1) (hby : i.bytes = 1) (v : Value) (n : Nat) (xs : List Value) (hown : w.ownsRow 0 e 1 v n xs) (s : ByteArray) (hb : n + s.size ≤ 137438953472) :
    ∃ v' w', (Builtin.append_ #[t, u] ty #[v, .string s]).run P w = .ok v' w' ∧ w'.ownsRow 0 e 1 v' (n + s.size) (xs ++ strCells s) ∧ w.grownBy w' v.ownBlock ∧ (v'.ownBlock = v.ownBlock ∨ v'.ownBlock = some w.heap.size) := by
  obtain ⟨v', w', h1, h2, h3, h4⟩ := run_append_own_string (P := P) w 0 t u ty e i ht hu hi hz hsize hby v n xs hown s (by unfold maxLen; omega) (by omega) (Nat.zero_le _)
  refine ⟨v', w', h1, h2, h3, ?_⟩
  have hxl : xs.length = n := by simpa using hown.1
  rcases hown.2 with ⟨rfl, rfl⟩ | ⟨g, cap, cur, rfl, hbg, hg, hnc, hcm, hcs, htake⟩
  · by_cases hm : s.size = 0
    · left
      rw [h4.2 ⟨rfl, hm⟩]
    · right
      have hr := run_append_nil_string (P := P) w t u ty e i (.int .u8 0) ht hu hi hz s (by omega) (by omega) (by rw [hby]; omega)
      rw [h1] at hr
      cases hr
      rfl
  · by_cases hroom : n + s.size ≤ cap
    · left
      have hcs' : cur.size = cap := by simpa using hcs
      have hr := run_append_room_string (P := P) w t u ty e i ht hu hi hsize g n cap cur hg s hroom (by omega)
      rw [h1] at hr
      cases hr
      rfl
    · right
      have holds : ∀ j u, xs[j]? = some u → w.cell? ((⟨g, 0, none⟩ : Addr).add j) = some u := hown.cells (g := g) rfl
      have hr := run_append_grow_string (P := P) w t u ty e i (.int .u8 0) ht hu hi hz ⟨g, 0, none⟩ n cap xs (by rw [hsize]; simpa using hxl) holds s (by omega) (by omega) (by rw [hby]; exact growslice_fits (by omega) (by omega))
      rw [h1] at hr
      cases hr
      rfl
theorem u8_rd {ok : Nat → Prop} {w : World} {E : TypeId} (hu : P.underlying E = some (.int .u8)) (b : UInt8) : RD P ok w E (.int (b.toNat : Int)) [.int .u8 (b.toNat : Int)] := by
  have := b.toNat_lt
  refine .int hu ?_ ?_ <;> simp [IntKind.min, IntKind.max, IntKind.bits, IntKind.signed] <;> omega
theorem op_append_str {d l l' : Nat} {E T5 T' T2 : TypeId} {es : List Dt} {s : ByteArray} {i : TypeInfo} (ho : o.op = .call { callee := .builtin .append, args := #[x, y], argTypes := #[T, T'] }) (hd : o.dst = some d) (hn : d < n) (hu : P.underlying T = some (.slice E)) (hu5 : P.underlying T5 = some (.slice E)) (hu' : P.underlying T' = some .string) (hu2 : P.underlying T2 = some .string)
    (he : P.underlying E = some (.int .u8)) (hi : P.info? E = some i) (hz : i.zero = some (.int .u8 0)) (hsize : i.size = 1) (hby : i.bytes = 1) (hx : Ev P σ x (.row l)) (hl : lk σ.hs l = .row T5 es) (hf : lk σ.hs l' = .free) (hk0 : σ.k0 ≤ l') (hy : Ev P σ y (.dat T2 (.str s))) (hlim : es.length + (bytesD s).length ≤ 137438953472) :
    OpOK P n o σ (((σ.lay l .gone).lay l' (.row T5 (es ++ bytesD s))).put d (.row l')) := by
  rintro ok0 w0 a w ⟨β, r⟩ K Q hK
  have hc1 : P.cellsOf E = 1 := by simp [Program.cellsOf, hi, hsize]
  have ey := (RV.str hu2 (hy _ _ _ _ _ _ r)).2.1
  rw [bytesD_len] at hlim
  refine append_gen (ys := strCells s) (ds := bytesD s) ho hd hn hu5 r (row_eval (hx _ _ _ _ _ _ r)) hl hf hk0 ey (by rw [strCells_length, bytesD_len, hc1, Nat.mul_one]) (strCells_oneCell s) (fun i' d' hd' => ?_) (fun bl xs _ hown => ?_) K Q hK
  · rw [hc1, Nat.mul_one]
    simp only [bytesD, List.getElem?_map, Option.map_eq_some_iff] at hd'
    obtain ⟨b, hb, rfl⟩ := hd'
    have hlt : i' < s.data.toList.length := (List.getElem?_eq_some_iff.1 hb).1
    have hbe : s.data.toList[i'] = b := (List.getElem?_eq_some_iff.1 hb).2
    have e : ((strCells s).drop i').take 1 = [Value.int .u8 (b.toNat : Int)] := by
      rw [strCells, List.drop_eq_getElem_cons (by rw [List.length_map]; exact hlt), List.getElem_map, hbe]
      rfl
    rw [e]
    exact u8_rd he b
  · rw [hc1] at hown ⊢
    rw [bytesD_len]
    exact run_append_str w T T' o.type E i hu hu' hi hz hsize hby bl es.length xs hown s hlim
/-- Bytes as a string. -/
def strD (ds : List Dt) : ByteArray := strOfNums (ds.map Dt.toInt)
def bstr (ds : List Dt) : Option ByteArray := bif Nat.ble ds.length 137438953472 then some (strD ds) else none
theorem op_conv_bytes {d : Nat} {E S1 S2 : TypeId} {ds : List Dt} (ho : o.op = .convert S1 S2 x) (hd : o.dst = some d) (hn : d < n) (h1 : P.underlying S1 = some (.slice E)) (h2 : P.underlying S2 = some .string) (he : P.underlying E = some (.int .u8)) (hc : P.cellsOf E = 1) (hs : SrcOK P σ x E ds) (hlen : ds.length ≤ 137438953472) :
    OpOK P n o σ (σ.put d (.dat S2 (.str (strD ds)))) :=
  opOK_val hd hn fun ok0 w0 a w β r => by
    obtain ⟨A, c, ys, ey, hyl, _, hyc, hynone, hyrd⟩ := hs _ _ _ _ _ _ r
    rw [hc, Nat.mul_one] at hyl
    have hb : (strD ds).size ≤ maxLen := by unfold strD maxLen; rw [strOfNums_size, List.length_map]; omega
    have hys : ys = (ds.map Dt.toInt).map (Value.int .u8) := by
      apply List.ext_getElem?
      intro i
      rw [List.getElem?_map, List.getElem?_map]
      by_cases hi : i < ds.length
      · have hd' : ds[i]? = some ds[i] := List.getElem?_eq_getElem hi
        have h := hyrd i _ hd'
        rw [hc, Nat.mul_one] at h
        have e : (ys.drop i).take 1 = [ys[i]'(by omega)] := by rw [List.drop_eq_getElem_cons (by omega)]; rfl
        rw [e] at h
        obtain ⟨q1, q2, _, _⟩ := h.int_inv he
        rw [List.getElem?_eq_getElem (by omega), hd']
        simp only [Option.map_some]
        injection q2 with q3
        rw [q3]
      · rw [List.getElem?_eq_none (by omega), List.getElem?_eq_none (by omega)]; rfl
    have hrun : (convert S1 S2 (.slice A ds.length c)).run P w = .ok (.string (strD ds)) w := by
      cases A with
      | none =>
        have h0 := hynone rfl
        have e : ds = [] := List.eq_nil_of_length_eq_zero h0
        subst e
        exact run_convert_bytes_nil w S1 E h1 he _ c S2 h2
      | some ad =>
        have hl : (loadCells ad ds.length).run P w = .ok ((ds.map Dt.toInt).map (Value.int .u8)).toArray w := by
          have := run_loadCells_list (P := P) w ad ((ds.map Dt.toInt).map (Value.int .u8)) (fun j v hj => by
            rw [← hys] at hj
            have hjl : j < ys.length := (List.getElem?_eq_some_iff.1 hj).1
            obtain ⟨ad', ea, hcell⟩ := hyc (by omega)
            cases ea
            exact hcell j v hj)
          simpa using this
        rw [run_convert_bytes_string w S1 S2 E _ ds.length c h1 he h2, run_bytesToString w ad ds.length c _ hl, foldl_push_bytes]
        simp [strD, strOfNums, ByteArray.empty, ByteArray.emptyWithCapacity]
        rfl
    refine ⟨.string (strD ds), ?_, RV.mk_str h2 hb⟩
    simp [execOp, ho, ey, hrun]
/-- An interface value beside the literal nil. -/
theorem run_equalIn_nif (w : World) {T1 : TypeId} {ms : Array (String × TypeId)} (h1 : P.underlying T1 = some (.interface ms)) (d : Nat) : (Op.equalIn (d + 1) T1 .nilIface .nilIface).run P w = .ok true w := by
  simp [Op.equalIn, run_underlying h1]
theorem run_ieq (w : World) {T1 : TypeId} {ms : Array (String × TypeId)} (h1 : P.underlying T1 = some (.interface ms)) : (binOp .eql T1 .nilIface .nilIface).run P w = .ok (.bool true) w := by
  simp only [binOp]
  simp [Op.equal, Op.maxDepth, run_equalIn_nif w h1 9999]
theorem run_ine (w : World) {T1 : TypeId} {ms : Array (String × TypeId)} (h1 : P.underlying T1 = some (.interface ms)) : (binOp .neq T1 .nilIface .nilIface).run P w = .ok (.bool false) w := by
  simp only [binOp]
  simp [Op.equal, Op.maxDepth, run_equalIn_nif w h1 9999]
theorem run_equalIn_nni (w : World) {T1 T : TypeId} {z : Value} {ms : Array (String × TypeId)} (h1 : P.underlying T1 = some (.interface ms)) (d : Nat) : (Op.equalIn (d + 1) T1 (.iface T z) .nilIface).run P w = .ok false w := by
  simp [Op.equalIn, run_underlying h1]
theorem run_feq (w : World) {T1 T : TypeId} {z : Value} {ms : Array (String × TypeId)} (h1 : P.underlying T1 = some (.interface ms)) : (binOp .eql T1 (.iface T z) .nilIface).run P w = .ok (.bool false) w := by
  simp only [binOp]
  simp [Op.equal, Op.maxDepth, run_equalIn_nni w h1 9999]
theorem run_fne (w : World) {T1 T : TypeId} {z : Value} {ms : Array (String × TypeId)} (h1 : P.underlying T1 = some (.interface ms)) : (binOp .neq T1 (.iface T z) .nilIface).run P w = .ok (.bool true) w := by
  simp only [binOp]
  simp [Op.equal, Op.maxDepth, run_equalIn_nni w h1 9999]
theorem op_nif_eq {d : Nat} {T1 T2 TB : TypeId} {b : Bool} {ms : Array (String × TypeId)} (ho : o.op = .binOp .eql T1 x (.const .nilIface) T2) (hd : o.dst = some d) (hn : d < n) (hb : P.underlying TB = some .bool) (h1 : P.underlying T1 = some (.interface ms)) (hx : Ev P σ x (.nif b)) : OpOK P n o σ (σ.put d (.dat TB (.bool b))) :=
  opOK_val hd hn fun ok0 w0 a w β r => by
    have h2 := (hx _ _ _ _ _ _ r).2 rfl
    have e2 : a.eval (.const .nilIface) = .nilIface := rfl
    refine ⟨.bool b, ?_, RV.mk_bool hb⟩
    generalize e1 : a.eval x = q at h2
    cases h2 with
    | nif => simp [execOp, ho, e1, e2, eqGuard, run_ieq w h1]
    | nni => simp [execOp, ho, e1, e2, eqGuard, run_feq w h1]
theorem op_nif_ne {d : Nat} {T1 T2 TB : TypeId} {b : Bool} {ms : Array (String × TypeId)} (ho : o.op = .binOp .neq T1 x (.const .nilIface) T2) (hd : o.dst = some d) (hn : d < n) (hb : P.underlying TB = some .bool) (h1 : P.underlying T1 = some (.interface ms)) (hx : Ev P σ x (.nif b)) : OpOK P n o σ (σ.put d (.dat TB (.bool (!b)))) :=
  opOK_val hd hn fun ok0 w0 a w β r => by
    have h2 := (hx _ _ _ _ _ _ r).2 rfl
    have e2 : a.eval (.const .nilIface) = .nilIface := rfl
    refine ⟨.bool (!b), ?_, RV.mk_bool hb⟩
    generalize e1 : a.eval x = q at h2
    cases h2 with
    | nif => simp [execOp, ho, e1, e2, eqGuard, run_ine w h1]
    | nni => simp [execOp, ho, e1, e2, eqGuard, run_fne w h1]
end
end Go.Am
