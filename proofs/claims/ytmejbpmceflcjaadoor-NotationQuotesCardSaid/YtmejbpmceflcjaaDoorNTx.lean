/- The text of values, in plain Lean. -/
import Derived.Test.YtmejbpmceflcjaaDoorMC
import Derived.KernelRfl
set_option linter.unusedVariables false
set_option linter.unusedSimpArgs false
namespace Go.Proofs.YtmejbpmceflcjaaDoor
open Go.Am

theorem nba_ext {a b : ByteArray} (h : a.data.toList = b.data.toList) : a = b := by
  cases a
  cases b
  congr
  exact Array.toList_inj.1 h
theorem bytesI_len (l : List UInt8) : (bytesI l).length = l.length := by simp [bytesI]
theorem bytesI_app (a b : List UInt8) : bytesI (a ++ b) = bytesI a ++ bytesI b := by simp [bytesI]
theorem bytesD_I (s : ByteArray) : bytesD s = bytesI s.data.toList := rfl
theorem strD_I (l : List UInt8) : strD (bytesI l) = ⟨l.toArray⟩ := by
  unfold strD strOfNums bytesI
  refine nba_ext ?_
  simp only [List.map_map]
  show List.map _ l = l
  refine (List.map_congr_left fun x _ => ?_).trans (List.map_id l)
  show UInt8.ofNat ((x.toNat : Int).toNat) = x
  simp
/-- A hexadecimal digit. -/
def hdg (n : Nat) : UInt8 := UInt8.ofNat (bif Nat.blt n 10 then 48 + n else 87 + n)
def hx2 (c : UInt8) : List UInt8 := [hdg (c.toNat / 16), hdg (c.toNat % 16)]
/-- A byte within a string literal. -/
def qb (c : UInt8) : List UInt8 :=
  bif ((c.toNat : Int) == 34 || (c.toNat : Int) == 92) then [92, c] else bif (c.toNat : Int) == 10 then [92, 110] else bif (c.toNat : Int) == 13 then [92, 114] else bif (c.toNat : Int) == 9 then [92, 116] else
  bif (decide ((c.toNat : Int) < 32) || (c.toNat : Int) == 127) then [92, 117, 48, 48] ++ hx2 c else [c]
def qL : List UInt8 → List UInt8
  | [] => []
  | c :: r => qb c ++ qL r
/-- A string literal. -/
def qtL (l : List UInt8) : List UInt8 := [34] ++ (qL l ++ [34])
def hxL : List UInt8 → List UInt8
  | [] => []
  | c :: r => hx2 c ++ hxL r
theorem qb_len (c : UInt8) : (qb c).length ≤ 6 := by
  unfold qb hx2
  cases ((c.toNat : Int) == 34 || (c.toNat : Int) == 92) <;> cases ((c.toNat : Int) == 10) <;> cases ((c.toNat : Int) == 13) <;> cases ((c.toNat : Int) == 9) <;> cases (decide ((c.toNat : Int) < 32) || (c.toNat : Int) == 127) <;> simp
theorem qL_len : ∀ l : List UInt8, (qL l).length ≤ 6 * l.length
  | [] => by simp [qL]
  | c :: r => by have := qL_len r; have := qb_len c; simp only [qL, List.length_append, List.length_cons]; omega
theorem hxL_len : ∀ l : List UInt8, (hxL l).length = 2 * l.length
  | [] => rfl
  | c :: r => by have := hxL_len r; simp only [hxL, hx2, List.length_append, List.length_cons, List.length_nil]; omega
/-- Texts one behind the other, with commas between them. -/
def lsF (g : Dt → List UInt8) : Nat → List Dt → List UInt8
  | _, [] => []
  | i, e :: r => (bif decide (0 < i) then [44] else []) ++ (g e ++ lsF g (i + 1) r)
/-- The first error. -/
def erF (g : Dt → Int) : List Dt → Int
  | [] => 0
  | e :: r => bif g e == 0 then erF g r else g e
def litMin : List UInt8 := [123, 34, 36, 109, 105, 110, 34, 58, 49, 125]
def litMax : List UInt8 := [123, 34, 36, 109, 97, 120, 34, 58, 49, 125]
def litNull : List UInt8 := [110, 117, 108, 108]
def litTrue : List UInt8 := [116, 114, 117, 101]
def litFalse : List UInt8 := [102, 97, 108, 115, 101]
def litTime : List UInt8 := [123, 34, 36, 116, 105, 109, 101, 34, 58]
def litId : List UInt8 := [123, 34, 36, 105, 100, 34, 58, 34]
def litBytes : List UInt8 := [123, 34, 36, 98, 121, 116, 101, 115, 34, 58, 34]
def litEnd : List UInt8 := [34, 125]
/-- The text of a value. -/
def txt : Nat → Dt → List UInt8
  | 0, _ => []
  | n + 1, d => bif Dt.I d 0 == 1 then litMin else bif Dt.I d 0 == 11 then litMax else bif Dt.I d 0 == 2 then litNull else bif Dt.I d 0 == 9 then (bif Dt.I d 1 == 1 then litTrue else litFalse) else
    bif Dt.I d 0 == 3 then Lib.itoa (Dt.I d 1) else bif Dt.I d 0 == 10 then litTime ++ (Lib.itoa (Dt.I d 1) ++ [125]) else bif Dt.I d 0 == 4 then qtL (Dt.S d 2).data.toList else
    bif Dt.I d 0 == 8 then litId ++ (hxL (Dt.S d 2).data.toList ++ litEnd) else bif Dt.I d 0 == 7 then litBytes ++ (hxL (Dt.S d 2).data.toList ++ litEnd) else
    bif Dt.I d 0 == 6 then [91] ++ (lsF (txt n) 0 (Dt.L d 3) ++ [93]) else
    [123] ++ (lsF (fun f => qtL (Dt.S f 0).data.toList ++ ([58] ++ txt n (Dt.fld f 1))) 0 (Dt.L d 4) ++ [125])
/-- Hexadecimal digits in small letters. -/
def hxd (c : UInt8) : Bool := (decide ((48 : Int) ≤ (c.toNat : Int)) && decide ((c.toNat : Int) ≤ 57)) || (decide ((97 : Int) ≤ (c.toNat : Int)) && decide ((c.toNat : Int) ≤ 102))
def hexS (s : ByteArray) : Bool := Nat.beq (s.size % 2) 0 && s.data.toList.all hxd
def nmId : ByteArray := ⟨#[36, 105, 100]⟩
def nmBytes : ByteArray := ⟨#[36, 98, 121, 116, 101, 115]⟩
def nmTime : ByteArray := ⟨#[36, 116, 105, 109, 101]⟩
def nmMin : ByteArray := ⟨#[36, 109, 105, 110]⟩
def nmMax : ByteArray := ⟨#[36, 109, 97, 120]⟩
/-- Whether one field is a special value. -/
def spF (f : Dt) : Bool :=
  bif eqb (Dt.S f 0) nmId then Dt.I (Dt.fld f 1) 0 == 4 && hexS (Dt.S (Dt.fld f 1) 2) && Nat.beq (Dt.S (Dt.fld f 1) 2).size 24 else
  bif eqb (Dt.S f 0) nmBytes then Dt.I (Dt.fld f 1) 0 == 4 && hexS (Dt.S (Dt.fld f 1) 2) else
  bif eqb (Dt.S f 0) nmTime then Dt.I (Dt.fld f 1) 0 == 3 && decide ((0 : Int) ≤ Dt.I (Dt.fld f 1) 1) else
  bif eqb (Dt.S f 0) nmMin then Dt.I (Dt.fld f 1) 0 == 3 && Dt.I (Dt.fld f 1) 1 == 1 else
  bif eqb (Dt.S f 0) nmMax then Dt.I (Dt.fld f 1) 0 == 3 && Dt.I (Dt.fld f 1) 1 == 1 else false
def spc : List Dt → Bool
  | [f] => spF f
  | _ => false
/-- The first error of a value that cannot be printed. -/
def perr : Nat → Dt → Int
  | 0, _ => 0
  | n + 1, d => bif Dt.I d 0 == 7 then (bif decide ((2048 : Int) < ((Dt.S d 2).size : Int)) then 2 else 0) else bif Dt.I d 0 == 6 then erF (perr n) (Dt.L d 3) else
    bif Dt.I d 0 == 5 then (bif spc (Dt.L d 4) then 4 else erF (fun f => perr n (Dt.fld f 1)) (Dt.L d 4)) else 0
theorem itoa_len (i : Int) (h1 : -9223372036854775808 ≤ i) (h2 : i ≤ 9223372036854775807) : (Lib.itoa i).length ≤ 21 := Lib.itoa_length_le i h1 h2
theorem lsF_len (g : Dt → List UInt8) (k : Dt → Nat) : ∀ (L : List Dt) (i : Nat), (∀ e ∈ L, (g e).length + 1 ≤ k e) → (lsF g i L).length ≤ (L.map k).sum
  | [], _, _ => by simp [lsF]
  | e :: r, i, h => by
    have h1 := h e (List.mem_cons_self ..)
    have h2 := lsF_len g k r (i + 1) fun x hx => h x (List.mem_cons_of_mem _ hx)
    have h3 : (bif decide (0 < i) then [(44 : UInt8)] else []).length ≤ 1 := by cases decide (0 < i) <;> simp
    simp only [lsF, List.length_append, List.map_cons, List.sum_cons]
    omega
end Go.Proofs.YtmejbpmceflcjaaDoor
