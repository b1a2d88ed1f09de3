/- The abstract machine, part 19: places in a function's code; results as plain values. -/
import Derived.Test.YtacpcknpliomoaaGreatAm18
set_option linter.unusedVariables false
set_option linter.unusedSimpArgs false
namespace Go.Am
open Go.RowKit

def codeAt : Code → List Nat → Code
  | .seq a _, 0 :: p => codeAt a p
  | .seq _ b, _ :: p => codeAt b p
  | .cond _ a _, 0 :: p => codeAt a p
  | .cond _ _ b, _ :: p => codeAt b p
  | .block _ c, _ :: p => codeAt c p
  | .loop c, _ :: p => codeAt c p
  | .scope c, _ :: p => codeAt c p
  | c, _ => c
section
variable {R : Type} (P : Program) (E : Env) (call : FuncId → List AV → List Ob → (Res → Option R) → Option R) (J : Nat → Nat → Nat → St → Option R → Option R) (m : Nat) (f : FuncId) (n : Nat)
/-- What follows on a place; 'ms': the rounds that are left of the loops around it. -/
noncomputable def contAt : Code → List Nat → List Nat → (Exit → St → Option R) → Exit → St → Option R
  | .seq a b, 0 :: p, ms, k => contAt a p ms (seqK (fun σ' => nextK P E J f (firstId b) σ' fun s => ev P E call J m f n b s k) k)
  | .seq _ b, _ :: p, ms, k => contAt b p ms k
  | .cond _ a _, 0 :: p, ms, k => contAt a p ms k
  | .cond _ _ b, _ :: p, ms, k => contAt b p ms k
  | .block id c, _ :: p, ms, k => contAt c p ms (blockK id k)
  | .loop c, _ :: p, M :: ms, k => contAt c p ms (seqK (fun σ' => J 1 (firstId c) M (normAt P E f (firstId c) σ') (loopR J (firstId c) (normAt P E f (firstId c)) (ev P E call J m f n c) M (normAt P E f (firstId c) σ') k)) k)
  | .scope c, _ :: p, ms, k => contAt c p ms (scopeK k)
  | _, _, _, k => k
def finD (fn : Func) (dec : Res → Option R) (e : Exit) (σ : St) : Option R := (finE P E f fn e σ).bind dec
def bodyOf (fn : Func) : Code := fn.body.getD .skip
/-- The run from a place on. -/
noncomputable def evAt (fn : Func) (dec : Res → Option R) (p ms : List Nat) (σ : St) : Option R := ev P E call J m f n (codeAt (bodyOf fn) p) σ (contAt P E call J m f n (bodyOf fn) p ms (finD P E f fn dec))
def loopC : Code → Code
  | .loop c => c
  | c => c
/-- The run from a loop's head on, with 'M' rounds left. -/
noncomputable def loopAt (fn : Func) (dec : Res → Option R) (p ms : List Nat) (M : Nat) (σ : St) : Option R :=
  loopR J (firstId (loopC (codeAt (bodyOf fn) p))) (normAt P E f (firstId (loopC (codeAt (bodyOf fn) p)))) (ev P E call J m f n (loopC (codeAt (bodyOf fn) p))) M σ (contAt P E call J m f n (bodyOf fn) p ms (finD P E f fn dec))
end
theorem jn_eq {A : Type} (a b c : Nat) (s : St) (x : A) : jn a b c s x = x := rfl
/-- Slots by their numbers. -/
def tsGo (ts : List AV) : List (Nat × AV) → List AV
  | [] => ts
  | (k, v) :: r => tsGo (setT ts k v) r
def tsOf (l : List (Nat × AV)) : List AV := tsGo [] l
/-- A joining place, handed the state once. -/
def jj {A : Type} (J : Nat → Nat → Nat → St → A → A) (a b c : Nat) (s : St) (e : St → A) : A := J a b c s (e s)
theorem jj_eq {A : Type} (a b c : Nat) (s : St) (e : St → A) : jj jn a b c s e = e s := by rw [jj]; rfl
section
variable {R : Type} {P : Program} {E : Env} {call : FuncId → List AV → List Ob → (Res → Option R) → Option R} {m n M : Nat} {f : FuncId} {fn : Func} {dec : Res → Option R} {p ms : List Nat} {σ : St} {g : (Nat → Nat → Nat → St → Option R → Option R) → Option R} {r : Option R}
theorem tre (h : ∀ J, evAt P E call J m f n fn dec p ms σ = g J) (e : g jn = r) : evAt P E call jn m f n fn dec p ms σ = r := (h jn).trans e
theorem trl (h : ∀ J, loopAt P E call J m f n fn dec p ms M σ = g J) (e : g jn = r) : loopAt P E call jn m f n fn dec p ms M σ = r := (h jn).trans e
end
end Go.Am
