/- The abstract machine, part 19: places in a function's code; results as plain values. -/
import Derived.Test.YtmecfjhdnbgfeaaGreatDoorAm18
set_option linter.unusedVariables false
set_option linter.unusedSimpArgs false
namespace Go.Am
open Go.RowKit
def uV:Code→List Nat→Code
 | .seq a _,0::p=>uV a p
 | .seq _ b,_::p=>uV b p
 | .cond _ a _,0::p=>uV a p
 | .cond _ _ b,_::p=>uV b p
 | .block _ c,_::p=>uV c p
 | .loop c,_::p=>uV c p
 | .scope c,_::p=>uV c p
 |c,_=>c
section
variable {R:Type} (P:Program) (E:Env) (call:FuncId→List AV→List Ob→(Res→Option R)→Option R) (J:Nat→Nat→Nat→St→Option R→Option R) (m:Nat) (f:FuncId) (n:Nat)
def zq:Code→List Nat→List Nat→(Exit→St→Option R)→Exit→St→Option R
 | .seq a b,0::p,ms,k=>zq a p ms (afO (fun σ'=>nextK P E J f (nextId b) σ' fun s=>ev P E call J m f n b s k) k)
 | .seq _ b,_::p,ms,k=>zq b p ms k
 | .cond _ a _,0::p,ms,k=>zq a p ms k
 | .cond _ _ b,_::p,ms,k=>zq b p ms k
 | .block id c,_::p,ms,k=>zq c p ms (YK id k)
 | .loop c,_::p,M::ms,k=>zq c p ms (afO (fun σ'=>J 1 (firstId c) M (l9 P E f (firstId c) σ') (Ju J (firstId c) (l9 P E f (firstId c)) (ev P E call J m f n c) M (l9 P E f (firstId c) σ') k)) k)
 | .scope c,_::p,ms,k=>zq c p ms (YL k)
 |_,_,_,k=>k
def finD (fn:Func) (dec:Res→Option R) (e:Exit) (σ:St):Option R:=(Tf P E f fn e σ).bind dec
def bodyOf (fn:Func):Code:=fn.body.getD .skip
def evAt (fn:Func) (dec:Res→Option R) (p ms:List Nat) (σ:St):Option R:=ev P E call J m f n (uV (bodyOf fn) p) σ (zq P E call J m f n (bodyOf fn) p ms (finD P E f fn dec))
def aew:Code→Code
 | .loop c=>c
 |c=>c
def loopAt (fn:Func) (dec:Res→Option R) (p ms:List Nat) (M:Nat) (σ:St):Option R:=
 Ju J (firstId (aew (uV (bodyOf fn) p))) (l9 P E f (firstId (aew (uV (bodyOf fn) p)))) (ev P E call J m f n (aew (uV (bodyOf fn) p))) M σ (zq P E call J m f n (bodyOf fn) p ms (finD P E f fn dec))
end
def aoD (ts:List AV):List (Nat×AV)→List AV
 | []=>ts
 |(k,v)::r=>aoD (yB ts k v) r
def tsOf (l:List (Nat×AV)):List AV:=aoD [] l
def jj {A:Type} (J:Nat→Nat→Nat→St→A→A) (a b c:Nat) (s:St) (e:St→A):A:=J a b c s (e s)
theorem aj {A:Type} (a b c:Nat) (s:St) (e:St→A):jj jn a b c s e=e s:=by rw[jj];rfl
section
variable {R:Type} {P:Program} {E:Env} {call:FuncId→List AV→List Ob→(Res→Option R)→Option R} {m n M:Nat} {f:FuncId} {fn:Func} {dec:Res→Option R} {p ms:List Nat} {σ:St} {g:(Nat→Nat→Nat→St→Option R→Option R)→Option R} {r:Option R}
end
end Go.Am
