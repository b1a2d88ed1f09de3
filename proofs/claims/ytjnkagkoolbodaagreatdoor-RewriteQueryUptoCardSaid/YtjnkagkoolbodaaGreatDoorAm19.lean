/- The abstract machine, part 19: places in a function's code; results as plain values. -/
import Derived.Test.YtjnkagkoolbodaaGreatDoorAm18
set_option linter.unusedVariables false
set_option linter.unusedSimpArgs false
namespace Go.Am
open Go.RowKit
def Hl:Code→List Nat→Code
 | .seq a _,0::p=>Hl a p
 | .seq _ b,_::p=>Hl b p
 | .cond _ a _,0::p=>Hl a p
 | .cond _ _ b,_::p=>Hl b p
 | .block _ c,_::p=>Hl c p
 | .loop c,_::p=>Hl c p
 | .scope c,_::p=>Hl c p
 |c,_=>c
section
variable {R:Type} (P:Program) (E:Env) (call:FuncId→List AV→List Ob→(Res→Option R)→Option R) (J:Nat→Nat→Nat→St→Option R→Option R) (m:Nat) (f:FuncId) (n:Nat)
def Pk:Code→List Nat→List Nat→(Exit→St→Option R)→Exit→St→Option R
 | .seq a b,0::p,ms,k=>Pk a p ms (aDu (fun σ'=>nextK P E J f (firstId b) σ' fun s=>ev P E call J m f n b s k) k)
 | .seq _ b,_::p,ms,k=>Pk b p ms k
 | .cond _ a _,0::p,ms,k=>Pk a p ms k
 | .cond _ _ b,_::p,ms,k=>Pk b p ms k
 | .block id c,_::p,ms,k=>Pk c p ms (awj id k)
 | .loop c,_::p,M::ms,k=>Pk c p ms (aDu (fun σ'=>J 1 (firstId c) M (rM P E f (firstId c) σ') (ajg J (firstId c) (rM P E f (firstId c)) (ev P E call J m f n c) M (rM P E f (firstId c) σ') k)) k)
 | .scope c,_::p,ms,k=>Pk c p ms (awk k)
 |_,_,_,k=>k
def finD (fn:Func) (dec:Res→Option R) (e:Exit) (σ:St):Option R:=(asZ P E f fn e σ).bind dec
def bodyOf (fn:Func):Code:=fn.body.getD .skip
def evAt (fn:Func) (dec:Res→Option R) (p ms:List Nat) (σ:St):Option R:=ev P E call J m f n (Hl (bodyOf fn) p) σ (Pk P E call J m f n (bodyOf fn) p ms (finD P E f fn dec))
def aD8:Code→Code
 | .loop c=>c
 |c=>c
def loopAt (fn:Func) (dec:Res→Option R) (p ms:List Nat) (M:Nat) (σ:St):Option R:=
 ajg J (firstId (aD8 (Hl (bodyOf fn) p))) (rM P E f (firstId (aD8 (Hl (bodyOf fn) p)))) (ev P E call J m f n (aD8 (Hl (bodyOf fn) p))) M σ (Pk P E call J m f n (bodyOf fn) p ms (finD P E f fn dec))
end
def aVZ (ts:List AV):List (Nat×AV)→List AV
 | []=>ts
 |(k,v)::r=>aVZ (NY ts k v) r
def tsOf (l:List (Nat×AV)):List AV:=aVZ [] l
def jj {A:Type} (J:Nat→Nat→Nat→St→A→A) (a b c:Nat) (s:St) (e:St→A):A:=J a b c s (e s)
theorem ah {A:Type} (a b c:Nat) (s:St) (e:St→A):jj jn a b c s e=e s:=by rw[jj];rfl
section
variable {R:Type} {P:Program} {E:Env} {call:FuncId→List AV→List Ob→(Res→Option R)→Option R} {m n M:Nat} {f:FuncId} {fn:Func} {dec:Res→Option R} {p ms:List Nat} {σ:St} {g:(Nat→Nat→Nat→St→Option R→Option R)→Option R} {r:Option R}
end
end Go.Am
