/- The program's text of a value.
The reference's text of a value. -/
import Derived.Test.YtmejbpmceflcjaaGreatDoorNWr
import Derived.Test.YtmejbpmceflcjaaGreatDoorNSp
set_option linter.unusedVariables false
set_option linter.unusedSimpArgs false
namespace Go.Proofs.YtmejbpmceflcjaaGreatDoor
open Go.Am
theorem erF_cons (g:Dt→Int) (e:Dt) (r:List Dt):erF g (e::r)=bif g e==0 then erF g r else g e:=rfl
end Go.Proofs.YtmejbpmceflcjaaGreatDoor
namespace Go.Proofs.YtmejbpmceflcjaaGreatDoor
open Go.Am
end Go.Proofs.YtmejbpmceflcjaaGreatDoor
