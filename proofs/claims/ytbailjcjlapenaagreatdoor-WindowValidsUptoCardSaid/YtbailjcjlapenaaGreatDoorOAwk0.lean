/- Closed runs of the machine. -/
import Derived.Test.YtbailjcjlapenaaGreatDoorAwEnv
import Derived.KernelRfl
set_option linter.unusedVariables false
set_option linter.unusedSimpArgs false
namespace Go.Proofs.YtbailjcjlapenaaGreatDoor
open Go.RowKit Go.Am
set_option maxRecDepth 1000000
def awkA_wrun:List AV:=[.dat 33 (.agg [(.agg [.int 1,.lst [],.str ⟨#[]⟩,.lst [],(.agg [.int 2,.int 0,.str ⟨#[]⟩,.lst [],.lst []]),.int 0,.lst []]),.lst [],.lst [(.agg [.str ⟨#[110]⟩,.int 23,(.agg [.int 0,.lst [],.str ⟨#[]⟩,.lst [],(.agg [.int 0,.int 0,.str ⟨#[]⟩,.lst [],.lst []]),.int 0,.lst []]),.int 0,.int 0,.bool false])]]),.dat 23 (.lst [(.agg [.int 5,.int 0,.str ⟨#[]⟩,.lst [],.lst []]),(.agg [.int 5,.int 0,.str ⟨#[]⟩,.lst [],.lst []])])]
def awkR_wrun:Res:=(.dat 23 (.lst [.agg [.int 5,.int 0,.str ⟨#[]⟩,.lst [],.lst [.agg [.str ⟨#[110]⟩,.agg [.int 3,.int 1,.str ⟨#[]⟩,.lst [],.lst []]]]],.agg [.int 5,.int 0,.str ⟨#[]⟩,.lst [],.lst [.agg [.str ⟨#[110]⟩,.agg [.int 3,.int 2,.str ⟨#[]⟩,.lst [],.lst []]]]]]),[])
theorem awk_wrun:run Tryz.prog Aw.env 60 10 awkA_wrun []=some awkR_wrun:=by kernel_rfl
end Go.Proofs.YtbailjcjlapenaaGreatDoor
