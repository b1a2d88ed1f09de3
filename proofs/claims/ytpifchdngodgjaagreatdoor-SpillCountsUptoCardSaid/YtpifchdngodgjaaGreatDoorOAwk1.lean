/- Closed runs of the machine. -/
import Derived.Test.YtpifchdngodgjaaGreatDoorAwEnv
import Derived.KernelRfl
set_option linter.unusedVariables false
set_option linter.unusedSimpArgs false
namespace Go.Proofs.YtpifchdngodgjaaGreatDoor
open Go.RowKit Go.Am
set_option maxRecDepth 1000000
def awkA_part:List AV:=[.dat 44 (.agg [(.agg [.int 1,.lst [],.str ⟨#[]⟩,.lst [],(.agg [.int 3,.int 7,.str ⟨#[]⟩,.lst [],.lst []]),.int 0,.lst []]),.lst []]),.dat 23 (.lst [(.agg [.int 5,.int 0,.str ⟨#[]⟩,.lst [],.lst []])])]
def awkR_part:Res:=(.dat 23 (.lst [.agg [.int 5,.int 0,.str ⟨#[]⟩,.lst [],.lst [.agg [.str ⟨#[95,105,100]⟩,.agg [.int 3,.int 7,.str ⟨#[]⟩,.lst [],.lst []]]]]]),[])
theorem awk_part:run Tryz.prog Aw.env 60 23 awkA_part []=some awkR_part:=by kernel_rfl
def awkA_final:List AV:=[.dat 44 (.agg [(.agg [.int 1,.lst [],.str ⟨#[]⟩,.lst [],(.agg [.int 3,.int 7,.str ⟨#[]⟩,.lst [],.lst []]),.int 0,.lst []]),.lst []]),.dat 23 (.lst [(.agg [.int 5,.int 0,.str ⟨#[]⟩,.lst [],.lst [.agg [.str ⟨#[95,105,100]⟩,(.agg [.int 3,.int 7,.str ⟨#[]⟩,.lst [],.lst []])]]]),(.agg [.int 5,.int 0,.str ⟨#[]⟩,.lst [],.lst [.agg [.str ⟨#[95,105,100]⟩,(.agg [.int 3,.int 7,.str ⟨#[]⟩,.lst [],.lst []])]]])])]
def awkR_final:Res:=(.tup [.dat 23 (.lst [.agg [.int 5,.int 0,.str ⟨#[]⟩,.lst [],.lst [.agg [.str ⟨#[95,105,100]⟩,.agg [.int 3,.int 7,.str ⟨#[]⟩,.lst [],.lst []]]]]]),.dat 27 (.int 0)],[])
theorem awk_final:run Tryz.prog Aw.env 60 24 awkA_final []=some awkR_final:=by kernel_rfl
end Go.Proofs.YtpifchdngodgjaaGreatDoor
