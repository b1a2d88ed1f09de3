/- Closed runs of the machine. -/
import Derived.Test.YtpifchdngodgjaaGreatDoorAwEnv
import Derived.KernelRfl
set_option linter.unusedVariables false
set_option linter.unusedSimpArgs false
namespace Go.Proofs.YtpifchdngodgjaaGreatDoor
open Go.RowKit Go.Am
set_option maxRecDepth 1000000
def awkA_sorta:List AV:=[.dat 22 (.lst []),.dat 23 (.lst [(.agg [.int 5,.int 0,.str ⟨#[]⟩,.lst [],.lst []]),(.agg [.int 5,.int 0,.str ⟨#[]⟩,.lst [],.lst []])]),.dat 3 (.int 1),.dat 4 (.bool true)]
def awkR_sorta:Res:=(.tup [.dat 23 (.lst [.agg [.int 5,.int 0,.str ⟨#[]⟩,.lst [],.lst []],.agg [.int 5,.int 0,.str ⟨#[]⟩,.lst [],.lst []]]),.dat 3 (.int 2),.dat 27 (.int 0)],[])
theorem awk_sorta:run Tryz.prog Aw.env 60 8 awkA_sorta []=some awkR_sorta:=by kernel_rfl
def awkA_sortb:List AV:=[.dat 22 (.lst []),.dat 23 (.lst [(.agg [.int 5,.int 0,.str ⟨#[]⟩,.lst [],.lst []]),(.agg [.int 5,.int 0,.str ⟨#[]⟩,.lst [],.lst []])]),.dat 3 (.int 1),.dat 4 (.bool false)]
def awkR_sortb:Res:=(.tup [.dat 23 (.lst []),.dat 3 (.int 0),.dat 27 (.int 22)],[])
theorem awk_sortb:run Tryz.prog Aw.env 60 8 awkA_sortb []=some awkR_sortb:=by kernel_rfl
end Go.Proofs.YtpifchdngodgjaaGreatDoor
