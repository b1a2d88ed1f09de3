/- Closed runs of the machine. -/
import Derived.Test.YtameompfdamfpaaGreatDoorAwEnv
import Derived.KernelRfl
set_option linter.unusedVariables false
set_option linter.unusedSimpArgs false
namespace Go.Proofs.YtameompfdamfpaaGreatDoor
open Go.RowKit Go.Am
set_option maxRecDepth 1000000
def awkA_unwind:List AV:=[.dat 22 (.lst [.str ⟨#[97]⟩]),.dat 9 (.str ⟨#[105]⟩),.dat 4 (.bool false),.dat 23 (.lst [(.agg [.int 5,.int 0,.str ⟨#[]⟩,.lst [],.lst [.agg [.str ⟨#[97]⟩,(.agg [.int 6,.int 0,.str ⟨#[]⟩,.lst [(.agg [.int 3,.int 5,.str ⟨#[]⟩,.lst [],.lst []]),(.agg [.int 3,.int 6,.str ⟨#[]⟩,.lst [],.lst []])],.lst []])]]])])]
def awkR_unwind:Res:=(.dat 23 (.lst [.agg [.int 5,.int 0,.str ⟨#[]⟩,.lst [],.lst [.agg [.str ⟨#[97]⟩,.agg [.int 3,.int 5,.str ⟨#[]⟩,.lst [],.lst []]],.agg [.str ⟨#[105]⟩,.agg [.int 3,.int 0,.str ⟨#[]⟩,.lst [],.lst []]]]],.agg [.int 5,.int 0,.str ⟨#[]⟩,.lst [],.lst [.agg [.str ⟨#[97]⟩,.agg [.int 3,.int 6,.str ⟨#[]⟩,.lst [],.lst []]],.agg [.str ⟨#[105]⟩,.agg [.int 3,.int 1,.str ⟨#[]⟩,.lst [],.lst []]]]]]),[])
theorem awk_unwind:run Tryz.prog Aw.env 60 15 awkA_unwind []=some awkR_unwind:=by kernel_rfl
def awkA_root:List AV:=[.dat 36 (.agg [.int 2,.lst [.str ⟨#[97]⟩],.str ⟨#[]⟩,.lst [],.agg [.int 0,.int 0,.str ⟨#[]⟩,.lst [],.lst []],.int 0,.lst []]),.dat 23 (.lst [(.agg [.int 5,.int 0,.str ⟨#[]⟩,.lst [],.lst [.agg [.str ⟨#[97]⟩,(.agg [.int 3,.int 1,.str ⟨#[]⟩,.lst [],.lst []])]]])])]
def awkR_root:Res:=(.tup [.dat 23 (.lst []),.dat 37 (.int 8)],[])
theorem awk_root:run Tryz.prog Aw.env 60 18 awkA_root []=some awkR_root:=by kernel_rfl
end Go.Proofs.YtameompfdamfpaaGreatDoor
