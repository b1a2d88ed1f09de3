/- Closed runs of the machine. -/
import Derived.Test.YtameompfdamfpaaGreatDoorAwEnv
import Derived.KernelRfl
set_option linter.unusedVariables false
set_option linter.unusedSimpArgs false
namespace Go.Proofs.YtameompfdamfpaaGreatDoor
open Go.RowKit Go.Am
set_option maxRecDepth 1000000
def awkA_near:List AV:=[.dat 49 (.agg [.int 2,.lst [.agg [.int 0,.int 0]],.int 5]),.dat 22 (.lst [.str ⟨#[97]⟩]),.dat 9 (.str ⟨#[100]⟩),.dat 23 (.lst [(.agg [.int 5,.int 0,.str ⟨#[]⟩,.lst [],.lst [.agg [.str ⟨#[97]⟩,(.agg [.int 6,.int 0,.str ⟨#[]⟩,.lst [(.agg [.int 3,.int 3,.str ⟨#[]⟩,.lst [],.lst []]),(.agg [.int 3,.int 4,.str ⟨#[]⟩,.lst [],.lst []])],.lst []])]]])])]
def awkR_near:Res:=(.dat 23 (.lst [.agg [.int 5,.int 0,.str ⟨#[]⟩,.lst [],.lst [.agg [.str ⟨#[97]⟩,.agg [.int 6,.int 0,.str ⟨#[]⟩,.lst [.agg [.int 3,.int 3,.str ⟨#[]⟩,.lst [],.lst []],.agg [.int 3,.int 4,.str ⟨#[]⟩,.lst [],.lst []]],.lst []]],.agg [.str ⟨#[100]⟩,.agg [.int 3,.int 25,.str ⟨#[]⟩,.lst [],.lst []]]]]]),[])
theorem awk_near:run Tryz.prog Aw.env 60 27 awkA_near []=some awkR_near:=by kernel_rfl
def awkA_merge:List AV:=[.dat 60 (.agg [.str ⟨#[115]⟩,.lst [.lst [.str ⟨#[95,105,100]⟩]],.int 4,.int 5]),.dat 23 (.lst []),.dat 23 (.lst [(.agg [.int 5,.int 0,.str ⟨#[]⟩,.lst [],.lst [.agg [.str ⟨#[95,105,100]⟩,(.agg [.int 3,.int 1,.str ⟨#[]⟩,.lst [],.lst []])]]])])]
def awkR_merge:Res:=(.tup [.dat 63 (.lst [.agg [.int 2,.str ⟨#[115]⟩,.agg [.int 3,.int 1,.str ⟨#[]⟩,.lst [],.lst []],.agg [.int 5,.int 0,.str ⟨#[]⟩,.lst [],.lst [.agg [.str ⟨#[95,105,100]⟩,.agg [.int 3,.int 1,.str ⟨#[]⟩,.lst [],.lst []]]]],.agg [.int 0,.int 0,.str ⟨#[]⟩,.lst [],.lst []],.agg [.str ⟨#[]⟩,.lst [],.agg [.int 0,.bool false,.agg [.int 0,.int 0,.str ⟨#[]⟩,.lst [],.lst []],.bool false,.agg [.int 0,.int 0,.str ⟨#[]⟩,.lst [],.lst []],.lst [],.int 0,.int 0,.lst [],.lst [],.bool false,.lst [],.bool false],.int 0,.int 0],.agg [.str ⟨#[]⟩,.int 0,.lst [],.bool false,.bool false,.bool false,.agg [.int 0,.lst [],.agg [.int 0,.int 0,.str ⟨#[]⟩,.lst [],.lst []],.lst [],.int 0,.int 0,.agg [.int 0,.lst [],.int 0],.agg [.int 0,.lst [],.str ⟨#[]⟩,.lst [],.agg [.int 0,.int 0,.str ⟨#[]⟩,.lst [],.lst []],.int 0,.lst []],.lst []]],.str ⟨#[]⟩,.int 0,.lst [],.lst [],.bool false]]),.dat 37 (.int 0)],[])
theorem awk_merge:run Tryz.prog Aw.env 60 35 awkA_merge []=some awkR_merge:=by kernel_rfl
end Go.Proofs.YtameompfdamfpaaGreatDoor
