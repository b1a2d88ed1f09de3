/- Closed runs of the machine. -/
import Derived.Test.YtameompfdamfpaaGreatDoorAwEnv
import Derived.KernelRfl
set_option linter.unusedVariables false
set_option linter.unusedSimpArgs false
namespace Go.Proofs.YtameompfdamfpaaGreatDoor
open Go.RowKit Go.Am
set_option maxRecDepth 1000000
def awkA_bucket:List AV:=[.dat 36 (.agg [.int 2,.lst [.str ⟨#[97]⟩],.str ⟨#[]⟩,.lst [],.agg [.int 0,.int 0,.str ⟨#[]⟩,.lst [],.lst []],.int 0,.lst []]),.dat 23 (.lst [(.agg [.int 3,.int 0,.str ⟨#[]⟩,.lst [],.lst []]),(.agg [.int 3,.int 10,.str ⟨#[]⟩,.lst [],.lst []])]),.dat 23 (.lst [(.agg [.int 5,.int 0,.str ⟨#[]⟩,.lst [],.lst [.agg [.str ⟨#[97]⟩,(.agg [.int 3,.int 5,.str ⟨#[]⟩,.lst [],.lst []])]]]),(.agg [.int 5,.int 0,.str ⟨#[]⟩,.lst [],.lst [.agg [.str ⟨#[97]⟩,(.agg [.int 3,.int 10,.str ⟨#[]⟩,.lst [],.lst []])]]])])]
def awkR_bucket:Res:=(.dat 23 (.lst [.agg [.int 5,.int 0,.str ⟨#[]⟩,.lst [],.lst [.agg [.str ⟨#[95,105,100]⟩,.agg [.int 3,.int 0,.str ⟨#[]⟩,.lst [],.lst []]],.agg [.str ⟨#[99,111,117,110,116]⟩,.agg [.int 3,.int 1,.str ⟨#[]⟩,.lst [],.lst []]]]],.agg [.int 5,.int 0,.str ⟨#[]⟩,.lst [],.lst [.agg [.str ⟨#[95,105,100]⟩,.agg [.int 2,.int 0,.str ⟨#[]⟩,.lst [],.lst []]],.agg [.str ⟨#[99,111,117,110,116]⟩,.agg [.int 3,.int 1,.str ⟨#[]⟩,.lst [],.lst []]]]]]),[])
theorem awk_bucket:run Tryz.prog Aw.env 60 25 awkA_bucket []=some awkR_bucket:=by kernel_rfl
def awkA_tally:List AV:=[.dat 36 (.agg [.int 2,.lst [.str ⟨#[97]⟩],.str ⟨#[]⟩,.lst [],.agg [.int 0,.int 0,.str ⟨#[]⟩,.lst [],.lst []],.int 0,.lst []]),.dat 23 (.lst [(.agg [.int 5,.int 0,.str ⟨#[]⟩,.lst [],.lst [.agg [.str ⟨#[97]⟩,(.agg [.int 3,.int 1,.str ⟨#[]⟩,.lst [],.lst []])]]]),(.agg [.int 5,.int 0,.str ⟨#[]⟩,.lst [],.lst [.agg [.str ⟨#[97]⟩,(.agg [.int 3,.int 2,.str ⟨#[]⟩,.lst [],.lst []])]]]),(.agg [.int 5,.int 0,.str ⟨#[]⟩,.lst [],.lst [.agg [.str ⟨#[97]⟩,(.agg [.int 3,.int 2,.str ⟨#[]⟩,.lst [],.lst []])]]])])]
def awkR_tally:Res:=(.dat 23 (.lst [.agg [.int 5,.int 0,.str ⟨#[]⟩,.lst [],.lst [.agg [.str ⟨#[95,105,100]⟩,.agg [.int 3,.int 2,.str ⟨#[]⟩,.lst [],.lst []]],.agg [.str ⟨#[99,111,117,110,116]⟩,.agg [.int 3,.int 2,.str ⟨#[]⟩,.lst [],.lst []]]]],.agg [.int 5,.int 0,.str ⟨#[]⟩,.lst [],.lst [.agg [.str ⟨#[95,105,100]⟩,.agg [.int 3,.int 1,.str ⟨#[]⟩,.lst [],.lst []]],.agg [.str ⟨#[99,111,117,110,116]⟩,.agg [.int 3,.int 1,.str ⟨#[]⟩,.lst [],.lst []]]]]]),[])
theorem awk_tally:run Tryz.prog Aw.env 60 20 awkA_tally []=some awkR_tally:=by kernel_rfl
end Go.Proofs.YtameompfdamfpaaGreatDoor
