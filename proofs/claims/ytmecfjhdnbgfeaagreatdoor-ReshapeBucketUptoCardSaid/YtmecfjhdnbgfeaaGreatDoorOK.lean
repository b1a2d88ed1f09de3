/- Closed runs of the machine.
Closed runs of the machine.
Closed runs of the machine. -/
import Derived.Test.YtmecfjhdnbgfeaaGreatDoorAwEnv
import Derived.KernelRfl
set_option linter.unusedVariables false
set_option linter.unusedSimpArgs false
namespace Go.Proofs.YtmecfjhdnbgfeaaGreatDoor
open Go.RowKit Go.Am
set_option maxRecDepth 1000000
def A9:List AV:=[.dat 22 (.lst [.str ⟨#[97]⟩]),.dat 9 (.str ⟨#[105]⟩),.dat 4 (.bool false),.dat 23 (.lst [(.agg [.int 5,.int 0,.str ⟨#[]⟩,.lst [],.lst [.agg [.str ⟨#[97]⟩,(.agg [.int 6,.int 0,.str ⟨#[]⟩,.lst [(.agg [.int 3,.int 5,.str ⟨#[]⟩,.lst [],.lst []]),(.agg [.int 3,.int 6,.str ⟨#[]⟩,.lst [],.lst []])],.lst []])]]])])]
def Ba:Res:=(.dat 23 (.lst [.agg [.int 5,.int 0,.str ⟨#[]⟩,.lst [],.lst [.agg [.str ⟨#[97]⟩,.agg [.int 3,.int 5,.str ⟨#[]⟩,.lst [],.lst []]],.agg [.str ⟨#[105]⟩,.agg [.int 3,.int 0,.str ⟨#[]⟩,.lst [],.lst []]]]],.agg [.int 5,.int 0,.str ⟨#[]⟩,.lst [],.lst [.agg [.str ⟨#[97]⟩,.agg [.int 3,.int 6,.str ⟨#[]⟩,.lst [],.lst []]],.agg [.str ⟨#[105]⟩,.agg [.int 3,.int 1,.str ⟨#[]⟩,.lst [],.lst []]]]]]),[])
theorem Zt:run Tryz.prog Aw.env 60 35 A9 []=some Ba:=by kernel_rfl
def Ho:List AV:=[.dat 29 (.agg [.int 2,.lst [.str ⟨#[97]⟩],.str ⟨#[]⟩,.lst [],.agg [.int 0,.int 0,.str ⟨#[]⟩,.lst [],.lst []],.int 0,.lst []]),.dat 23 (.lst [(.agg [.int 5,.int 0,.str ⟨#[]⟩,.lst [],.lst [.agg [.str ⟨#[97]⟩,(.agg [.int 3,.int 1,.str ⟨#[]⟩,.lst [],.lst []])]]])])]
def Hq:Res:=(.tup [.dat 23 (.lst []),.dat 31 (.int 8)],[])
theorem ags:run Tryz.prog Aw.env 60 11 Ho []=some Hq:=by kernel_rfl
end Go.Proofs.YtmecfjhdnbgfeaaGreatDoor
namespace Go.Proofs.YtmecfjhdnbgfeaaGreatDoor
open Go.RowKit Go.Am
set_option maxRecDepth 1000000
def Bb:List AV:=[.dat 29 (.agg [.int 2,.lst [.str ⟨#[97]⟩],.str ⟨#[]⟩,.lst [],.agg [.int 0,.int 0,.str ⟨#[]⟩,.lst [],.lst []],.int 0,.lst []]),.dat 23 (.lst [(.agg [.int 3,.int 0,.str ⟨#[]⟩,.lst [],.lst []]),(.agg [.int 3,.int 10,.str ⟨#[]⟩,.lst [],.lst []])]),.dat 23 (.lst [(.agg [.int 5,.int 0,.str ⟨#[]⟩,.lst [],.lst [.agg [.str ⟨#[97]⟩,(.agg [.int 3,.int 5,.str ⟨#[]⟩,.lst [],.lst []])]]]),(.agg [.int 5,.int 0,.str ⟨#[]⟩,.lst [],.lst [.agg [.str ⟨#[97]⟩,(.agg [.int 3,.int 10,.str ⟨#[]⟩,.lst [],.lst []])]]])])]
def Bc:Res:=(.dat 23 (.lst [.agg [.int 5,.int 0,.str ⟨#[]⟩,.lst [],.lst [.agg [.str ⟨#[95,105,100]⟩,.agg [.int 3,.int 0,.str ⟨#[]⟩,.lst [],.lst []]],.agg [.str ⟨#[99,111,117,110,116]⟩,.agg [.int 3,.int 1,.str ⟨#[]⟩,.lst [],.lst []]]]],.agg [.int 5,.int 0,.str ⟨#[]⟩,.lst [],.lst [.agg [.str ⟨#[95,105,100]⟩,.agg [.int 2,.int 0,.str ⟨#[]⟩,.lst [],.lst []]],.agg [.str ⟨#[99,111,117,110,116]⟩,.agg [.int 3,.int 1,.str ⟨#[]⟩,.lst [],.lst []]]]]]),[])
theorem Zu:run Tryz.prog Aw.env 60 19 Bb []=some Bc:=by kernel_rfl
def Ea:List AV:=[.dat 29 (.agg [.int 2,.lst [.str ⟨#[97]⟩],.str ⟨#[]⟩,.lst [],.agg [.int 0,.int 0,.str ⟨#[]⟩,.lst [],.lst []],.int 0,.lst []]),.dat 23 (.lst [(.agg [.int 5,.int 0,.str ⟨#[]⟩,.lst [],.lst [.agg [.str ⟨#[97]⟩,(.agg [.int 3,.int 1,.str ⟨#[]⟩,.lst [],.lst []])]]]),(.agg [.int 5,.int 0,.str ⟨#[]⟩,.lst [],.lst [.agg [.str ⟨#[97]⟩,(.agg [.int 3,.int 2,.str ⟨#[]⟩,.lst [],.lst []])]]]),(.agg [.int 5,.int 0,.str ⟨#[]⟩,.lst [],.lst [.agg [.str ⟨#[97]⟩,(.agg [.int 3,.int 2,.str ⟨#[]⟩,.lst [],.lst []])]]])])]
def Eb:Res:=(.dat 23 (.lst [.agg [.int 5,.int 0,.str ⟨#[]⟩,.lst [],.lst [.agg [.str ⟨#[95,105,100]⟩,.agg [.int 3,.int 2,.str ⟨#[]⟩,.lst [],.lst []]],.agg [.str ⟨#[99,111,117,110,116]⟩,.agg [.int 3,.int 2,.str ⟨#[]⟩,.lst [],.lst []]]]],.agg [.int 5,.int 0,.str ⟨#[]⟩,.lst [],.lst [.agg [.str ⟨#[95,105,100]⟩,.agg [.int 3,.int 1,.str ⟨#[]⟩,.lst [],.lst []]],.agg [.str ⟨#[99,111,117,110,116]⟩,.agg [.int 3,.int 1,.str ⟨#[]⟩,.lst [],.lst []]]]]]),[])
theorem adn:run Tryz.prog Aw.env 60 14 Ea []=some Eb:=by kernel_rfl
end Go.Proofs.YtmecfjhdnbgfeaaGreatDoor
namespace Go.Proofs.YtmecfjhdnbgfeaaGreatDoor
open Go.RowKit Go.Am
set_option maxRecDepth 1000000
def Hr:List AV:=[.dat 69 (.agg [.int 2,.lst [.agg [.int 0,.int 0]],.int 5]),.dat 22 (.lst [.str ⟨#[97]⟩]),.dat 9 (.str ⟨#[100]⟩),.dat 23 (.lst [(.agg [.int 5,.int 0,.str ⟨#[]⟩,.lst [],.lst [.agg [.str ⟨#[97]⟩,(.agg [.int 6,.int 0,.str ⟨#[]⟩,.lst [(.agg [.int 3,.int 3,.str ⟨#[]⟩,.lst [],.lst []]),(.agg [.int 3,.int 4,.str ⟨#[]⟩,.lst [],.lst []])],.lst []])]]])])]
def Ht:Res:=(.dat 23 (.lst [.agg [.int 5,.int 0,.str ⟨#[]⟩,.lst [],.lst [.agg [.str ⟨#[97]⟩,.agg [.int 6,.int 0,.str ⟨#[]⟩,.lst [.agg [.int 3,.int 3,.str ⟨#[]⟩,.lst [],.lst []],.agg [.int 3,.int 4,.str ⟨#[]⟩,.lst [],.lst []]],.lst []]],.agg [.str ⟨#[100]⟩,.agg [.int 3,.int 25,.str ⟨#[]⟩,.lst [],.lst []]]]]]),[])
theorem agt:run Tryz.prog Aw.env 60 39 Hr []=some Ht:=by kernel_rfl
def Ec:List AV:=[.dat 51 (.agg [.str ⟨#[115]⟩,.lst [.lst [.str ⟨#[95,105,100]⟩]],.int 4,.int 5]),.dat 23 (.lst []),.dat 23 (.lst [(.agg [.int 5,.int 0,.str ⟨#[]⟩,.lst [],.lst [.agg [.str ⟨#[95,105,100]⟩,(.agg [.int 3,.int 1,.str ⟨#[]⟩,.lst [],.lst []])]]])])]
def Ed:Res:=(.tup [.dat 54 (.lst [.agg [.int 2,.str ⟨#[115]⟩,.agg [.int 3,.int 1,.str ⟨#[]⟩,.lst [],.lst []],.agg [.int 5,.int 0,.str ⟨#[]⟩,.lst [],.lst [.agg [.str ⟨#[95,105,100]⟩,.agg [.int 3,.int 1,.str ⟨#[]⟩,.lst [],.lst []]]]],.agg [.int 0,.int 0,.str ⟨#[]⟩,.lst [],.lst []],.agg [.str ⟨#[]⟩,.lst [],.agg [.int 0,.bool false,.agg [.int 0,.int 0,.str ⟨#[]⟩,.lst [],.lst []],.bool false,.agg [.int 0,.int 0,.str ⟨#[]⟩,.lst [],.lst []],.lst [],.int 0,.int 0,.lst [],.lst [],.bool false,.lst [],.bool false],.int 0,.int 0],.agg [.str ⟨#[]⟩,.int 0,.lst [],.bool false,.bool false,.bool false,.agg [.int 0,.lst [],.agg [.int 0,.int 0,.str ⟨#[]⟩,.lst [],.lst []],.lst [],.int 0,.int 0,.agg [.int 0,.lst [],.int 0],.agg [.int 0,.lst [],.str ⟨#[]⟩,.lst [],.agg [.int 0,.int 0,.str ⟨#[]⟩,.lst [],.lst []],.int 0,.lst []],.lst []]],.str ⟨#[]⟩,.int 0,.lst [],.lst [],.bool false]]),.dat 31 (.int 0)],[])
theorem ado:run Tryz.prog Aw.env 60 27 Ec []=some Ed:=by kernel_rfl
end Go.Proofs.YtmecfjhdnbgfeaaGreatDoor
