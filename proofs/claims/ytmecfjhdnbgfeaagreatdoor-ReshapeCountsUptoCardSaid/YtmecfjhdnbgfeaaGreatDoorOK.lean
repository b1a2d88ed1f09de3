/- The table of the abstract machine for the fixed example, and its run.
Closed runs of the machine.
Closed runs of the machine.
Closed runs of the machine.
The fixed example of the package:awake() answers true. -/
import Derived.Test.YtmecfjhdnbgfeaaGreatDoorOA
import Derived.Test.YtmecfjhdnbgfeaaGreatDoorAmEnv
import Derived.KernelRfl
set_option linter.all false
namespace Go.Proofs.YtmecfjhdnbgfeaaGreatDoor.Aw
open Go.Am Go.RowKit
set_option maxRecDepth 100000
def aod(f:Nat):Option (List (Nat×List Nat×List Nat×List Nat)):=bif Nat.beq f 14 then some [(4,[2,5,6,7,15,16,17],[2,15,16,17],[5,6,7]),(5,[2,5,6,7,15,16,17],[2,15,16,17],[5,6,7]),(9,[2,5,6,7,10,15,16,17],[2,15,16,17],[5,6,7]),(14,[2,5,6,7,11,15,16,17],[2,15,16,17],[5,6,7]),(15,[2,5,6,7,15,16,17],[2,15,16,17],[5,6,7]),(16,[5,6],[],[5,6]),(17,[5,63,64,65],[63,64,65],[5]),(18,[5,63,64,65],[63,64,65],[5]),(20,[5,63,64,65],[63,64,65],[5]),(21,[5],[],[5])]else bif Nat.beq f 43 then some [(3,[0,2,4,8,9,10],[],[]),(4,[0,2,4,8,9,10],[],[]),(8,[0,2,4,8,9],[],[])]else bif Nat.beq f 46 then some [(5,[0,1,2,7],[],[0,2]),(8,[0,1,2,7,8],[],[0,2]),(13,[0,1,2,7,8],[],[0,2]),(18,[0,1,2,7,8],[],[0,2])]else bif Nat.beq f 110 then some [(3,[1,3,5,6],[3,5,6],[]),(4,[1,3,5,6,20],[3,5,6,20],[]),(5,[1,3,5,6],[3,5,6],[]),(8,[6,8],[6],[])]else bif Nat.beq f 111 then some [(4,[4,5],[4],[])]else bif Nat.beq f 146 then some [(5,[1,2,3,25,26,27],[1,2,25,26,27],[3]),(6,[1,2,3,25,26,27],[1,2,25,26,27],[3]),(8,[1,2,3,25,26,27],[1,2,25,26,27],[3]),(9,[1,2,3],[1,2],[3]),(12,[2,3,49,50,51],[2,49,50,51],[3]),(13,[2,3,49,50,51],[2,49,50,51],[3]),(15,[2,3,49,50,51],[2,49,50,51],[3]),(16,[2,3],[2],[3])]else bif Nat.beq f 148 then some [(4,[0,1,5],[],[0]),(9,[0,1,5],[],[0]),(15,[0,1,5,8],[8],[0]),(17,[0,1,5,8],[8],[0]),(18,[0,1,5,8],[8],[0]),(19,[0,1,5],[],[0]),kq 21 []]else bif Nat.beq f 149 then some [(4,[0,1,4,27],[27],[]),(10,[0,1,5],[5],[])]else bif Nat.beq f 194 then some [(4,[0,1,5],[1,5],[]),(5,[0,1,5,6],[1,5,6],[]),(6,[0,1,5,6],[1,5,6],[]),(7,[0,1,5,6],[1,5,6],[]),(11,[0,5],[5],[])]else bif Nat.beq f 201 then some [(3,[0,2,4],[],[0,2,4]),(10,[0,2,4,44,45,46],[44,45,46],[0,2,4]),(11,[0,2,4,44,45,46],[44,45,46],[0,2,4]),(14,[0,2,4,44,45,46],[44,45,46],[0,2,4]),(15,[0,2,4],[],[0,2,4]),(17,[0,2,4,10,72],[10,72],[0,2,4]),(18,[0],[],[0])]else akz[f]?
def alN:List Nat:=[226,227,192,201,146,46,156,47]
def alO:List Nat:=[226,227,192,201,148,149,200,46,49,90,131,79,118,154,43,132,155,190,203,225,232]
def alP:List Nat:=[]
noncomputable def env:Env:={
 dt:=dtL
 fns:=fun f=>abU[f]?
 keep:=fun f k=>match aod f with
  |some l=>RP l k
  |none=>none
 raw:=fun f=>om f alN
 own:=fun f=>om f alO
 lnd:=fun f=>om f alP
 nest:=fun o=>match o.dst with
  |some d=>om d [47]&&om o.type [23]
  |none=>false
 rdo:=fun f=>om f [99]
 sld:=fun o=>match o.dst with
  |some d=>om d [12]&&om o.type [75]
  |none=>false
 npk:=fun T=>om T []
 orc:=fun f=>none}
theorem bset{A:Type}{b:Bool}{x y z:A}(h:(bif b then x else y)=z):(b=true∧x=z)∨(b=false∧y=z):=by cases b<;>simp_all
theorem adW:(Tryz.prog.funcs.toList.take abU.length=abU)∧(abU.all fun fn=>!(fn.name== "runtime.NumGoroutine"))=true:=⟨by kernel_rfl,by kernel_rfl⟩
theorem env_ok:EnvOK Tryz.prog env:={
 fns:=fun f fn h=>by
  have h:abU[f]? =some fn:=h;refine⟨?_,?_⟩
  · rw[←adW.1,List.getElem?_take]at h;split at h;·rw[Array.getElem?_toList]at h;exact h
    ·cases h
  · have:=List.all_eq_true.1 adW.2 fn (aV h);simpa using this
 orc:=fun f oc args objs q h1 h2=>by have h1:(none)=some oc:=h1;cases h1
 mix:=by kernel_rfl}
end Go.Proofs.YtmecfjhdnbgfeaaGreatDoor.Aw
namespace Go.Proofs.YtmecfjhdnbgfeaaGreatDoor
open Go.RowKit Go.Am
set_option maxRecDepth 1000000
def Aa:List AV:=[.dat 22 (.lst [.str ⟨#[97]⟩]),.dat 9 (.str ⟨#[105]⟩),.dat 4 (.bool false),.dat 23 (.lst [(.agg [.int 5,.int 0,.str ⟨#[]⟩,.lst [],.lst [.agg [.str ⟨#[97]⟩,(.agg [.int 6,.int 0,.str ⟨#[]⟩,.lst [(.agg [.int 3,.int 5,.str ⟨#[]⟩,.lst [],.lst []]),(.agg [.int 3,.int 6,.str ⟨#[]⟩,.lst [],.lst []])],.lst []])]]])])]
def Ab:Res:=(.dat 23 (.lst [.agg [.int 5,.int 0,.str ⟨#[]⟩,.lst [],.lst [.agg [.str ⟨#[97]⟩,.agg [.int 3,.int 5,.str ⟨#[]⟩,.lst [],.lst []]],.agg [.str ⟨#[105]⟩,.agg [.int 3,.int 0,.str ⟨#[]⟩,.lst [],.lst []]]]],.agg [.int 5,.int 0,.str ⟨#[]⟩,.lst [],.lst [.agg [.str ⟨#[97]⟩,.agg [.int 3,.int 6,.str ⟨#[]⟩,.lst [],.lst []]],.agg [.str ⟨#[105]⟩,.agg [.int 3,.int 1,.str ⟨#[]⟩,.lst [],.lst []]]]]]),[])
theorem Xu:run Tryz.prog Aw.env 60 35 Aa []=some Ab:=by kernel_rfl
def Gn:List AV:=[.dat 29 (.agg [.int 2,.lst [.str ⟨#[97]⟩],.str ⟨#[]⟩,.lst [],.agg [.int 0,.int 0,.str ⟨#[]⟩,.lst [],.lst []],.int 0,.lst []]),.dat 23 (.lst [(.agg [.int 5,.int 0,.str ⟨#[]⟩,.lst [],.lst [.agg [.str ⟨#[97]⟩,(.agg [.int 3,.int 1,.str ⟨#[]⟩,.lst [],.lst []])]]])])]
def Gp:Res:=(.tup [.dat 23 (.lst []),.dat 31 (.int 8)],[])
theorem adX:run Tryz.prog Aw.env 60 11 Gn []=some Gp:=by kernel_rfl
def Ac:List AV:=[.dat 29 (.agg [.int 2,.lst [.str ⟨#[97]⟩],.str ⟨#[]⟩,.lst [],.agg [.int 0,.int 0,.str ⟨#[]⟩,.lst [],.lst []],.int 0,.lst []]),.dat 23 (.lst [(.agg [.int 3,.int 0,.str ⟨#[]⟩,.lst [],.lst []]),(.agg [.int 3,.int 10,.str ⟨#[]⟩,.lst [],.lst []])]),.dat 23 (.lst [(.agg [.int 5,.int 0,.str ⟨#[]⟩,.lst [],.lst [.agg [.str ⟨#[97]⟩,(.agg [.int 3,.int 5,.str ⟨#[]⟩,.lst [],.lst []])]]]),(.agg [.int 5,.int 0,.str ⟨#[]⟩,.lst [],.lst [.agg [.str ⟨#[97]⟩,(.agg [.int 3,.int 10,.str ⟨#[]⟩,.lst [],.lst []])]]])])]
def Ad:Res:=(.dat 23 (.lst [.agg [.int 5,.int 0,.str ⟨#[]⟩,.lst [],.lst [.agg [.str ⟨#[95,105,100]⟩,.agg [.int 3,.int 0,.str ⟨#[]⟩,.lst [],.lst []]],.agg [.str ⟨#[99,111,117,110,116]⟩,.agg [.int 3,.int 1,.str ⟨#[]⟩,.lst [],.lst []]]]],.agg [.int 5,.int 0,.str ⟨#[]⟩,.lst [],.lst [.agg [.str ⟨#[95,105,100]⟩,.agg [.int 2,.int 0,.str ⟨#[]⟩,.lst [],.lst []]],.agg [.str ⟨#[99,111,117,110,116]⟩,.agg [.int 3,.int 1,.str ⟨#[]⟩,.lst [],.lst []]]]]]),[])
theorem Xv:run Tryz.prog Aw.env 60 19 Ac []=some Ad:=by kernel_rfl
def Df:List AV:=[.dat 29 (.agg [.int 2,.lst [.str ⟨#[97]⟩],.str ⟨#[]⟩,.lst [],.agg [.int 0,.int 0,.str ⟨#[]⟩,.lst [],.lst []],.int 0,.lst []]),.dat 23 (.lst [(.agg [.int 5,.int 0,.str ⟨#[]⟩,.lst [],.lst [.agg [.str ⟨#[97]⟩,(.agg [.int 3,.int 1,.str ⟨#[]⟩,.lst [],.lst []])]]]),(.agg [.int 5,.int 0,.str ⟨#[]⟩,.lst [],.lst [.agg [.str ⟨#[97]⟩,(.agg [.int 3,.int 2,.str ⟨#[]⟩,.lst [],.lst []])]]]),(.agg [.int 5,.int 0,.str ⟨#[]⟩,.lst [],.lst [.agg [.str ⟨#[97]⟩,(.agg [.int 3,.int 2,.str ⟨#[]⟩,.lst [],.lst []])]]])])]
def Dg:Res:=(.dat 23 (.lst [.agg [.int 5,.int 0,.str ⟨#[]⟩,.lst [],.lst [.agg [.str ⟨#[95,105,100]⟩,.agg [.int 3,.int 2,.str ⟨#[]⟩,.lst [],.lst []]],.agg [.str ⟨#[99,111,117,110,116]⟩,.agg [.int 3,.int 2,.str ⟨#[]⟩,.lst [],.lst []]]]],.agg [.int 5,.int 0,.str ⟨#[]⟩,.lst [],.lst [.agg [.str ⟨#[95,105,100]⟩,.agg [.int 3,.int 1,.str ⟨#[]⟩,.lst [],.lst []]],.agg [.str ⟨#[99,111,117,110,116]⟩,.agg [.int 3,.int 1,.str ⟨#[]⟩,.lst [],.lst []]]]]]),[])
theorem abV:run Tryz.prog Aw.env 60 14 Df []=some Dg:=by kernel_rfl
def Gq:List AV:=[.dat 69 (.agg [.int 2,.lst [.agg [.int 0,.int 0]],.int 5]),.dat 22 (.lst [.str ⟨#[97]⟩]),.dat 9 (.str ⟨#[100]⟩),.dat 23 (.lst [(.agg [.int 5,.int 0,.str ⟨#[]⟩,.lst [],.lst [.agg [.str ⟨#[97]⟩,(.agg [.int 6,.int 0,.str ⟨#[]⟩,.lst [(.agg [.int 3,.int 3,.str ⟨#[]⟩,.lst [],.lst []]),(.agg [.int 3,.int 4,.str ⟨#[]⟩,.lst [],.lst []])],.lst []])]]])])]
def Gr:Res:=(.dat 23 (.lst [.agg [.int 5,.int 0,.str ⟨#[]⟩,.lst [],.lst [.agg [.str ⟨#[97]⟩,.agg [.int 6,.int 0,.str ⟨#[]⟩,.lst [.agg [.int 3,.int 3,.str ⟨#[]⟩,.lst [],.lst []],.agg [.int 3,.int 4,.str ⟨#[]⟩,.lst [],.lst []]],.lst []]],.agg [.str ⟨#[100]⟩,.agg [.int 3,.int 25,.str ⟨#[]⟩,.lst [],.lst []]]]]]),[])
theorem adY:run Tryz.prog Aw.env 60 39 Gq []=some Gr:=by kernel_rfl
def Dh:List AV:=[.dat 51 (.agg [.str ⟨#[115]⟩,.lst [.lst [.str ⟨#[95,105,100]⟩]],.int 4,.int 5]),.dat 23 (.lst []),.dat 23 (.lst [(.agg [.int 5,.int 0,.str ⟨#[]⟩,.lst [],.lst [.agg [.str ⟨#[95,105,100]⟩,(.agg [.int 3,.int 1,.str ⟨#[]⟩,.lst [],.lst []])]]])])]
def Di:Res:=(.tup [.dat 54 (.lst [.agg [.int 2,.str ⟨#[115]⟩,.agg [.int 3,.int 1,.str ⟨#[]⟩,.lst [],.lst []],.agg [.int 5,.int 0,.str ⟨#[]⟩,.lst [],.lst [.agg [.str ⟨#[95,105,100]⟩,.agg [.int 3,.int 1,.str ⟨#[]⟩,.lst [],.lst []]]]],.agg [.int 0,.int 0,.str ⟨#[]⟩,.lst [],.lst []],.agg [.str ⟨#[]⟩,.lst [],.agg [.int 0,.bool false,.agg [.int 0,.int 0,.str ⟨#[]⟩,.lst [],.lst []],.bool false,.agg [.int 0,.int 0,.str ⟨#[]⟩,.lst [],.lst []],.lst [],.int 0,.int 0,.lst [],.lst [],.bool false,.lst [],.bool false],.int 0,.int 0],.agg [.str ⟨#[]⟩,.int 0,.lst [],.bool false,.bool false,.bool false,.agg [.int 0,.lst [],.agg [.int 0,.int 0,.str ⟨#[]⟩,.lst [],.lst []],.lst [],.int 0,.int 0,.agg [.int 0,.lst [],.int 0],.agg [.int 0,.lst [],.str ⟨#[]⟩,.lst [],.agg [.int 0,.int 0,.str ⟨#[]⟩,.lst [],.lst []],.int 0,.lst []],.lst []]],.str ⟨#[]⟩,.int 0,.lst [],.lst [],.bool false]]),.dat 31 (.int 0)],[])
theorem abW:run Tryz.prog Aw.env 60 27 Dh []=some Di:=by kernel_rfl
def Gs(A:List AV)(R:Res)(args:List AV)(objs:List Ob):Option Res:=bif (CG args A&&isNil objs)then some R else none
theorem BF{A:List AV}{R:Res}{f:Nat}{args:List AV}{objs:List Ob}{q:Res}(hr:run Tryz.prog Aw.env 60 f A []=some R)(h:Gs A R args objs=some q):FX Tryz.prog f args objs q.1 q.2∧HasBody Tryz.prog f:=by
 obtain⟨h1,h2⟩:=aN h;obtain rfl:=xY (bg h1);cases h2;cases objs with
 |nil=>exact GR Aw.env_ok 60 f _ _ _ hr
 |cons o r=>cases aO h1
noncomputable def aoe:Env:={Aw.env with orc:=fun f=>bif Nat.beq f 35 then some (Gs Aa Ab)else bif Nat.beq f 11 then some (Gs Gn Gp)else bif Nat.beq f 19 then some (Gs Ac Ad)else bif Nat.beq f 14 then some (Gs Df Dg)else bif Nat.beq f 39 then some (Gs Gq Gr)else bif Nat.beq f 27 then some (Gs Dh Di)else none}
theorem aiW:EnvOK Tryz.prog aoe:={
 fns:=Aw.env_ok.fns
 orc:=fun f oc args objs q h1 h2=>by
  have h1:(bif Nat.beq f 35 then some (Gs Aa Ab)else bif Nat.beq f 11 then some (Gs Gn Gp)else bif Nat.beq f 19 then some (Gs Ac Ad)else bif Nat.beq f 14 then some (Gs Df Dg)else bif Nat.beq f 39 then some (Gs Gq Gr)else bif Nat.beq f 27 then some (Gs Dh Di)else none)=some oc:=h1;rcases Aw.bset h1 with⟨hb,h1⟩| ⟨_,h1⟩
  · have e:=beq_eq hb;subst e;cases h1
    exact BF Xu h2
  rcases Aw.bset h1 with⟨hb,h1⟩| ⟨_,h1⟩
  · have e:=beq_eq hb;subst e;cases h1
    exact BF adX h2
  rcases Aw.bset h1 with⟨hb,h1⟩| ⟨_,h1⟩
  · have e:=beq_eq hb;subst e;cases h1
    exact BF Xv h2
  rcases Aw.bset h1 with⟨hb,h1⟩| ⟨_,h1⟩
  · have e:=beq_eq hb;subst e;cases h1
    exact BF abV h2
  rcases Aw.bset h1 with⟨hb,h1⟩| ⟨_,h1⟩
  · have e:=beq_eq hb;subst e;cases h1
    exact BF adY h2
  rcases Aw.bset h1 with⟨hb,h1⟩| ⟨_,h1⟩
  · have e:=beq_eq hb;subst e;cases h1
    exact BF abW h2
  cases h1
 mix:=Aw.env_ok.mix}
set_option maxRecDepth 1000000 in
theorem abX:run Tryz.prog aoe 60 10 [] []=some (.dat 4 (.bool true),[]):=by kernel_rfl
theorem adZ:FX Tryz.prog 10 [] [] (.dat 4 (.bool true)) []:=(GR aiW 60 10 [] [] _ abX).1
def xI:Option Bool:=some true
theorem abY{r:Bool}(h:xI=some r):FX Tryz.prog 10 [] [] (.dat 4 (.bool r)) []:=by cases h;exact adZ
