/- The table of the abstract machine for the fixed example, and its run.
accum:the rule of the operator that counts (the other operators:a contract that says nothing).
Closed runs of the machine.
Closed runs of the machine.
Closed runs of the machine.
The fixed example of the package:awake() answers true. -/
import Derived.Test.YtjibjkdalajaiaaGreatDoorOA
import Derived.Test.YtjibjkdalajaiaaGreatDoorAmEnv
import Derived.KernelRfl
set_option linter.all false
namespace Go.Proofs.YtjibjkdalajaiaaGreatDoor.Aw
open Go.Am Go.RowKit
set_option maxRecDepth 100000
def atW(f:Nat):Option (List (Nat×List Nat×List Nat×List Nat)):=bif Nat.beq f 22 then some [(3,[0,2,4,7,22,23,24],[],[7,4000000]),(4,[0,2,4,7,22,23,24],[],[7]),(7,[0,2,4,7,8,10,22,23,24,34,35,36],[],[7,10,4000000]),(8,[0,2,4,7,8,10,22,23,24,34,35,36],[],[7,10]),(10,[0,2,4,7,8,10,22,23,24,34,35,36],[],[7,10]),(11,[0,2,4,7,8,10,22,23,24],[],[7,10]),(12,[0,2,4,7,22,23,24],[],[7]),(13,[7],[],[7])]else apx[f]?
def aq2:List Nat:=[61,153,21,19,22]
def aq3:List Nat:=[61,81,107,128,58]
def aq4:List Nat:=[]
noncomputable def env:Env:={
 dt:=dtL
 fns:=fun f=>agF[f]?
 keep:=fun f k=>match atW f with
  |some l=>VR l k
  |none=>none
 raw:=fun f=>ny f aq2
 own:=fun f=>ny f aq3
 lnd:=fun f=>ny f aq4
 nest:=fun o=>match o.dst with
  |some d=>ny d [94]&&ny o.type [73]
  |none=>false
 rdo:=fun f=>ny f []
 sld:=fun o=>match o.dst with
  |some d=>ny d [12]&&ny o.type [74]
  |none=>false
 npk:=fun T=>ny T [76]
 foc:=fun f id=>bif (Nat.beq f 21&&Nat.beq id 12)then some (1,5,9)else bif (Nat.beq f 18&&Nat.beq id 22)then some (1,6,14)else bif (Nat.beq f 22&&Nat.beq id 9)then some (1,0,8)else none
 orc:=fun f=>none}
theorem bset{A:Type}{b:Bool}{x y z:A}(h:(bif b then x else y)=z):(b=true∧x=z)∨(b=false∧y=z):=by cases b<;>simp_all
theorem aiE:(Tryz.prog.funcs.toList.take agF.length=agF)∧(agF.all fun fn=>!(fn.name== "runtime.NumGoroutine"))=true:=⟨by kernel_rfl,by kernel_rfl⟩
theorem env_ok:EnvOK Tryz.prog env:={
 fns:=fun f fn h=>by
  have h:agF[f]? =some fn:=h;refine⟨?_,?_⟩
  · rw[←aiE.1,List.getElem?_take]at h;split at h;·rw[Array.getElem?_toList]at h;exact h
    ·cases h
  · have:=List.all_eq_true.1 aiE.2 fn (aU h);simpa using this
 orc:=fun f oc args objs q h1 h2=>by have h1:(none)=some oc:=h1;cases h1
 mix:=by kernel_rfl}
end Go.Proofs.YtjibjkdalajaiaaGreatDoor.Aw
namespace Go.Proofs.YtjibjkdalajaiaaGreatDoor
open Go.RowKit Go.Am
noncomputable def VU{R:Type}(args:List AV)(objs:List Ob)(K:Res->Option R):Option R:=match args,objs with
 | [.dat T0 d],[]=>bif Nat.beq T0 3 then(bif d.toInt==2 then K (.tup [.ifc 108 (.agg 108 []),.dat 4 (.bool true)],[])else none)else none
 |_,_=>none
set_option maxRecDepth 1000000 in
theorem abC:run Tryz.prog Aw.env 60 45 [.dat 3 (.int 2)] []=some (.tup [.ifc 108 (.agg 108 []),.dat 4 (.bool true)],[]):=by kernel_rfl
theorem abD{R:Type}{args:List AV}{objs:List Ob}{K:Res->Option R}{r:R}(h:VU args objs K=some r):∃q:Res,K q=some r∧FX Tryz.prog 45 args objs q.1 q.2∧HasBody Tryz.prog 45:=by
 unfold VU at h;split at h
 ·rename_i T0 d;obtain⟨h1,h2⟩:=aJ h;have e:=beq_eq h1;subst e;obtain⟨h3,h4⟩:=aJ h2;have hd:d.toInt=2:=by simpa using h3
  have hr:=abC;rw[←hd]at hr;exact⟨_,h4,(AA Aw.env_ok 60 45 _ _ _ hr).1.conv (.cons (.of (.dat (.int Tryz.underlying3)) rfl rfl) .nil) .nil,(AA Aw.env_ok 60 45 _ _ _ hr).2⟩
 ·cases h
set_option maxRecDepth 1000000
def Ji:List AV:=[.dat 35 (.agg [(.agg [.int 2,.lst [.str ⟨#[107]⟩],.str ⟨#[]⟩,.lst [],.agg [.int 0,.int 0,.str ⟨#[]⟩,.lst [],.lst []],.int 0,.lst []]),.lst [.agg [.str ⟨#[115]⟩,.int 1,(.agg [.int 2,.lst [.str ⟨#[110]⟩],.str ⟨#[]⟩,.lst [],.agg [.int 0,.int 0,.str ⟨#[]⟩,.lst [],.lst []],.int 0,.lst []]),.lst [],.int 0]]]),.dat 23 (.lst [(.agg [.int 5,.int 0,.str ⟨#[]⟩,.lst [],.lst [.agg [.str ⟨#[107]⟩,(.agg [.int 3,.int 1,.str ⟨#[]⟩,.lst [],.lst []])],.agg [.str ⟨#[110]⟩,(.agg [.int 3,.int 2,.str ⟨#[]⟩,.lst [],.lst []])]]]),(.agg [.int 5,.int 0,.str ⟨#[]⟩,.lst [],.lst [.agg [.str ⟨#[107]⟩,(.agg [.int 3,.int 3,.str ⟨#[]⟩,.lst [],.lst []])],.agg [.str ⟨#[110]⟩,(.agg [.int 3,.int 5,.str ⟨#[]⟩,.lst [],.lst []])]]]),(.agg [.int 5,.int 0,.str ⟨#[]⟩,.lst [],.lst [.agg [.str ⟨#[107]⟩,(.agg [.int 3,.int 1,.str ⟨#[]⟩,.lst [],.lst []])],.agg [.str ⟨#[110]⟩,(.agg [.int 3,.int 3,.str ⟨#[]⟩,.lst [],.lst []])]]])])]
def Jj:Res:=(.dat 23 (.lst [.agg [.int 5,.int 0,.str ⟨#[]⟩,.lst [],.lst [.agg [.str ⟨#[95,105,100]⟩,.agg [.int 3,.int 1,.str ⟨#[]⟩,.lst [],.lst []]],.agg [.str ⟨#[115]⟩,.agg [.int 3,.int 5,.str ⟨#[]⟩,.lst [],.lst []]]]],.agg [.int 5,.int 0,.str ⟨#[]⟩,.lst [],.lst [.agg [.str ⟨#[95,105,100]⟩,.agg [.int 3,.int 3,.str ⟨#[]⟩,.lst [],.lst []]],.agg [.str ⟨#[115]⟩,.agg [.int 3,.int 5,.str ⟨#[]⟩,.lst [],.lst []]]]]]),[])
theorem aiF:run Tryz.prog Aw.env 60 6 Ji []=some Jj:=by kernel_rfl
def Jk:List AV:=[.dat 35 (.agg [(.agg [.int 2,.lst [.str ⟨#[107]⟩],.str ⟨#[]⟩,.lst [],.agg [.int 0,.int 0,.str ⟨#[]⟩,.lst [],.lst []],.int 0,.lst []]),.lst [.agg [.str ⟨#[115]⟩,.int 1,(.agg [.int 2,.lst [.str ⟨#[110]⟩],.str ⟨#[]⟩,.lst [],.agg [.int 0,.int 0,.str ⟨#[]⟩,.lst [],.lst []],.int 0,.lst []]),.lst [],.int 0]]]),.dat 23 (.lst [(.agg [.int 5,.int 0,.str ⟨#[]⟩,.lst [],.lst [.agg [.str ⟨#[107]⟩,(.agg [.int 3,.int 1,.str ⟨#[]⟩,.lst [],.lst []])],.agg [.str ⟨#[110]⟩,(.agg [.int 3,.int 2,.str ⟨#[]⟩,.lst [],.lst []])]]]),(.agg [.int 5,.int 0,.str ⟨#[]⟩,.lst [],.lst [.agg [.str ⟨#[107]⟩,(.agg [.int 3,.int 3,.str ⟨#[]⟩,.lst [],.lst []])],.agg [.str ⟨#[110]⟩,(.agg [.int 3,.int 5,.str ⟨#[]⟩,.lst [],.lst []])]]])])]
def Jl:Res:=(.row 0,[.row 23 [.agg [.int 5,.int 0,.str ⟨#[]⟩,.lst [],.lst [.agg [.str ⟨#[95,105,100]⟩,.agg [.int 3,.int 1,.str ⟨#[]⟩,.lst [],.lst []]],.agg [.str ⟨#[115]⟩,.agg [.int 5,.int 0,.str ⟨#[]⟩,.lst [],.lst [.agg [.str ⟨#[111,112]⟩,.agg [.int 3,.int 1,.str ⟨#[]⟩,.lst [],.lst []]],.agg [.str ⟨#[115,117,109]⟩,.agg [.int 3,.int 2,.str ⟨#[]⟩,.lst [],.lst []]],.agg [.str ⟨#[99,111,117,110,116]⟩,.agg [.int 3,.int 0,.str ⟨#[]⟩,.lst [],.lst []]]]]]]],.agg [.int 5,.int 0,.str ⟨#[]⟩,.lst [],.lst [.agg [.str ⟨#[95,105,100]⟩,.agg [.int 3,.int 3,.str ⟨#[]⟩,.lst [],.lst []]],.agg [.str ⟨#[115]⟩,.agg [.int 5,.int 0,.str ⟨#[]⟩,.lst [],.lst [.agg [.str ⟨#[111,112]⟩,.agg [.int 3,.int 1,.str ⟨#[]⟩,.lst [],.lst []]],.agg [.str ⟨#[115,117,109]⟩,.agg [.int 3,.int 5,.str ⟨#[]⟩,.lst [],.lst []]],.agg [.str ⟨#[99,111,117,110,116]⟩,.agg [.int 3,.int 0,.str ⟨#[]⟩,.lst [],.lst []]]]]]]]]])
theorem aiG:run Tryz.prog Aw.env 60 19 Jk []=some Jl:=by kernel_rfl
def Jm:List AV:=[.dat 35 (.agg [(.agg [.int 2,.lst [.str ⟨#[107]⟩],.str ⟨#[]⟩,.lst [],.agg [.int 0,.int 0,.str ⟨#[]⟩,.lst [],.lst []],.int 0,.lst []]),.lst [.agg [.str ⟨#[115]⟩,.int 1,(.agg [.int 2,.lst [.str ⟨#[110]⟩],.str ⟨#[]⟩,.lst [],.agg [.int 0,.int 0,.str ⟨#[]⟩,.lst [],.lst []],.int 0,.lst []]),.lst [],.int 0]]]),.dat 23 (.lst [(.agg [.int 5,.int 0,.str ⟨#[]⟩,.lst [],.lst [.agg [.str ⟨#[107]⟩,(.agg [.int 3,.int 1,.str ⟨#[]⟩,.lst [],.lst []])],.agg [.str ⟨#[110]⟩,(.agg [.int 3,.int 3,.str ⟨#[]⟩,.lst [],.lst []])]]])])]
def Jo:Res:=(.row 0,[.row 23 [.agg [.int 5,.int 0,.str ⟨#[]⟩,.lst [],.lst [.agg [.str ⟨#[95,105,100]⟩,.agg [.int 3,.int 1,.str ⟨#[]⟩,.lst [],.lst []]],.agg [.str ⟨#[115]⟩,.agg [.int 5,.int 0,.str ⟨#[]⟩,.lst [],.lst [.agg [.str ⟨#[111,112]⟩,.agg [.int 3,.int 1,.str ⟨#[]⟩,.lst [],.lst []]],.agg [.str ⟨#[115,117,109]⟩,.agg [.int 3,.int 3,.str ⟨#[]⟩,.lst [],.lst []]],.agg [.str ⟨#[99,111,117,110,116]⟩,.agg [.int 3,.int 0,.str ⟨#[]⟩,.lst [],.lst []]]]]]]]]])
theorem aiH:run Tryz.prog Aw.env 60 19 Jm []=some Jo:=by kernel_rfl
def Jp:List AV:=[.dat 35 (.agg [(.agg [.int 2,.lst [.str ⟨#[107]⟩],.str ⟨#[]⟩,.lst [],.agg [.int 0,.int 0,.str ⟨#[]⟩,.lst [],.lst []],.int 0,.lst []]),.lst [.agg [.str ⟨#[115]⟩,.int 1,(.agg [.int 2,.lst [.str ⟨#[110]⟩],.str ⟨#[]⟩,.lst [],.agg [.int 0,.int 0,.str ⟨#[]⟩,.lst [],.lst []],.int 0,.lst []]),.lst [],.int 0]]]),.dat 23 (.lst [.agg [.int 5,.int 0,.str ⟨#[]⟩,.lst [],.lst [.agg [.str ⟨#[95,105,100]⟩,.agg [.int 3,.int 1,.str ⟨#[]⟩,.lst [],.lst []]],.agg [.str ⟨#[115]⟩,.agg [.int 5,.int 0,.str ⟨#[]⟩,.lst [],.lst [.agg [.str ⟨#[111,112]⟩,.agg [.int 3,.int 1,.str ⟨#[]⟩,.lst [],.lst []]],.agg [.str ⟨#[115,117,109]⟩,.agg [.int 3,.int 2,.str ⟨#[]⟩,.lst [],.lst []]],.agg [.str ⟨#[99,111,117,110,116]⟩,.agg [.int 3,.int 0,.str ⟨#[]⟩,.lst [],.lst []]]]]]]],.agg [.int 5,.int 0,.str ⟨#[]⟩,.lst [],.lst [.agg [.str ⟨#[95,105,100]⟩,.agg [.int 3,.int 3,.str ⟨#[]⟩,.lst [],.lst []]],.agg [.str ⟨#[115]⟩,.agg [.int 5,.int 0,.str ⟨#[]⟩,.lst [],.lst [.agg [.str ⟨#[111,112]⟩,.agg [.int 3,.int 1,.str ⟨#[]⟩,.lst [],.lst []]],.agg [.str ⟨#[115,117,109]⟩,.agg [.int 3,.int 5,.str ⟨#[]⟩,.lst [],.lst []]],.agg [.str ⟨#[99,111,117,110,116]⟩,.agg [.int 3,.int 0,.str ⟨#[]⟩,.lst [],.lst []]]]]]]],.agg [.int 5,.int 0,.str ⟨#[]⟩,.lst [],.lst [.agg [.str ⟨#[95,105,100]⟩,.agg [.int 3,.int 1,.str ⟨#[]⟩,.lst [],.lst []]],.agg [.str ⟨#[115]⟩,.agg [.int 5,.int 0,.str ⟨#[]⟩,.lst [],.lst [.agg [.str ⟨#[111,112]⟩,.agg [.int 3,.int 1,.str ⟨#[]⟩,.lst [],.lst []]],.agg [.str ⟨#[115,117,109]⟩,.agg [.int 3,.int 3,.str ⟨#[]⟩,.lst [],.lst []]],.agg [.str ⟨#[99,111,117,110,116]⟩,.agg [.int 3,.int 0,.str ⟨#[]⟩,.lst [],.lst []]]]]]]]])]
def Jq:Res:=(.tup [.dat 23 (.lst [.agg [.int 5,.int 0,.str ⟨#[]⟩,.lst [],.lst [.agg [.str ⟨#[95,105,100]⟩,.agg [.int 3,.int 1,.str ⟨#[]⟩,.lst [],.lst []]],.agg [.str ⟨#[115]⟩,.agg [.int 3,.int 5,.str ⟨#[]⟩,.lst [],.lst []]]]],.agg [.int 5,.int 0,.str ⟨#[]⟩,.lst [],.lst [.agg [.str ⟨#[95,105,100]⟩,.agg [.int 3,.int 3,.str ⟨#[]⟩,.lst [],.lst []]],.agg [.str ⟨#[115]⟩,.agg [.int 3,.int 5,.str ⟨#[]⟩,.lst [],.lst []]]]]]),.dat 46 (.int 0)],[])
theorem aiI:run Tryz.prog Aw.env 60 18 Jp []=some Jq:=by kernel_rfl
def Jr:List AV:=[.dat 35 (.agg [(.agg [.int 2,.lst [.str ⟨#[107]⟩],.str ⟨#[]⟩,.lst [],.agg [.int 0,.int 0,.str ⟨#[]⟩,.lst [],.lst []],.int 0,.lst []]),.lst [.agg [.str ⟨#[115]⟩,.int 1,(.agg [.int 2,.lst [.str ⟨#[110]⟩],.str ⟨#[]⟩,.lst [],.agg [.int 0,.int 0,.str ⟨#[]⟩,.lst [],.lst []],.int 0,.lst []]),.lst [],.int 0]]]),.dat 23 (.lst [.agg [.int 5,.int 0,.str ⟨#[]⟩,.lst [],.lst []]])]
def Js:Res:=(.tup [.dat 23 (.lst []),.dat 46 (.int 4)],[])
theorem aiJ:run Tryz.prog Aw.env 60 18 Jr []=some Js:=by kernel_rfl
def Oa(A:List AV)(R:Res)(args:List AV)(objs:List Ob):Option Res:=bif (ED args A&&isNil objs)then some R else none
theorem GH{A:List AV}{R:Res}{f:Nat}{args:List AV}{objs:List Ob}{q:Res}(hr:run Tryz.prog Aw.env 60 f A []=some R)(h:Oa A R args objs=some q):FX Tryz.prog f args objs q.1 q.2∧HasBody Tryz.prog f:=by
 obtain⟨h1,h2⟩:=aJ h;obtain rfl:=zH (aG h1);cases h2;cases objs with
 |nil=>exact AA Aw.env_ok 60 f _ _ _ hr
 |cons o r=>cases aB h1
def TA(o1 o2:List AV->List Ob->Option Res)(args:List AV)(objs:List Ob):Option Res:=match o1 args objs with
 |some q=>some q
 |none=>o2 args objs
theorem YH{o1 o2:List AV->List Ob->Option Res}{args:List AV}{objs:List Ob}{q:Res}(h:TA o1 o2 args objs=some q):o1 args objs=some q∨o2 args objs=some q:=by
 unfold TA at h;split at h;·rename_i e;exact .inl (e.trans h)
 ·exact .inr h
noncomputable def atX:Env:={Aw.env with orc:=fun f=>bif Nat.beq f 6 then some (Oa Ji Jj)else bif Nat.beq f 19 then some (TA (Oa Jk Jl) (Oa Jm Jo))else bif Nat.beq f 18 then some (TA (Oa Jp Jq) (Oa Jr Js))else none}
theorem anw:EnvOK Tryz.prog atX:={
 fns:=Aw.env_ok.fns
 orc:=fun f oc args objs q h1 h2=>by
  have h1:(bif Nat.beq f 6 then some (Oa Ji Jj)else bif Nat.beq f 19 then some (TA (Oa Jk Jl) (Oa Jm Jo))else bif Nat.beq f 18 then some (TA (Oa Jp Jq) (Oa Jr Js))else none)=some oc:=h1;rcases Aw.bset h1 with⟨hb,h1⟩| ⟨_,h1⟩
  · have e:=beq_eq hb;subst e;cases h1
    exact GH aiF h2
  rcases Aw.bset h1 with⟨hb,h1⟩| ⟨_,h1⟩
  · have e:=beq_eq hb;subst e;cases h1
    rcases YH h2 with h3|h4;·exact GH aiG h3
    ·exact GH aiH h4
  rcases Aw.bset h1 with⟨hb,h1⟩| ⟨_,h1⟩
  · have e:=beq_eq hb;subst e;cases h1
    rcases YH h2 with h3|h4;·exact GH aiI h3
    ·exact GH aiJ h4
  cases h1
 mix:=Aw.env_ok.mix}
set_option maxRecDepth 1000000 in
theorem agG:run Tryz.prog atX 60 5 [] []=some (.dat 4 (.bool true),[]):=by kernel_rfl
theorem aiK:FX Tryz.prog 5 [] [] (.dat 4 (.bool true)) []:=(AA anw 60 5 [] [] _ agG).1
def Cx:Option Bool:=some true
theorem TD{r:Bool}(h:Cx=some r):FX Tryz.prog 5 [] [] (.dat 4 (.bool r)) []:=by cases h;exact aiK
