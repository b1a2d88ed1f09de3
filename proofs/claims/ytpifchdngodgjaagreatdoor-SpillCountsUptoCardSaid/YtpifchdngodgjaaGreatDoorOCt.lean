/- Groups by a constant: the value of the expression; the number of the group with the key. Functions that are not needed: contracts that say nothing. -/
import Derived.Test.YtpifchdngodgjaaGreatDoorAwEnv
set_option linter.unusedVariables false
set_option linter.unusedSimpArgs false
namespace Go.Proofs.YtpifchdngodgjaaGreatDoor
open Go.RowKit Go.Am
def oneV:Dt:= .agg [.int 3,.int 1,.str (ByteArray.mk (List.toArray [])),.lst [],.lst []]
def exOne:Dt:= .agg [.int 1,.lst [],.str (ByteArray.mk (List.toArray [])),.lst [],oneV,.int 0,.lst []]
def grOne:Dt:= .agg [exOne,.lst []]
set_option maxRecDepth 1000000 in
theorem evalOne_run (d:Dt):run Tryz.prog Aw.env 60 56 [.dat 41 exOne,.dat 36 d] []=some (.dat 36 oneV,[]):=by kernel_rfl
noncomputable def expr_EvalC (e _:Dt):Option Dt:=open Classical in if e=exOne then some oneV else none
theorem expr_EvalC_eq (d:Dt):expr_EvalC exOne d=some oneV:=if_pos rfl
theorem expr_EvalC_fx {e d r:Dt} (h:expr_EvalC e d=some r):FX Tryz.prog 56 [.dat 41 e,.dat 36 d] [] (.dat 36 r) []:=by
 by_cases hc:e=exOne
 ·subst hc
  rw[expr_EvalC_eq] at h
  cases h
  exact(run_sound Aw.env_ok 60 56 _ _ _ (evalOne_run d)).1
 ·unfold expr_EvalC at h
  rw[if_neg hc] at h
  cases h
set_option maxRecDepth 1000000 in
theorem find0_run:run Tryz.prog Aw.env 60 40 [.ptr 0 [] 0,.dat 44 grOne,.dat 36 oneV] [.box 79 (.agg 79 [.row 1,.row 2,.row 3]),.row 23 [],.row 76 [],.row 77 []]=some (.dat 3 (.int 0),[.box 79 (.agg 79 [.row 4,.row 5,.row 6]),.gone,.gone,.gone,.row 23 [oneV],.row 76 [.lst []],.row 77 [.int 0]]):=by kernel_rfl
set_option maxRecDepth 1000000 in
theorem find1_run:run Tryz.prog Aw.env 60 40 [.ptr 0 [] 0,.dat 44 grOne,.dat 36 oneV] [.box 79 (.agg 79 [.row 1,.row 2,.row 3]),.row 23 [oneV],.row 76 [.lst []],.row 77 [.int 0]]=some (.dat 3 (.int 0),[.box 79 (.agg 79 [.row 1,.row 2,.row 3]),.row 23 [oneV],.row 76 [.lst []],.row 77 [.int 0]]):=by kernel_rfl
noncomputable def isGr (g key:Dt):Bool:=open Classical in decide (g=grOne∧key=oneV)
noncomputable def noKey (ks ss is:List Dt):Bool:=open Classical in decide (ks=[]∧ss=[]∧is=[])
noncomputable def oneKey (ks ss is:List Dt):Bool:=open Classical in decide (ks=[oneV]∧ss=[.lst []]∧is=[.int 0])
open Classical in
theorem isGr_eq {g key:Dt} (h:isGr g key=true):g=grOne∧key=oneV:=of_decide_eq_true h
open Classical in
theorem noKey_eq {ks ss is:List Dt} (h:noKey ks ss is=true):ks=[]∧ss=[]∧is=[]:=of_decide_eq_true h
open Classical in
theorem oneKey_eq {ks ss is:List Dt} (h:oneKey ks ss is=true):ks=[oneV]∧ss=[.lst []]∧is=[.int 0]:=of_decide_eq_true h
noncomputable def findM {R:Type} (args:List AV) (objs:List Ob) (K:Res→Option R):Option R:=match args,objs with
 | [.ptr n p o,.dat T1 g,.dat T2 key],[.box B1 (.agg B2 [.row a,.row b,.row c]),.row S1 ks,.row S2 ss,.row S3 is]=>
   bif (natsB [n,o,T1,T2,B1,B2,a,b,c,S1,S2,S3] [0,0,44,36,79,79,1,2,3,23,76,77]&&natsB p []) then
    (bif isGr g key then
       (bif noKey ks ss is then K (.dat 3 (.int 0),[.box 79 (.agg 79 [.row 4,.row 5,.row 6]),.gone,.gone,.gone,.row 23 [oneV],.row 76 [.lst []],.row 77 [.int 0]]) else
       bif oneKey ks ss is then K (.dat 3 (.int 0),[.box 79 (.agg 79 [.row 1,.row 2,.row 3]),.row 23 ks,.row 76 ss,.row 77 is]) else none) else none) else none
 |_,_=>none
theorem findM_ok {R:Type} {args:List AV} {objs:List Ob} {K:Res→Option R} {r:R} (h:findM args objs K=some r):∃q:Res,K q=some r∧FX Tryz.prog 40 args objs q.1 q.2∧HasBody Tryz.prog 40:=by
 unfold findM at h
 split at h
 ·rename_i n p o T1 g T2 key B1 B2 a b c S1 ks S2 ss S3 is
  obtain⟨h1,h2⟩:=bif_some h
  have e:=natsB_eq (and_l h1)
  have e2:=natsB_eq (and_r h1)
  clear h1 h
  simp only[List.cons.injEq,and_true] at e
  obtain⟨rfl,rfl,rfl,rfl,rfl,rfl,rfl,rfl,rfl,rfl,rfl,rfl⟩:=e
  subst e2
  obtain⟨h3,h4⟩:=bif_some h2
  clear h2
  obtain⟨rfl,rfl⟩:=isGr_eq h3
  clear h3
  rcases Aw.bset h4 with⟨h5,h6⟩| ⟨_,h6⟩
  ·obtain⟨rfl,rfl,rfl⟩:=noKey_eq h5
   exact⟨_,h6,run_sound Aw.env_ok 60 40 _ _ _ find0_run⟩
  ·obtain⟨h7,h8⟩:=bif_some h6
   obtain⟨rfl,rfl,rfl⟩:=oneKey_eq h7
   exact⟨_,h8,run_sound Aw.env_ok 60 40 _ _ _ find1_run⟩
 ·cases h
def accAddN (_ _ _:Dt):Option Dt:=none
theorem accAddN_fx {a b c r:Dt} (h:accAddN a b c=some r):FX Tryz.prog 57 [.dat 83 a,.dat 85 b,.dat 36 c] [] (.dat 85 r) []:=by cases h
def accJoinN (_ _ _:Dt):Option Dt:=none
theorem accJoinN_fx {a b c r:Dt} (h:accJoinN a b c=some r):FX Tryz.prog 41 [.dat 83 a,.dat 85 b,.dat 85 c] [] (.dat 85 r) []:=by cases h
def accUnpackN (_:Dt):Option (Dt×Int):=none
theorem accUnpackN_fx {a:Dt} {r:Dt×Int} (h:accUnpackN a=some r):FX Tryz.prog 39 [.dat 36 a] [] (.tup [.dat 85 r.1,.dat 27 (.int r.2)]) []:=by cases h
def accResultN (_ _:Dt):Option Dt:=none
theorem accResultN_fx {a b r:Dt} (h:accResultN a b=some r):FX Tryz.prog 36 [.dat 83 a,.dat 85 b] [] (.dat 36 r) []:=by cases h
def accPackN (_:Dt):Option Dt:=none
theorem accPackN_fx {a r:Dt} (h:accPackN a=some r):FX Tryz.prog 61 [.dat 85 a] [] (.dat 36 r) []:=by cases h
end Go.Proofs.YtpifchdngodgjaaGreatDoor
