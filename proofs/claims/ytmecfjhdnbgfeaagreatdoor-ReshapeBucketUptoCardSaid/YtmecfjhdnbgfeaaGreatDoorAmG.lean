/- The abstract machine, part G: contracts as a table (a function's arguments and results by their kinds). -/
import Derived.Test.YtmecfjhdnbgfeaaGreatDoorAm20
set_option linter.unusedVariables false
set_option linter.unusedSimpArgs false
namespace Go.Am
inductive SK where
 |l|i|b|s|a
inductive SA where
 |d (T:TypeId) (k:SK)
 |f (F:FuncId)
inductive SR where
 |d (T:TypeId) (k:SK)
 |t (l:List (TypeId×SK))
abbrev SK.T:SK→Type
 | .l=>List Dt
 | .i=>Int
 | .b=>Bool
 | .s=>ByteArray
 | .a=>Dt
def SK.w:(k:SK)→k.T→Dt
 | .l,x=> .lst x
 | .i,x=> .int x
 | .b,x=> .bool x
 | .s,x=> .str x
 | .a,x=>x
def SK.g:(k:SK)→Dt→k.T
 | .l,x=>x.toLst
 | .i,x=>x.toInt
 | .b,x=>x.toBool
 | .s,x=>x.toStr
 | .a,x=>x
def SK.ok (P:Program) (T:TypeId):SK→Prop
 | .l=>∃E,P.underlying T=some (.slice E)
 | .i=>∃k,P.underlying T=some (.int k)
 | .b=>P.underlying T=some .bool
 | .s=>P.underlying T=some .string
 | .a=>True
theorem SK.cn {P:Program} {T:TypeId}:∀{k:SK},k.ok P T→∀x:Dt,Cn P (.dat T x) (.dat T (k.w (k.g x)))
 | .l,⟨_,h⟩,_=> .dat (.lst h)
 | .i,⟨_,h⟩,_=> .dat (.int h)
 | .b,h,_=> .dat (.bool h)
 | .s,h,_=> .dat (.str h)
 | .a,_,_=> .same
def TT:List (TypeId×SK)→Type
 | []=>Unit
 | [p]=>p.2.T
 |p::q::r=>p.2.T×TT (q::r)
def TT.w:(l:List (TypeId×SK))→TT l→List AV
 | [],_=>[]
 | [p],x=>[.dat p.1 (p.2.w x)]
 |p::q::r,x=> .dat p.1 (p.2.w x.1)::TT.w (q::r) x.2
def ady (T:TypeId) (k:SK):AV→Option k.T
 | .dat S x=>bif Nat.beq S T then some (k.g x) else none
 |_=>none
theorem KI {P:Program} {T:TypeId} {k:SK} {v:AV} {y:k.T} (ho:k.ok P T) (h:ady T k v=some y):Cn P v (.dat T (k.w y))∧v.plainB=true:=by
 unfold ady at h
 split at h
 ·obtain⟨h1,h2⟩:=bif_some h
  cases h2
  cases beq_eq h1
  exact⟨SK.cn ho _,rfl⟩
 ·cases h
def TT.g:(l:List (TypeId×SK))→List AV→Option (TT l)
 |  [],as=>match as with
    | []=>some ()
    |_::_=>none
 |  [p],as=>match as with
    | [v]=>ady p.1 p.2 v
    |_=>none
 |  p::q::r,as=>match as with
    |v::as=>(ady p.1 p.2 v).bind fun x=>(TT.g (q::r) as).bind fun y=>some (x,y)
    | []=>none
def SR.T:SR→Type
 | .d _ k=>k.T
 | .t l=>TT l
def SR.w:(s:SR)→s.T→AV
 | .d T k,x=> .dat T (k.w x)
 | .t l,x=> .tup (TT.w l x)
def SR.g:(s:SR)→Res→Option s.T
 |  .d T k,q=>match q with
    |(v,[])=>ady T k v
    |_=>none
 |  .t l,q=>match q with
    |(.tup as,[])=>TT.g l as
    |_=>none
def anf (P:Program):List (TypeId×SK)→Prop
 | []=>True
 |p::r=>p.2.ok P p.1∧anf P r
def SR.ok (P:Program):SR→Prop
 | .d T k=>k.ok P T
 | .t l=>anf P l
theorem TT.cn {P:Program}:∀{l:List (TypeId×SK)} {as:List AV} {y:TT l},anf P l→TT.g l as=some y→CnL P as (TT.w l y)
 | [],as,y,_,h=>by
   cases as with
   |nil=>exact .nil
   |cons _ _=>cases h
 | [p],as,y,ho,h=>by
   match as,h with
   | [v],h=>exact .cons (KI ho.1 h).1 .nil
   | [],h=>cases h
   |_::_::_,h=>cases h
 | p::q::r,as,y,ho,h=>by
   match as,h with
   |v::as,h=>
    obtain⟨x,h1,h2⟩:=Option.bind_eq_some_iff.1 h
    obtain⟨z,h3,h4⟩:=Option.bind_eq_some_iff.1 h2
    cases h4
    exact .cons (KI ho.1 h1).1 (TT.cn ho.2 h3)
   | [],h=>cases h
theorem SR.sim {P:Program}:∀{s:SR} {q:Res} {r:s.T},s.ok P→s.g q=some r→Sim P q (s.w r,[])
 | .d T k,q,r,ho,h=>by
   match q,h with
   |(v,[]),h=>
    obtain⟨h1,h2⟩:=KI ho h
    exact Sim.of (.of h1 h2 rfl) .nil
   |(_,_::_),h=>cases h
 | .t l,q,r,ho,h=>by
   match q,h with
   |(.tup as,[]),h=>exact Sim.of (.tup (TT.cn ho h)) .nil
   |(.tup _,_::_),h=>cases h
   |(.dat ..,_),h=>cases h
def CF:List SA→Type→Type
 | [],R=>R
 | .d _ k::t,R=>k.T→CF t R
 | .f _::t,R=>CF t R
def ap {R:Type}:(sh:List SA)→CF sh (Option R)→List AV→Option R
 |  [],F,as=>match as with
    | []=>F
    |_::_=>none
 |  .d T k::t,F,as=>match as with
    |v::as=>(ady T k v).bind fun x=>ap t (F x) as
    | []=>none
 |  .f c::t,F,as=>match as with
    | .fn d []::as=>bif Nat.beq d c then ap t F as else none
    |_=>none
def oksA (P:Program):List SA→Prop
 | []=>True
 | .d T k::r=>k.ok P T∧oksA P r
 | .f _::r=>oksA P r
def FG (P:Program) (f:FuncId) (s:SR):(sh:List SA)→CF sh (Option s.T)→(List AV→List AV)→Prop
 | [],F,k=>∀r,F=some r→FX P f (k []) [] (s.w r) []
 | .d T j::t,F,k=>∀x:j.T,FG P f s t (F x) fun as=>k (.dat T (j.w x)::as)
 | .f c::t,F,k=>FG P f s t F fun as=>k (.fn c []::as)
theorem ahN {P:Program} {f:FuncId} {s:SR} {r:s.T}:∀{sh:List SA} {F:CF sh (Option s.T)} {k:List AV→List AV} {as:List AV},oksA P sh→FG P f s sh F k→ap sh F as=some r→∃vs,CnA P as vs∧FX P f (k vs) [] (s.w r) []
 | [],F,k,as,_,hf,h=>by
   cases as with
   |nil=>exact⟨[],.nil,hf r h⟩
   |cons _ _=>cases h
 | .d T j::t,F,k,as,ho,hf,h=>by
   cases as with
   |nil=>cases h
   | cons v as=>
     obtain⟨x,h1,h2⟩:=Option.bind_eq_some_iff.1 h
     obtain⟨vs,h3,h4⟩:=ahN ho.2 (hf x) h2
     obtain⟨h5,h6⟩:=KI ho.1 h1
     exact⟨_,.cons (.of h5 h6 rfl) h3,h4⟩
 | .f c::t,F,k,as,ho,hf,h=>by
   match as,h with
   | .fn d []::as,h=>
     obtain⟨h1,h2⟩:=bif_some h
     cases beq_eq h1
     obtain⟨vs,h3,h4⟩:=ahN (sh:=t) ho hf h2
     exact⟨_,.cons .same h3,h4⟩
   | [],h=>cases h
structure Ent where
 sh:List SA
 s:SR
 F:CF sh (Option s.T)
def Ent.run {R:Type} (e:Ent) (args:List AV) (objs:List Ob) (K:Res→Option R):Option R:=match objs with
 | []=>(ap e.sh e.F args).bind fun r=>K (e.s.w r,[])
 |_::_=>none
structure EOK (P:Program) (f:FuncId) (e:Ent):Prop where
 ok:oksA P e.sh
 fx:FG P f e.s e.sh e.F fun l=>l
 hb:HasBody P f
theorem EOK.run {P:Program} {f:FuncId} {e:Ent} {R:Type} {args:List AV} {objs:List Ob} {K:Res→Option R} {r:R} (he:EOK P f e) (h:e.run args objs K=some r):∃q:Res,K q=some r∧FX P f args objs q.1 q.2∧HasBody P f:=by
 unfold Ent.run at h
 cases objs with
 |nil=>
  obtain⟨x,h1,h2⟩:=Option.bind_eq_some_iff.1 h
  obtain⟨vs,h3,h4⟩:=ahN he.ok he.fx h1
  exact⟨_,h2,h4.conv h3 .nil,he.hb⟩
 |cons _ _=>cases h
theorem EOK.st {P:Program} {f n:FuncId} {a e:Ent} {b:Option Ent} (h1:EOK P n a) (h2:b=some e→EOK P f e) (h:(bif Nat.beq f n then some a else b)=some e):EOK P f e:=by
 cases hb:Nat.beq f n with
 |true=>rw[hb] at h;cases h;cases beq_eq hb;exact h1
 |false=>rw[hb] at h;exact h2 h
def FZ {R:Type}:(sh:List SA)→CF sh (Option R)→Prop
 | [],F=>F=none
 | .d _ j::t,F=>∀x:j.T,FZ t (F x)
 | .f _::t,F=>FZ t F
theorem FZ.fg {P:Program} {f:FuncId} {s:SR}:∀{sh:List SA} {F:CF sh (Option s.T)} {k:List AV→List AV},FZ sh F→FG P f s sh F k
 | [],F,k,h=>by
   intro r h1
   have h:F=none:=h
   rw[h] at h1
   cases h1
 | .d _ j::t,F,k,h=>fun x=>FZ.fg (h x)
 | .f _::t,F,k,h=>FZ.fg (sh:=t) h
end Go.Am
