/- An abstract machine over any program. Part 1: plain data, abstract values, objects, and their relation to the model's memory.
The abstract machine,part 2:operations that leave memory as it is.
The abstract machine,part 3:boxes (variables in memory),their fields,loads and stores;pointers into plain data.
The abstract machine,part 4:rows (slices that the call owns):read,written,turned into plain data.
The abstract machine,part 5:append,make,literals.
The abstract machine,part 6:values as plain data;struct literals;cuts of strings and lists.
The abstract machine,part 7:code:sequences,tests,blocks,loops,regions. -/
import Derived.WalkKit
import Derived.Deep.MidRow
import Derived.Great.BuildSlice
import Derived.LoopN
import Derived.Maps.AppendAt
import Derived.Orders
set_option linter.all false
namespace Go.Am
open Go.RowKit
theorem ah{α β:Type _}(a:α)(f:α->Option β):(some a).bind f=f a:=rfl
theorem aj{α β:Type _}{b:β}{x:Option α}{f:α->Option β}:x.bind f=some b↔∃a,x=some a∧f a=some b:=Option.bind_eq_some_iff
theorem aD{α:Type _}{l:List α}{n:Nat}(h:n<l.length):l[n]∈l:=List.getElem_mem h
theorem ak{α:Type _}{a:α}{i:Nat}{l:List α}:l[i]? =some a↔∃h:i<l.length,l[i]=a:=List.getElem?_eq_some_iff
theorem ay{α:Type _}{i:Nat}{l:List α}(h:i<l.length):l.drop i=l[i]::l.drop (i+1):=List.drop_eq_getElem_cons h
theorem aA{α:Type _}(a b:α):(some a=some b)=(a=b):=Option.some.injEq a b
theorem aL(n:Nat):n<=n:=Nat.le_refl n
theorem aN(n:Nat):0<=n:=Nat.zero_le n
theorem aK{α:Type _}{l:List α}:l.drop 0=l:=rfl
theorem aJ(a b:Bool):((a&&b)=true)=(a=true∧b=true):=Bool.and_eq_true a b
theorem aB{α:Type _}{l:List α}{i:Nat}(h:i<l.length):l[i]? =some l[i]:=List.getElem?_eq_getElem h
theorem aI{n m:Nat}(h:Nat.ble n m=true):n<=m:=Nat.le_of_ble_eq_true h
theorem aQ{n m:Nat}(h:Nat.beq n m=true):n=m:=Nat.eq_of_beq_eq_true h
theorem aZ{α:Type _}{a:α}{l:List α}:a∈a::l:=List.mem_cons_self
theorem aY{α:Type _}(y:α){a:α}{l:List α}(h:a∈l):a∈y::l:=List.mem_cons_of_mem y h
theorem aO{α:Type _}{a:α}{l:List α}:(a::l)[0]? =some a:=rfl
theorem aR{α:Type _}{a:α}{l:List α}{i:Nat}:(a::l)[i+1]? =l[i]? :=rfl
theorem aW{α β:Type _}{b:β}{x:Option α}{f:α->β}:x.map f=some b↔∃a,x=some a∧f a=b:=Option.map_eq_some_iff
theorem aM{α:Type _}{l:List α}{i:Nat}{a:α}(h:l[i]? =some a):a∈l:=List.mem_of_getElem? h
theorem aH{m n:Nat}(k:Nat)(h:m<=n):m*k<=n*k:=Nat.mul_le_mul_right k h
theorem aT{α:Type _}{a b:List α}:(a++b).length=a.length+b.length:=List.length_append
theorem aU{α:Type _}{a:α}{x:List α}(y:List α)(h:a∈x):a∈x++y:=List.mem_append_left y h
inductive Dt where
 |int (n:Int)
 |bool (b:Bool)
 |str (s:ByteArray)
 |agg (ds:List Dt)
 |lst (es:List Dt)
namespace Dt
def fld:Dt->Nat->Dt
 | .agg ds,i=>ds.getD i (.int 0)
 |_,_=> .int 0
def toInt:Dt->Int
 | .int n=>n
 |_=>0
def toBool:Dt->Bool
 | .bool b=>b
 |_=>false
def toStr:Dt->ByteArray
 | .str s=>s
 |_=>ByteArray.empty
def toLst:Dt->List Dt
 | .lst es=>es
 |_=>[]
def I(d:Dt)(i:Nat):Int:=(d.fld i).toInt
def B(d:Dt)(i:Nat):Bool:=(d.fld i).toBool
def S(d:Dt)(i:Nat):ByteArray:=(d.fld i).toStr
def L(d:Dt)(i:Nat):List Dt:=(d.fld i).toLst
end Dt
inductive RD (P:Program) (ok:Nat->Prop) (w:World):TypeId->Dt->List Value->Prop where
 |int {T:TypeId} {k:IntKind} {n:Int} (hu:P.underlying T=some (.int k)) (h1:k.min<=n) (h2:n<=k.max):RD P ok w T (.int n) [.int k n]
 |bool {T:TypeId} {b:Bool} (hu:P.underlying T=some .bool):RD P ok w T (.bool b) [.bool b]
 |str {T:TypeId} {s:ByteArray} (hu:P.underlying T=some .string) (hs:s.size<=maxLen):RD P ok w T (.str s) [.string s]
 |agg {T:TypeId} {fs:Array Field} {ds:List Dt} {cs:List Value} (hu:P.underlying T=some (.struct fs)) (hl:ds.length=fs.size) (hc:cs.length=P.cellsOf T) (h1:∀c∈cs,c.oneCell'=true)
  (h:∀(i:Nat)(f:Field)(d:Dt),fs[i]? =some f->ds[i]? =some d->RD P ok w f.type d ((cs.drop f.offset).take (P.cellsOf f.type))):RD P ok w T (.agg ds) cs
 |lst {T E:TypeId} {es:List Dt} {a:Option Addr} {len cap:Nat} (ad:Addr) (g:Nat->List Value) (hu:P.underlying T=some (.slice E)) (hl:len=es.length) (hc:len<=cap) (hm:cap<=maxLen)
  (ha:0<len->a=some ad∧ok ad.block)
  (hg:∀i,i<len->(g i).length=P.cellsOf E∧(∀c∈g i,c.oneCell'=true)∧∀j v,(g i)[j]? =some v->w.cell? (ad.add (i*P.cellsOf E+j))=some v)
  (h:∀(i:Nat)(d:Dt),es[i]? =some d->RD P ok w E d (g i)):RD P ok w T (.lst es) [.slice a len cap]
 |arr {T E:TypeId} {n:Nat} {es:List Dt} {cs:List Value} (hu:P.underlying T=some (.array n E)) (hl:es.length=n) (hc:cs.length=P.cellsOf T) (h1:∀c∈cs,c.oneCell'=true)
  (h:∀(i:Nat)(d:Dt),es[i]? =some d->RD P ok w E d ((cs.drop (i*P.cellsOf E)).take (P.cellsOf E))):RD P ok w T (.lst es) cs
 |opq {T K V:TypeId} {z:Value} (hu:P.underlying T=some (.map K V)) (h1:z.oneCell'=true):RD P ok w T (.lst []) [z]
 |nilp {T E:TypeId} (hu:P.underlying T=some (.pointer E)):RD P ok w T (.lst []) [.pointer none]
 |ptr {T E:TypeId} {d:Dt} {cs:List Value} (ad:Addr) (hu:P.underlying T=some (.pointer E)) (ho:ok ad.block) (hl:cs.length=P.cellsOf E) (hc:∀j v,cs[j]? =some v->w.cell? (ad.add j)=some v) (h:RD P ok w E d cs):RD P ok w T (.lst [d]) [.pointer (some ad)]
theorem add_add(a:Addr)(i j:Nat):(a.add i).add j=a.add (i+j):=by unfold Addr.add;by_cases hi:i=0<;>by_cases hj:j=0<;>simp[hi,hj,Nat.add_assoc]
theorem block_add(a:Addr)(n:Nat):(a.add n).block=a.block:=by unfold Addr.add;split<;>rfl
theorem eP(b o j:Nat):(⟨b,o,none⟩:Addr).add j=⟨b,o+j,none⟩:=by unfold Addr.add;split<;>simp_all
section
variable{P:Program}{ok ok':Nat->Prop}{w w':World}{T:TypeId}{d:Dt}{cs:List Value}
theorem RD.mono(h:RD P ok w T d cs)(hk:∀b,ok b->ok' b∧w'.heap[b]? =w.heap[b]?):RD P ok' w' T d cs:=by
 induction h with
 |int hu h1 h2=>exact .int hu h1 h2
 |bool hu=>exact .bool hu
 |str hu hs=>exact .str hu hs
 |agg hu hl hc h1 _ ih=>exact .agg hu hl hc h1 ih
 | @lst T E es a len cap ad g hu hl hc hm ha hg _ ih=>
   refine .lst ad g hu hl hc hm (fun h0=>⟨(ha h0).1,(hk _ (ha h0).2).1⟩) (fun i hi=>?_) ih;obtain⟨h1,h2,h3⟩:=hg i hi;refine⟨h1,h2,fun j v hv=>?_⟩;have hb:=(hk _ (ha (by omega)).2).2;rw[World.cell?_of_block (w:=w) (by rw[block_add];exact hb)];exact h3 j v hv
 |arr hu hl hc h1 _ ih=>exact .arr hu hl hc h1 ih
 |opq hu h1=>exact .opq hu h1
 |nilp hu=>exact .nilp hu
 | ptr ad hu ho hl hc _ ih=>
   refine .ptr ad hu (hk _ ho).1 hl (fun j v hv=>?_) ih;rw[World.cell?_of_block (w:=w) (by rw[block_add];exact(hk _ ho).2)];exact hc j v hv
theorem RD.oneCell(h:RD P ok w T d cs):∀c∈cs,c.oneCell'=true:=by
 cases h with
 |int=>simp[Value.oneCell']
 |bool=>simp[Value.oneCell']
 |str=>simp[Value.oneCell']
 |agg _ _ _ h1 _=>exact h1
 |lst=>simp[Value.oneCell']
 |arr _ _ _ h1 _=>exact h1
 |opq _ h1=>simpa using h1
 |nilp=>simp[Value.oneCell']
 |ptr=>simp[Value.oneCell']
theorem RD.int_inv{k:IntKind}(h:RD P ok w T d cs)(hu:P.underlying T=some (.int k)):d= .int d.toInt∧cs=[.int k d.toInt]∧k.min<=d.toInt∧d.toInt<=k.max:=by cases h<;>simp_all [Dt.toInt]
theorem RD.bool_inv(h:RD P ok w T d cs)(hu:P.underlying T=some .bool):d= .bool d.toBool∧cs=[.bool d.toBool]:=by cases h<;>simp_all [Dt.toBool]
theorem RD.str_inv(h:RD P ok w T d cs)(hu:P.underlying T=some .string):d= .str d.toStr∧cs=[.string d.toStr]∧d.toStr.size<=maxLen:=by cases h<;>simp_all [Dt.toStr]
theorem RD.agg_inv{fs:Array Field}(h:RD P ok w T d cs)(hu:P.underlying T=some (.struct fs)):(∃ds,d= .agg ds∧ds.length=fs.size)∧cs.length=P.cellsOf T∧(∀c∈cs,c.oneCell'=true)∧
  ∀i f,fs[i]? =some f->RD P ok w f.type (d.fld i) ((cs.drop f.offset).take (P.cellsOf f.type)):=by
 cases h with
 |agg hu' hl hc h1 h=>
  rw[hu]at hu';cases hu';refine⟨⟨_,rfl,hl⟩,hc,h1,fun i f hf=>?_⟩;rename_i ds;have hi:i<ds.length:=by rw[hl];exact(Array.getElem?_eq_some_iff.1 hf).1
  have:ds[i]? =some ((Dt.agg ds).fld i):=by simp[Dt.fld,List.getD,aB hi]
  exact h i f _ hf this
 |int hu'=>rw[hu]at hu';cases hu'
 |bool hu'=>rw[hu]at hu';cases hu'
 |str hu'=>rw[hu]at hu';cases hu'
 |lst _ _ hu'=>rw[hu]at hu';cases hu'
 |arr hu'=>rw[hu]at hu';cases hu'
 |opq hu'=>rw[hu]at hu';cases hu'
 |nilp hu'=>rw[hu]at hu';cases hu'
 |ptr _ hu'=>rw[hu]at hu';cases hu'
theorem RD.lst_inv{E:TypeId}(h:RD P ok w T d cs)(hu:P.underlying T=some (.slice E)):d= .lst d.toLst∧∃(a:Option Addr)(cap:Nat)(ad:Addr)(g:Nat->List Value),cs=[.slice a d.toLst.length cap]∧d.toLst.length<=cap∧cap<=maxLen∧
  (0<d.toLst.length->a=some ad∧ok ad.block)∧
  (∀i,i<d.toLst.length->(g i).length=P.cellsOf E∧(∀c∈g i,c.oneCell'=true)∧∀j v,(g i)[j]? =some v->w.cell? (ad.add (i*P.cellsOf E+j))=some v)∧
  (∀i x,d.toLst[i]? =some x->RD P ok w E x (g i)):=by
 cases h with
 |lst ad g hu' hl hc hm ha hg h=>
  rw[hu]at hu';cases hu';subst hl;exact⟨rfl,_,_,ad,g,rfl,hc,hm,ha,hg,h⟩
 |int hu'=>rw[hu]at hu';cases hu'
 |bool hu'=>rw[hu]at hu';cases hu'
 |str hu'=>rw[hu]at hu';cases hu'
 |agg hu'=>rw[hu]at hu';cases hu'
 |arr hu'=>rw[hu]at hu';cases hu'
 |opq hu'=>rw[hu]at hu';cases hu'
 |nilp hu'=>rw[hu]at hu';cases hu'
 |ptr _ hu'=>rw[hu]at hu';cases hu'
theorem RD.arr_inv{E:TypeId}{n:Nat}(h:RD P ok w T d cs)(hu:P.underlying T=some (.array n E)):d= .lst d.toLst∧d.toLst.length=n∧cs.length=P.cellsOf T∧(∀c∈cs,c.oneCell'=true)∧
  ∀i x,d.toLst[i]? =some x->RD P ok w E x ((cs.drop (i*P.cellsOf E)).take (P.cellsOf E)):=by
 cases h with
 |arr hu' hl hc h1 h=>
  rw[hu]at hu';cases hu';exact⟨rfl,hl,hc,h1,h⟩
 |int hu'=>rw[hu]at hu';cases hu'
 |bool hu'=>rw[hu]at hu';cases hu'
 |str hu'=>rw[hu]at hu';cases hu'
 |agg hu'=>rw[hu]at hu';cases hu'
 |lst _ _ hu'=>rw[hu]at hu';cases hu'
 |opq hu'=>rw[hu]at hu';cases hu'
 |nilp hu'=>rw[hu]at hu';cases hu'
 |ptr _ hu'=>rw[hu]at hu';cases hu'
theorem RD.ptr_inv{E:TypeId}(h:RD P ok w T d cs)(hu:P.underlying T=some (.pointer E)):d= .lst d.toLst∧((d.toLst=[]∧cs=[.pointer none])∨∃(e:Dt)(ad:Addr)(c:List Value),d.toLst=[e]∧cs=[.pointer (some ad)]∧ok ad.block∧c.length=P.cellsOf E∧(∀j v,c[j]? =some v->w.cell? (ad.add j)=some v)∧RD P ok w E e c):=by
 cases h with
 |opq hu'=>rw[hu]at hu';cases hu'
 |nilp hu'=>exact⟨rfl,.inl ⟨rfl,rfl⟩⟩
 |ptr ad hu' ho hl hc h=>
  rw[hu]at hu';cases hu';exact⟨rfl,.inr ⟨_,ad,_,rfl,rfl,ho,hl,hc,h⟩⟩
 |int hu'=>rw[hu]at hu';cases hu'
 |bool hu'=>rw[hu]at hu';cases hu'
 |str hu'=>rw[hu]at hu';cases hu'
 |agg hu'=>rw[hu]at hu';cases hu'
 |lst _ _ hu'=>rw[hu]at hu';cases hu'
 |arr hu'=>rw[hu]at hu';cases hu'
end
inductive AV where
 |dat (T:TypeId) (d:Dt)
 |agg (T:TypeId) (vs:List AV)
 |row (l:Nat)
 |ptr (l:Nat) (path:List Nat) (off:Nat)
 |eptr (l i sz:Nat) (path:List Nat) (off:Nat)
 |sub (l i sz:Nat)
 |rptr (T:TypeId) (d:Dt)
 |fn (f:FuncId) (caps:List AV)
 |tup (vs:List AV)
 |nils (T:TypeId)
 |nif (b:Bool)
 |ifc (T:TypeId) (v:AV)
 |mth (T:TypeId) (name:String)
 |dead
inductive Ob where
 |box (T:TypeId) (c:AV)
 |row (T:TypeId) (es:List Dt)
 |rowA (T:TypeId) (vs:List AV)
 |frz (T:TypeId) (es:List Dt)
 |map (T:TypeId) (es:List Dt)
 |rowD (T T2:TypeId) (c:Option Nat) (k:Nat) (es:List Dt) (h:Option (Nat×Nat))
 |tok (T:TypeId) (ls:List Dt)
 |gone
 |free
def bS(P:Program)(T:TypeId):Bool:=
 match P.underlying T with
 |some (.struct _)=>true
 |some (.array _ _)=>true
 |_=>false
def AV.isAgg(P:Program):AV->Bool
 | .dat T _=>bS P T
 | .agg T _=>bS P T
 |_=>false
inductive RA (P:Program) (ok:Nat->Prop) (w:World) (β:Nat->Option Value):AV->List Value->Prop where
 |dat {T:TypeId} {d:Dt} {cs:List Value} (h:RD P ok w T d cs):RA P ok w β (.dat T d) cs
 |agg {T:TypeId} {fs:Array Field} {vs:List AV} {cs:List Value} (hu:P.underlying T=some (.struct fs)) (hl:vs.length=fs.size) (hc:cs.length=P.cellsOf T) (h1:∀c∈cs,c.oneCell'=true)
  (h:∀(i:Nat)(f:Field)(v:AV),fs[i]? =some f->vs[i]? =some v->RA P ok w β v ((cs.drop f.offset).take (P.cellsOf f.type))):RA P ok w β (.agg T vs) cs
 |row {l:Nat} {z:Value} (h:β l=some z) (h1:z.oneCell'=true):RA P ok w β (.row l) [z]
 |ptr {l b off:Nat} {path:List Nat} (h:β l=some (.pointer (some ⟨b,0,none⟩))):RA P ok w β (.ptr l path off) [.pointer (some ⟨b,off,none⟩)]
 |eptr {l i sz b n cap off:Nat} {path:List Nat} (h:β l=some (.slice (some ⟨b,0,none⟩) n cap)):RA P ok w β (.eptr l i sz path off) [.pointer (some ⟨b,i*sz+off,none⟩)]
 |eptrB {l i sz b off:Nat} {path:List Nat} (h:β l=some (.pointer (some ⟨b,0,none⟩))):RA P ok w β (.eptr l i sz path off) [.pointer (some ⟨b,i*sz+off,none⟩)]
 |sub {l i sz n cap:Nat} {ao:Option Addr} (h:β l=some (.slice ao n cap)):RA P ok w β (.sub l i sz) [.slice (if cap=i then ao else ao.map fun q=>q.add (i*sz)) (n-i) (cap-i)]
 |rptr {T:TypeId} {d:Dt} {ad:Addr} {cs:List Value} (ho:ok ad.block) (hl:cs.length=P.cellsOf T) (hc:∀j v,cs[j]? =some v->w.cell? (ad.add j)=some v) (h:RD P ok w T d cs):RA P ok w β (.rptr T d) [.pointer (some ad)]
 |fn {f:FuncId} {caps:List AV} {cv:Array Value} (hl:cv.size=caps.length) (h:∀(i:Nat)(av:AV),caps[i]? =some av->RA P ok w β av [cv.getD i undef]):RA P ok w β (.fn f caps) [.func (.func f) #[] cv]
 |nils {T:TypeId}:RA P ok w β (.nils T) [.slice none 0 0]
 |nif:RA P ok w β (.nif true) [.nilIface]
 |nni {T:TypeId} {z:Value}:RA P ok w β (.nif false) [.iface T z]
 |mth {T:TypeId} {name:String} {z:Value} {cv:Array Value}:RA P ok w β (.mth T name) [.func (.method name) #[.iface T z] cv]
 |ifc1 {T:TypeId} {v:AV} {z:Value} (hi:v.isAgg P=false) (h:RA P ok w β v [z]):RA P ok w β (.ifc T v) [.iface T z]
 |ifcA {T:TypeId} {v:AV} {cs:List Value} (hi:v.isAgg P=true) (h:RA P ok w β v cs):RA P ok w β (.ifc T v) [.iface T (.agg cs.toArray)]
 |dead {cs:List Value} (h:∀c∈cs,c.oneCell'=true):RA P ok w β .dead cs
section
variable{P:Program}{ok ok':Nat->Prop}{w w':World}{β β':Nat->Option Value}{v:AV}{cs:List Value}
def Ext(β β':Nat->Option Value):Prop:=∀l z,β l=some z->β' l=some z
theorem Ext.refl(β:Nat->Option Value):Ext β β:=fun _ _ h=>h
theorem Ext.trans{β'':Nat->Option Value}(h:Ext β β')(k:Ext β' β''):Ext β β'':=fun l z e=>k l z (h l z e)
theorem RA.mono(h:RA P ok w β v cs)(hk:∀b,ok b->ok' b∧w'.heap[b]? =w.heap[b]?)(hβ:Ext β β'):RA P ok' w' β' v cs:=by
 induction h with
 |dat h=>exact .dat (h.mono hk)
 |agg hu hl hc h1 _ ih=>exact .agg hu hl hc h1 ih
 |row h h1=>exact .row (hβ _ _ h) h1
 |ptr h=>exact .ptr (hβ _ _ h)
 |eptr h=>exact .eptr (hβ _ _ h)
 |eptrB h=>exact .eptrB (hβ _ _ h)
 |sub h=>exact .sub (hβ _ _ h)
 |rptr ho hl hc h=>
  refine .rptr (hk _ ho).1 hl (fun j v hv=>?_) (h.mono hk);rw[World.cell?_of_block (w:=w) (by rw[block_add];exact(hk _ ho).2)];exact hc j v hv
 |fn hl _ ih=>exact .fn hl ih
 |nils=>exact .nils
 |nif=>exact .nif
 |nni=>exact .nni
 |mth=>exact .mth
 |ifc1 hi _ ih=>exact .ifc1 hi ih
 |ifcA hi _ ih=>exact .ifcA hi ih
 |dead h=>exact .dead h
theorem RA.oneCell(h:RA P ok w β v cs):∀c∈cs,c.oneCell'=true:=by
 cases h with
 |dat h=>exact h.oneCell
 |agg _ _ _ h1 _=>exact h1
 |row _ h=>simpa using h
 |ptr=>simp[Value.oneCell']
 |eptr=>simp[Value.oneCell']
 |eptrB=>simp[Value.oneCell']
 |sub=>simp[Value.oneCell']
 |rptr=>simp[Value.oneCell']
 |fn=>simp[Value.oneCell']
 |nils=>simp[Value.oneCell']
 |nif=>simp[Value.oneCell']
 |nni=>simp[Value.oneCell']
 |mth=>simp[Value.oneCell']
 |ifc1=>simp[Value.oneCell']
 |ifcA=>simp[Value.oneCell']
 |dead h=>exact h
end
def tk:List AV->Nat->AV
 | [],_=> .dead
 |v::_,0=>v
 |_::r,k+1=>tk r k
def jW:List AV->Nat->AV->List AV
 | [],0,v=>[v]
 | [],k+1,v=> .dead::jW [] k v
 |_::r,0,v=>v::r
 |u::r,k+1,v=>u::jW r k v
theorem iD:∀(ts:List AV)(d:Nat)(v:AV)(k:Nat),tk (jW ts d v) k=if k=d then v else tk ts k
 | [],0,v,0=>rfl
 | [],0,v,k+1=>by simp[jW,tk]
 | [],d+1,v,0=>by simp[jW,tk]
 | [],d+1,v,k+1=>by simp[jW,tk,iD [] d v k]
 |u::r,0,v,0=>rfl
 |u::r,0,v,k+1=>by simp[jW,tk]
 |u::r,d+1,v,0=>by simp[jW,tk]
 |u::r,d+1,v,k+1=>by simp[jW,tk,iD r d v k]
def lk:List Ob->Nat->Ob
 | [],_=> .free
 |o::_,0=>o
 |_::r,k+1=>lk r k
def aV:List Ob->Nat->Ob->List Ob
 | [],0,o=>[o]
 | [],k+1,o=> .free::aV [] k o
 |_::r,0,o=>o::r
 |u::r,k+1,o=>u::aV r k o
theorem dM:∀(hs:List Ob)(d:Nat)(o:Ob)(k:Nat),lk (aV hs d o) k=if k=d then o else lk hs k
 | [],0,v,0=>rfl
 | [],0,v,k+1=>by simp[aV,lk]
 | [],d+1,v,0=>by simp[aV,lk]
 | [],d+1,v,k+1=>by simp[aV,lk,dM [] d v k]
 |u::r,0,v,0=>rfl
 |u::r,0,v,k+1=>by simp[aV,lk]
 |u::r,d+1,v,0=>by simp[aV,lk]
 |u::r,d+1,v,k+1=>by simp[aV,lk,dM r d v k]
theorem bH(hs:List Ob)(l:Nat)(o:Ob):lk (aV hs l o) l=o:=by simp[dM]
theorem aS(hs:List Ob)(l k:Nat)(o:Ob)(h:k≠l):lk (aV hs l o) k=lk hs k:=by simp[dM,h]
structure St where
 ts:List AV
 hs:List Ob
 k0:Nat
def blk:Value->Option Nat
 | .pointer (some a)=>some a.block
 | .slice (some a) _ _=>some a.block
 | .map r=>r
 |_=>none
def Ob.isOwn:Ob->Bool
 | .box _ _=>true
 | .row _ _=>true
 | .rowA _ _=>true
 | .map _ _=>true
 | .rowD _ _ _ _ _ _=>true
 | .tok _ _=>true
 |_=>false
def Blk(v:Value)(b:Nat):Prop:=blk v=some b∨∃arr:Array Value,v= .tuple arr∧∃(i:Nat)(z:Value),arr[i]? =some z∧blk z=some b
theorem Blk.of{v:Value}{b:Nat}(h:Blk v b)(hn:∀arr,v≠ .tuple arr):blk v=some b:=by
 rcases h with h| ⟨arr,e,_⟩;·exact h
 ·exact absurd e (hn arr)
def owns(hs:List Ob)(β:Nat->Option Value)(l b:Nat):Prop:=(lk hs l).isOwn=true∧∃v,β l=some v∧Blk v b
def lkd:Option Nat->Dt->Bool
 |none,.bool _=>true
 |  some f,.agg ds=>(match ds[f]? with
    |some (.bool _)=>true
    |_=>false)
 |_,_=>false
def hol:Option Nat->Dt->Dt->Dt
 |none,_,v=>v
 |some f,.agg ds,v=> .agg (ds.set f v)
 |some _,d,_=>d
def iE(P:Program)(E:TypeId)(c:Option Nat)(T2 fo:Nat):Prop:=P.cellsOf T2=1∧fo<P.cellsOf E∧((c=none∧T2=E∧fo=0)∨∃(i:Nat)(fs:Array Field)(f:Field),c=some i∧P.underlying E=some (.struct fs)∧fs[i]? =some f∧f.type=T2∧f.offset=fo∧
 ∀(j:Nat)(g:Field),fs[j]? =some g->j≠i->fo<g.offset∨g.offset+P.cellsOf g.type<=fo)
structure OkX where
 ok:Nat->Prop
 x:Nat->Prop
 b0:Nat->Option Value
 k0:Nat
structure BelowX (X:Nat->Prop) (w w':World):Prop where
 os:w'.os=w.os
 tape:w'.tape=w.tape
 output:w'.output=w.output
 size:w.heap.size<=w'.heap.size
 block:∀b,b<w.heap.size->¬X b->w'.heap[b]? =w.heap[b]?
theorem BelowX.refl(X:Nat->Prop)(w:World):BelowX X w w:=⟨rfl,rfl,rfl,aL _,fun _ _ _=>rfl⟩
def okOf(K:OkX)(w0 w:World)(hs:List Ob)(β:Nat->Option Value)(b:Nat):Prop:=
 b<w.heap.size∧(b<w0.heap.size->K.ok b∨K.x b)∧∀l,¬owns hs β l b
def RV1(P:Program)(ok:Nat->Prop)(w:World)(β:Nat->Option Value)(av:AV)(v:Value):Prop:=
 (av.isAgg P=true->∃cs:List Value,v= .agg cs.toArray∧RA P ok w β av cs)∧(av.isAgg P=false->RA P ok w β av [v])
def RV(P:Program)(ok:Nat->Prop)(w:World)(β:Nat->Option Value):AV->Value->Prop
 | .dead,_=>True
 | .tup vs,v=>∃arr:Array Value,v= .tuple arr∧arr.size=vs.length∧∀(i:Nat)(av:AV),vs[i]? =some av->RV1 P ok w β av (arr.getD i undef)
 |av,v=>RV1 P ok w β av v
def auN(P:Program)(ok:Nat->Prop)(w:World)(β:Nat->Option Value)(T T2:TypeId)(c:Option Nat)(k:Nat)(es:List Dt)(h:Option (Nat×Nat))(v:Option Value):Prop:=
 ∃(E E2 fo:TypeId)(z:Value)(xs:List Value)(arr:Array Value),v=some z∧P.underlying T=some (.slice E)∧iE P E c T2 fo∧P.underlying T2=some (.slice E2)∧w.ownsRow 0 E (P.cellsOf E) z es.length xs∧(∀c∈xs,c.oneCell'=true)∧
    β k=some (.tuple arr)∧es.length<=arr.size∧∀(i:Nat)(d:Dt),es[i]? =some d->(lkd c d=false->RD P ok w E d ((xs.drop (i*P.cellsOf E)).take (P.cellsOf E)))∧
      (lkd c d=true->RD P ok w E (hol c d (.lst [])) (((xs.drop (i*P.cellsOf E)).take (P.cellsOf E)).set fo (.slice none 0 0))∧
      ∃zi,xs[i*P.cellsOf E+fo]? =some zi∧((∀l3,h≠some (i,l3))->arr[i]? =some zi)∧∀l3,h=some (i,l3)->β l3=some zi)
def mpC:Option Nat:=some 1000001
def Ia(c:Option Nat):Bool:=match c with
 |some f=>Nat.beq f 1000001
 |none=>false
def Kl(P:Program)(w:World)(β:Nat->Option Value)(T T2:TypeId)(c:Option Nat)(k:Nat)(es:List Dt)(h:Option (Nat×Nat))(v:Option Value):Prop:=
 c  =mpC∧∃(b:Nat)(KT E2:TypeId)(ents:List MapEntry)(clock:Nat)(arr:Array Value),v=some (.map (some b))∧P.underlying T=some (.map KT T2)∧P.underlying KT=some .string∧P.underlying T2=some (.slice E2)∧w.heap[b]? =some (.map ents.toArray clock)∧ents.length=es.length∧
    β k=some (.tuple arr)∧es.length<=arr.size∧∀(i:Nat)(e:MapEntry)(d:Dt),ents[i]? =some e->es[i]? =some d->∃(s:ByteArray),d= .agg [.str s,.bool true]∧s.size<=maxLen∧e.key= .string s∧((∀l3,h≠some (i,l3))->arr[i]? =some e.val)∧∀l3,h=some (i,l3)->β l3=some e.val
theorem Kl.no{P:Program}{w:World}{β:Nat->Option Value}{T T2 E:TypeId}{c:Option Nat}{k:Nat}{es:List Dt}{h:Option (Nat×Nat)}{v:Option Value}(r:Kl P w β T T2 c k es h v)(hu:P.underlying T=some (.slice E)):False:=by obtain⟨_,b,KT,E2,ents,clock,arr,_,h2,_⟩:=r;rw[hu]at h2;cases h2
theorem Kl.noc{P:Program}{w:World}{β:Nat->Option Value}{T T2:TypeId}{c:Option Nat}{k:Nat}{es:List Dt}{h:Option (Nat×Nat)}{v:Option Value}(r:Kl P w β T T2 c k es h v)(hc:Ia c=false):False:=by rw[r.1]at hc;cases hc
def ObOK(P:Program)(ok:Nat->Prop)(w:World)(β:Nat->Option Value):Ob->Option Value->Prop
 | .box T c,v=>∃(b:Nat)(cs:Array Value),v=some (.pointer (some ⟨b,0,none⟩))∧w.heap[b]? =some (.cells cs T (0,0))∧cs.size=P.cellsOf T∧RA P ok w β c cs.toList
 | .row T es,v=>∃(E:TypeId)(z:Value)(xs:List Value),v=some z∧P.underlying T=some (.slice E)∧w.ownsRow 0 E (P.cellsOf E) z es.length xs∧(∀c∈xs,c.oneCell'=true)∧
  ∀(i:Nat)(d:Dt),es[i]? =some d->RD P ok w E d ((xs.drop (i*P.cellsOf E)).take (P.cellsOf E))
 | .rowA T vs,v=>∃(E:TypeId)(z:Value)(xs:List Value),v=some z∧P.underlying T=some (.slice E)∧w.ownsRow 0 E (P.cellsOf E) z vs.length xs∧(∀c∈xs,c.oneCell'=true)∧
  ∀(i:Nat)(u:AV),vs[i]? =some u->RA P ok w β u ((xs.drop (i*P.cellsOf E)).take (P.cellsOf E))
 | .frz T es,v=>∃(z:Value),v=some z∧bS P T=false∧RD P ok w T (.lst es) [z]
 | .map T es,v=>∃(b:Nat)(KT VT:TypeId)(arr:List MapEntry)(clock:Nat),v=some (.map (some b))∧P.underlying T=some (.map KT VT)∧P.underlying KT=some .string∧w.heap[b]? =some (.map arr.toArray clock)∧arr.length=es.length∧
  ∀(i:Nat)(e:MapEntry)(d:Dt),arr[i]? =some e->es[i]? =some d->∃(s:ByteArray)(x:Dt),d= .agg [.str s,x]∧s.size<=maxLen∧e.key= .string s∧RD P ok w VT x [e.val]
 | .rowD T T2 c k es h,v=>auN P ok w β T T2 c k es h v∨Kl P w β T T2 c k es h v
 | .tok T ls,v=>∃(E:TypeId)(arr:Array Value),v=some (.tuple arr)∧P.underlying T=some (.slice E)∧arr.size=ls.length∧(∀(i j:Nat)(zi zj:Value)(b:Nat),arr[i]? =some zi->arr[j]? =some zj->blk zi=some b->blk zj=some b->i=j)∧
  ∀(i:Nat)(d:Dt),ls[i]? =some d->∃(es:List Dt)(z:Value)(xs:List Value),d= .lst es∧arr[i]? =some z∧w.ownsRow 0 E (P.cellsOf E) z es.length xs∧(∀c∈xs,c.oneCell'=true)∧
   ∀(j:Nat)(d:Dt),es[j]? =some d->RD P ok w E d ((xs.drop (j*P.cellsOf E)).take (P.cellsOf E))
 | .gone,_=>True
 | .free,v=>v=none
def tabs:List (Nat×List Value):=[(1,[.int .u8 240,.int .u8 240,.int .u8 240,.int .u8 240,.int .u8 240,.int .u8 240,.int .u8 240,.int .u8 240,.int .u8 240,.int .u8 240,.int .u8 240,.int .u8 240,.int .u8 240,.int .u8 240,.int .u8 240,.int .u8 240,.int .u8 240,.int .u8 240,.int .u8 240,.int .u8 240,.int .u8 240,.int .u8 240,.int .u8 240,.int .u8 240,.int .u8 240,.int .u8 240,.int .u8 240,.int .u8 240,.int .u8 240,.int .u8 240,.int .u8 240,.int .u8 240,.int .u8 240,.int .u8 240,.int .u8 240,.int .u8 240,.int .u8 240,.int .u8 240,.int .u8 240,.int .u8 240,.int .u8 240,.int .u8 240,.int .u8 240,.int .u8 240,.int .u8 240,.int .u8 240,.int .u8 240,.int .u8 240,.int .u8 240,.int .u8 240,.int .u8 240,.int .u8 240,.int .u8 240,.int .u8 240,.int .u8 240,.int .u8 240,.int .u8 240,.int .u8 240,.int .u8 240,.int .u8 240,.int .u8 240,.int .u8 240,.int .u8 240,.int .u8 240,.int .u8 240,.int .u8 240,.int .u8 240,.int .u8 240,.int .u8 240,.int .u8 240,.int .u8 240,.int .u8 240,.int .u8 240,.int .u8 240,.int .u8 240,.int .u8 240,.int .u8 240,.int .u8 240,.int .u8 240,.int .u8 240,.int .u8 240,.int .u8 240,.int .u8 240,.int .u8 240,.int .u8 240,.int .u8 240,.int .u8 240,.int .u8 240,.int .u8 240,.int .u8 240,.int .u8 240,.int .u8 240,.int .u8 240,.int .u8 240,.int .u8 240,.int .u8 240,.int .u8 240,.int .u8 240,.int .u8 240,.int .u8 240,.int .u8 240,.int .u8 240,.int .u8 240,.int .u8 240,.int .u8 240,.int .u8 240,.int .u8 240,.int .u8 240,.int .u8 240,.int .u8 240,.int .u8 240,.int .u8 240,.int .u8 240,.int .u8 240,.int .u8 240,.int .u8 240,.int .u8 240,.int .u8 240,.int .u8 240,.int .u8 240,.int .u8 240,.int .u8 240,.int .u8 240,.int .u8 240,.int .u8 240,.int .u8 240,.int .u8 240,.int .u8 240,.int .u8 241,.int .u8 241,.int .u8 241,.int .u8 241,.int .u8 241,.int .u8 241,.int .u8 241,.int .u8 241,.int .u8 241,.int .u8 241,.int .u8 241,.int .u8 241,.int .u8 241,.int .u8 241,.int .u8 241,.int .u8 241,.int .u8 241,.int .u8 241,.int .u8 241,.int .u8 241,.int .u8 241,.int .u8 241,.int .u8 241,.int .u8 241,.int .u8 241,.int .u8 241,.int .u8 241,.int .u8 241,.int .u8 241,.int .u8 241,.int .u8 241,.int .u8 241,.int .u8 241,.int .u8 241,.int .u8 241,.int .u8 241,.int .u8 241,.int .u8 241,.int .u8 241,.int .u8 241,.int .u8 241,.int .u8 241,.int .u8 241,.int .u8 241,.int .u8 241,.int .u8 241,.int .u8 241,.int .u8 241,.int .u8 241,.int .u8 241,.int .u8 241,.int .u8 241,.int .u8 241,.int .u8 241,.int .u8 241,.int .u8 241,.int .u8 241,.int .u8 241,.int .u8 241,.int .u8 241,.int .u8 241,.int .u8 241,.int .u8 241,.int .u8 241,.int .u8 241,.int .u8 241,.int .u8 2,.int .u8 2,.int .u8 2,.int .u8 2,.int .u8 2,.int .u8 2,.int .u8 2,.int .u8 2,.int .u8 2,.int .u8 2,.int .u8 2,.int .u8 2,.int .u8 2,.int .u8 2,.int .u8 2,.int .u8 2,.int .u8 2,.int .u8 2,.int .u8 2,.int .u8 2,.int .u8 2,.int .u8 2,.int .u8 2,.int .u8 2,.int .u8 2,.int .u8 2,.int .u8 2,.int .u8 2,.int .u8 2,.int .u8 2,.int .u8 19,.int .u8 3,.int .u8 3,.int .u8 3,.int .u8 3,.int .u8 3,.int .u8 3,.int .u8 3,.int .u8 3,.int .u8 3,.int .u8 3,.int .u8 3,.int .u8 3,.int .u8 35,.int .u8 3,.int .u8 3,.int .u8 52,.int .u8 4,.int .u8 4,.int .u8 4,.int .u8 68,.int .u8 241,.int .u8 241,.int .u8 241,.int .u8 241,.int .u8 241,.int .u8 241,.int .u8 241,.int .u8 241,.int .u8 241,.int .u8 241,.int .u8 241]),(2,[.int .u8 128,.int .u8 191,.int .u8 160,.int .u8 191,.int .u8 128,.int .u8 159,.int .u8 144,.int .u8 191,.int .u8 128,.int .u8 143,.int .u8 0,.int .u8 0,.int .u8 0,.int .u8 0,.int .u8 0,.int .u8 0,.int .u8 0,.int .u8 0,.int .u8 0,.int .u8 0,.int .u8 0,.int .u8 0,.int .u8 0,.int .u8 0,.int .u8 0,.int .u8 0,.int .u8 0,.int .u8 0,.int .u8 0,.int .u8 0,.int .u8 0,.int .u8 0])]
def ayh:List Nat:=[]
def TabOK(ok:Nat->Prop)(w:World):Prop:=(∀t∈tabs,ok t.1∧∃(T:TypeId)(fr:Nat×Nat),w.heap[t.1]? =some (.cells t.2.toArray T fr))∧
 ∀g∈ayh,ok g∧∃(ev:Value)(T:TypeId)(fr:Nat×Nat),w.heap[g]? =some (.cells #[ev] T fr)∧(ev= .nilIface∨∃te pe,ev= .iface te pe)
theorem TabOK.mono{ok ok':Nat->Prop}{w w':World}(h:TabOK ok w)(hk:∀b,ok b->ok' b∧w'.heap[b]? =w.heap[b]?):TabOK ok' w':=by
 refine⟨fun t ht=>?_,fun g hg=>?_⟩
 ·obtain⟨h1,T,fr,h2⟩:=h.1 t ht;exact⟨(hk _ h1).1,T,fr,by rw[(hk _ h1).2];exact h2⟩
 ·obtain⟨h1,ev,T,fr,h2,h3⟩:=h.2 g hg;exact⟨(hk _ h1).1,ev,T,fr,by rw[(hk _ h1).2];exact h2,h3⟩
structure RelB (P:Program) (K:OkX) (w0:World) (n:Nat) (σ:St) (a:Act) (w:World) (β:Nat->Option Value):Prop where
 size:a.tmps.size=n
 defers:a.defers=[]
 below:BelowX K.x w0 w
 ts:∀k,RV P (okOf K w0 w σ.hs β) w β (tk σ.ts k) (a.tmps.getD k undef)
 hs:∀l,ObOK P (okOf K w0 w σ.hs β) w β (lk σ.hs l) (β l)
 sep:∀l l' b,owns σ.hs β l b->owns σ.hs β l' b->l=l'
 own:∀l b,owns σ.hs β l b->w0.heap.size<=b∨K.x b
 ext:∀l,l<K.k0->β l=K.b0 l
 kk:K.k0=σ.k0
 tab:TabOK (okOf K w0 w σ.hs β) w
def Rel(P:Program)(K:OkX)(w0:World)(n:Nat)(σ:St)(a:Act)(w:World):Prop:=∃β,RelB P K w0 n σ a w β
section
variable{P:Program}{ok ok':Nat->Prop}{w w' w0:World}{β β':Nat->Option Value}{v:AV}{x:Value}
theorem RV1.mono(h:RV1 P ok w β v x)(hk:∀b,ok b->ok' b∧w'.heap[b]? =w.heap[b]?)(hβ:Ext β β'):RV1 P ok' w' β' v x:=
 ⟨fun hi=>let ⟨cs,e,r⟩:=h.1 hi;⟨cs,e,r.mono hk hβ⟩,fun hi=>(h.2 hi).mono hk hβ⟩
theorem RV.mono(h:RV P ok w β v x)(hk:∀b,ok b->ok' b∧w'.heap[b]? =w.heap[b]?)(hβ:Ext β β'):RV P ok' w' β' v x:=by
 cases v with
 |dead=>trivial
 |tup vs=>
  obtain⟨arr,e,hs,h⟩:=h;exact⟨arr,e,hs,fun i av hv=>(h i av hv).mono hk hβ⟩
 |_=>exact RV1.mono h hk hβ
theorem RV.of1(hn:v≠ .dead)(ht:∀vs,v≠ .tup vs)(h:RV1 P ok w β v x):RV P ok w β v x:=by cases v<;>first|exact h|(exact absurd rfl hn)|(exact absurd rfl (ht _))
theorem RV1.toRV(h:RV1 P ok w β v x)(ht:∀vs,v≠ .tup vs):RV P ok w β v x:=by cases v<;>first|exact h|trivial|(exact absurd rfl (ht _))
theorem RV.to1(hn:v≠ .dead)(ht:∀vs,v≠ .tup vs)(h:RV P ok w β v x):RV1 P ok w β v x:=by cases v<;>first|exact h|(exact absurd rfl hn)|(exact absurd rfl (ht _))
theorem fE{base:Nat}{e:TypeId}{size:Nat}{v:Value}{n:Nat}{xs:List Value}(h:w.ownsRow base e size v n xs)(hb:∀b,blk v=some b->w'.heap[b]? =w.heap[b]?):w'.ownsRow base e size v n xs:=by
 obtain⟨h1,h2⟩:=h;refine⟨h1,?_⟩;rcases h2 with h2| ⟨g,cap,cur,rfl,hg,hh,r⟩;·exact .inl h2
 ·exact .inr ⟨g,cap,cur,rfl,hg,by rw[hb g rfl];exact hh,r⟩
theorem iX{base:Nat}{e:TypeId}{size:Nat}{v:Value}{n:Nat}{xs:List Value}(h:w.ownsRow base e size v n xs){b:Nat}(hb:blk v=some b):base<=b∧b<w.heap.size:=by
 obtain⟨_,h2⟩:=h;rcases h2 with⟨rfl,_⟩| ⟨g,cap,cur,rfl,hg,hh,r⟩;·cases hb
 ·simp only[blk,aA]at hb;subst hb;refine⟨hg,?_⟩;rcases Nat.lt_or_ge g w.heap.size with hlt|hge;·exact hlt
  ·rw[Array.getElem?_eq_none hge]at hh;cases hh
theorem _root_.Go.World.ownsRow.notup{base:Nat}{e:TypeId}{size:Nat}{v:Value}{n:Nat}{xs:List Value}(h:w.ownsRow base e size v n xs)(arr:Array Value):v≠ .tuple arr:=by rcases h.2 with⟨rfl,_⟩| ⟨g,cap,cur,rfl,_⟩<;>exact nofun
theorem ObOK.np{o:Ob}{x:Option Value}{p:Option Addr}(h:ObOK P ok w β o x)(ho:(∃T es,o= .row T es)∨(∃T vs,o= .rowA T vs)∨∃T T2 c k es h,o= .rowD T T2 c k es h)(hx:x=some (.pointer p)):False:=by
 subst hx;rcases ho with⟨T,es,rfl⟩| ⟨T,es,rfl⟩| ⟨T,T2,c,k,es,h',rfl⟩
 ·obtain⟨_,z,xs,e,_,hown,_⟩:=h;cases e;rcases hown.2 with⟨e,_⟩| ⟨_,_,_,e,_⟩<;>cases e
 ·obtain⟨_,z,xs,e,_,hown,_⟩:=h;cases e;rcases hown.2 with⟨e,_⟩| ⟨_,_,_,e,_⟩<;>cases e
 ·rcases h with h| ⟨_,_,_,_,_,_,_,e,_⟩
  ·obtain⟨_,_,_,z,xs,_,e,_,_,_,hown,_⟩:=h;cases e;rcases hown.2 with⟨e,_⟩| ⟨_,_,_,e,_⟩<;>cases e
  ·cases e
theorem ObOK.blk_lt{o:Ob}(h:ObOK P ok w β o (some x))(ho:o.isOwn=true){b:Nat}(hb:Blk x b):b<w.heap.size:=by
 cases o with
 |box T c=>
  obtain⟨g,cs,e,hh,_⟩:=h;cases e;have hb:=hb.of nofun;simp only[blk,aA]at hb;subst hb;rcases Nat.lt_or_ge g w.heap.size with hlt|hge;·exact hlt
  ·rw[Array.getElem?_eq_none hge]at hh;cases hh
 |row E es=>
  obtain⟨_,z,xs,e,_,hown,_⟩:=h;cases e;exact(iX hown (hb.of hown.notup)).2
 |rowA E vs=>
  obtain⟨_,z,xs,e,_,hown,_⟩:=h;cases e;exact(iX hown (hb.of hown.notup)).2
 |rowD E _ _ _ _ _=>
  rcases h with⟨_,_,_,z,xs,_,e,_,_,_,hown,_⟩| ⟨_,g,_,_,_,_,_,e,_,_,_,hh,_⟩
  ·cases e;exact(iX hown (hb.of hown.notup)).2
  ·cases e;have hb:=hb.of nofun;simp only[blk,aA]at hb;subst hb;rcases Nat.lt_or_ge g w.heap.size with hlt|hge;·exact hlt
   ·rw[Array.getElem?_eq_none hge]at hh;cases hh
 |tok T ls=>
  obtain⟨E,arr,e,_,hs,_,hr⟩:=h;cases e;rcases hb with hb| ⟨_,e,i,z,hz,hb⟩;·cases hb
  ·cases e;have hi:i<ls.length:=by rw[←hs];exact(Array.getElem?_eq_some_iff.1 hz).1
   obtain⟨es,z',xs,_,hz',hown,_⟩:=hr i _ (aB hi);rw[hz]at hz';cases hz'
   exact(iX hown hb).2
 |frz=>cases ho
 |map T es=>
  obtain⟨g,_,_,arr,clock,e,_,_,hh,_⟩:=h;cases e;have hb:=hb.of nofun;simp only[blk,aA]at hb;subst hb;rcases Nat.lt_or_ge g w.heap.size with hlt|hge;·exact hlt
  ·rw[Array.getElem?_eq_none hge]at hh;cases hh
 |gone=>cases ho
 |free=>cases ho
theorem ObOK.mono{o:Ob}{x:Option Value}(h:ObOK P ok w β o x)(hk:∀b,ok b->ok' b∧w'.heap[b]? =w.heap[b]?)(hb:∀z b,o.isOwn=true->x=some z->Blk z b->w'.heap[b]? =w.heap[b]?)(hβ:Ext β β'):ObOK P ok' w' β' o x:=by
 cases o with
 |box T c=>
  obtain⟨g,cs,rfl,hh,hsz,hr⟩:=h;exact⟨g,cs,rfl,by rw[hb _ g rfl rfl (.inl rfl)];exact hh,hsz,hr.mono hk hβ⟩
 |row E es=>
  obtain⟨E',z,xs,rfl,hu,hown,h1,hr⟩:=h;exact⟨E',z,xs,rfl,hu,fE hown (fun b hb'=>hb z b rfl rfl (.inl hb')),h1,fun i d hd=>(hr i d hd).mono hk⟩
 |rowA E vs=>
  obtain⟨E',z,xs,rfl,hu,hown,h1,hr⟩:=h;exact⟨E',z,xs,rfl,hu,fE hown (fun b hb'=>hb z b rfl rfl (.inl hb')),h1,fun i u hu2=>(hr i u hu2).mono hk hβ⟩
 |rowD T T2 c k es h'=>
  rcases h with⟨E,E2,fo,z,xs,arr,rfl,hu,hh,hu2,hown,h1,hk2,hl,hr⟩| ⟨hc,g,KT,E2,ents,clock,arr,rfl,hu,hkt,hu2,hh,hel,hk2,hl,hr⟩
  ·refine .inl ⟨E,E2,fo,z,xs,arr,rfl,hu,hh,hu2,fE hown (fun b hb'=>hb z b rfl rfl (.inl hb')),h1,hβ _ _ hk2,hl,fun i d hd=>?_⟩;obtain⟨q0,q1⟩:=hr i d hd;refine⟨fun e=>(q0 e).mono hk,fun e=>?_⟩;obtain⟨q1,zi,q2,q3,q4⟩:=q1 e;exact⟨q1.mono hk,zi,q2,q3,fun l3 e=>hβ _ _ (q4 l3 e)⟩
  ·refine .inr ⟨hc,g,KT,E2,ents,clock,arr,rfl,hu,hkt,hu2,by rw[hb _ g rfl rfl (.inl rfl)];exact hh,hel,hβ _ _ hk2,hl,fun i e d he hd=>?_⟩;obtain⟨s,q1,q2,q3,q4,q5⟩:=hr i e d he hd;exact⟨s,q1,q2,q3,q4,fun l3 e=>hβ _ _ (q5 l3 e)⟩
 |tok T ls=>
  obtain⟨E,arr,rfl,hu,hs,hsep,hr⟩:=h;refine⟨E,arr,rfl,hu,hs,hsep,fun i d hd=>?_⟩;obtain⟨es,z,xs,q1,q2,q3,q4,q5⟩:=hr i d hd;exact⟨es,z,xs,q1,q2,fE q3 (fun b hb'=>hb _ b rfl rfl (.inr ⟨arr,rfl,i,z,q2,hb'⟩)),q4,fun j d hd=>(q5 j d hd).mono hk⟩
 |frz T es=>
  obtain⟨z,rfl,hu,hr⟩:=h;exact⟨z,rfl,hu,hr.mono hk⟩
 |map T es=>
  obtain⟨g,KT,VT,arr,clock,rfl,hu,hk',hh,hl,hr⟩:=h;refine⟨g,KT,VT,arr,clock,rfl,hu,hk',by rw[hb _ g rfl rfl (.inl rfl)];exact hh,hl,fun i e d he hd=>?_⟩;obtain⟨s,x,h1,h2,h3,h4⟩:=hr i e d he hd;exact⟨s,x,h1,h2,h3,h4.mono hk⟩
 |gone=>trivial
 |free=>exact h
end
section
variable{P:Program}{K:OkX}{w0:World}{n:Nat}{σ:St}{a:Act}{w:World}{β:Nat->Option Value}
theorem Bo{A:Type}(arr:Array A)(d k:Nat)(x u:A)(hd:d<arr.size):(arr.setIfInBounds d x).getD k u=if k=d then x else arr.getD k u:=by
 simp only[Array.getD_eq_getD_getElem?,Array.getElem?_setIfInBounds];by_cases h:k=d;·subst h;simp[hd]
 ·simp[h,Ne.symm h]
def St.put(σ:St)(d:Nat)(v:AV):St:=⟨jW σ.ts d v,σ.hs,σ.k0⟩
def St.lay(σ:St)(l:Nat)(o:Ob):St:=⟨σ.ts,aV σ.hs l o,σ.k0⟩
theorem RelB.put(h:RelB P K w0 n σ a w β){d:Nat}(hd:d<n){v:AV}{x:Value}(hv:RV P (okOf K w0 w σ.hs β) w β v x):
  RelB P K w0 n (σ.put d v) (a.put (some d) x) w β:={
 size:=by simpa [Act.put]using h.size
 defers:=h.defers
 below:=h.below
 ts k:=by
  show RV P _ w β (tk (jW σ.ts d v) k) ((a.tmps.setIfInBounds d x).getD k undef);rw[Bo _ _ _ _ _ (by rw[h.size];exact hd),iD];by_cases hk:k=d;·subst hk;simp;exact hv
  ·rw[if_neg hk,if_neg hk];exact h.ts k
 hs:=h.hs
 sep:=h.sep
 own:=h.own
 ext:=h.ext
 kk:=h.kk
 tab:=h.tab}
theorem Rel.put(h:RelB P K w0 n σ a w β){d:Nat}(hd:d<n){v:AV}{x:Value}(hv:RV P (okOf K w0 w σ.hs β) w β v x):Rel P K w0 n (σ.put d v) (a.put (some d) x) w:=⟨β,h.put hd hv⟩
theorem RelB.blk_lt(h:RelB P K w0 n σ a w β){l b:Nat}(ho:owns σ.hs β l b):b<w.heap.size:=by obtain⟨h1,z,h2,h3⟩:=ho;have:=h.hs l;rw[h2]at this;exact this.blk_lt h1 h3
theorem RelB.grow(h:RelB P K w0 n σ a w β){w':World}(hb:Below w.heap.size w w'):RelB P K w0 n σ a w' β∧∀b,okOf K w0 w σ.hs β b->okOf K w0 w' σ.hs β b∧w'.heap[b]? =w.heap[b]? :=by have hk:∀b,okOf K w0 w σ.hs β b->okOf K w0 w' σ.hs β b∧w'.heap[b]? =w.heap[b]? :=fun b hb'=>⟨⟨Nat.lt_of_lt_of_le hb'.1 hb.size,hb'.2⟩,hb.block b hb'.1⟩;have hbel:BelowX K.x w0 w':=⟨hb.os.trans h.below.os,hb.tape.trans h.below.tape,hb.output.trans h.below.output,Nat.le_trans h.below.size hb.size,fun b h1 h2=>(hb.block b (Nat.lt_of_lt_of_le h1 h.below.size)).trans (h.below.block b h1 h2)⟩;refine⟨⟨h.size,h.defers,hbel,fun k=>(h.ts k).mono hk (Ext.refl _),fun l=>?_,h.sep,h.own,h.ext,h.kk,h.tab.mono hk⟩,hk⟩;exact(h.hs l).mono hk (fun z b ho hz hb'=>hb.block b (h.blk_lt ⟨ho,z,hz,hb'⟩)) (Ext.refl _)
def upB(β:Nat->Option Value)(l:Nat)(v:Option Value):Nat->Option Value:=fun k=>if k=l then v else β k
theorem bJ(β:Nat->Option Value)(l:Nat)(v:Option Value):upB β l v l=v:=by simp[upB]
theorem bO(β:Nat->Option Value)(l k:Nat)(v:Option Value)(h:k≠l):upB β l v k=β k:=by simp[upB,h]
theorem RelB.upd(h:RelB P K w0 n σ a w β)(l:Nat)(o:Ob)(v':Option Value)(w':World)
  (hfr:v'=β l∨(β l=none∧σ.k0<=l))
  (hos:w'.os=w.os)(htape:w'.tape=w.tape)(hout:w'.output=w.output)(hsz:w.heap.size<=w'.heap.size)
  (hbl:∀b,b<w.heap.size->¬owns σ.hs β l b->w'.heap[b]? =w.heap[b]?)
  (hv':∀z b,o.isOwn=true->v'=some z->Blk z b->w.heap.size<=b∨owns σ.hs β l b)
  (ho:Ext β (upB β l v')->(∀b,okOf K w0 w σ.hs β b->okOf K w0 w' (aV σ.hs l o) (upB β l v') b∧w'.heap[b]? =w.heap[b]?)->ObOK P (okOf K w0 w' (aV σ.hs l o) (upB β l v')) w' (upB β l v') o v'):
  RelB P K w0 n (σ.lay l o) a w' (upB β l v'):=by
 have hext:Ext β (upB β l v'):=by
  intro k z hk;by_cases hkl:k=l
  ·subst hkl;rw[bJ];rcases hfr with hfr|hfr;·rw[hfr];exact hk
   ·rw[hfr.1]at hk;cases hk
  ·rw[bO _ _ _ _ hkl];exact hk
 have hown2:∀k b,owns (aV σ.hs l o) (upB β l v') k b->(k=l∧(w.heap.size<=b∨owns σ.hs β l b))∨(k≠l∧owns σ.hs β k b):=by
  rintro k b ⟨h1,z,h2,h3⟩;by_cases hkl:k=l
  ·subst hkl;rw[bH]at h1;rw[bJ]at h2;exact .inl ⟨rfl,hv' z b h1 h2 h3⟩
  ·rw[aS _ _ _ _ hkl]at h1;rw[bO _ _ _ _ hkl]at h2;exact .inr ⟨hkl,h1,z,h2,h3⟩
 have hk:∀b,okOf K w0 w σ.hs β b->okOf K w0 w' (aV σ.hs l o) (upB β l v') b∧w'.heap[b]? =w.heap[b]? :=by
  rintro b ⟨h1,h2,h3⟩;refine⟨⟨Nat.lt_of_lt_of_le h1 hsz,h2,fun k hk=>?_⟩,hbl b h1 (h3 l)⟩;rcases hown2 k b hk with⟨_,h4|h4⟩| ⟨_,h4⟩;·omega
  ·exact h3 _ h4
  ·exact h3 _ h4
 refine⟨h.size,h.defers,?_,fun k=>(h.ts k).mono hk hext,fun k=>?_,?_,?_,?_,h.kk,h.tab.mono hk⟩
 ·refine⟨hos.trans h.below.os,htape.trans h.below.tape,hout.trans h.below.output,Nat.le_trans h.below.size hsz,fun b hb hx=>(hbl b (Nat.lt_of_lt_of_le hb h.below.size) fun he=>?_).trans (h.below.block b hb hx)⟩;rcases h.own l b he with h1|h1;·omega
  ·exact hx h1
 ·show ObOK P _ w' _ (lk (aV σ.hs l o) k) _;by_cases hkl:k=l
  ·subst hkl;rw[bH,bJ];exact ho hext hk
  ·rw[aS _ _ _ _ hkl,bO _ _ _ _ hkl];refine(h.hs k).mono hk (fun z b h1 h2 h3=>?_) hext;have ho1:owns σ.hs β k b:=⟨h1,z,h2,h3⟩;exact hbl b (h.blk_lt ho1) fun he=>hkl (h.sep k l b ho1 he)
 ·intro k k' b h1 h2;rcases hown2 k b h1 with⟨e1,h3|h3⟩| ⟨e1,h3⟩
  ·rcases hown2 k' b h2 with⟨e2,_⟩| ⟨e2,h4⟩;·rw[e1,e2]
   ·have:=h.blk_lt h4;omega
  ·rcases hown2 k' b h2 with⟨e2,_⟩| ⟨e2,h4⟩;·rw[e1,e2]
   ·rw[e1];exact h.sep _ _ _ h3 h4
  ·rcases hown2 k' b h2 with⟨e2,h4|h4⟩| ⟨e2,h4⟩;·have:=h.blk_lt h3;omega
   ·rw[e2];exact h.sep _ _ _ h3 h4
   ·exact h.sep _ _ _ h3 h4
 ·intro k b h1;rcases hown2 k b h1 with⟨e1,h3|h3⟩| ⟨e1,h3⟩;·exact .inl (Nat.le_trans h.below.size h3)
  ·exact h.own _ _ h3
  ·exact h.own _ _ h3
 ·intro k hk2;by_cases hkl:k=l
  ·subst hkl;rw[bJ];rcases hfr with hfr|hfr;·rw[hfr];exact h.ext k hk2
   ·have:=h.kk;omega
  ·rw[bO _ _ _ _ hkl];exact h.ext k hk2
theorem RelB.drop(h:RelB P K w0 n σ a w β)(l:Nat)(hf:lk σ.hs l≠ .free):RelB P K w0 n (σ.lay l .gone) a w β:=by
 have hown2:∀k b,owns (aV σ.hs l .gone) β k b->owns σ.hs β k b:=by
  rintro k b ⟨h1,z,h2,h3⟩;by_cases hkl:k=l;·subst hkl;rw[bH]at h1;cases h1
  ·rw[aS _ _ _ _ hkl]at h1;exact⟨h1,z,h2,h3⟩
 have hk:∀b,okOf K w0 w σ.hs β b->okOf K w0 w (aV σ.hs l .gone) β b∧w.heap[b]? =w.heap[b]? :=fun b hb=>⟨⟨hb.1,hb.2.1,fun k hk=>hb.2.2 k (hown2 k b hk)⟩,rfl⟩;refine⟨h.size,h.defers,h.below,fun k=>(h.ts k).mono hk (Ext.refl _),fun k=>?_,fun k k' b h1 h2=>h.sep k k' b (hown2 _ _ h1) (hown2 _ _ h2),fun k b h1=>h.own k b (hown2 _ _ h1),h.ext,h.kk,h.tab.mono hk⟩;show ObOK P _ w β (lk (aV σ.hs l .gone) k) _;by_cases hkl:k=l;·subst hkl;rw[bH];trivial
 ·rw[aS _ _ _ _ hkl];exact(h.hs k).mono hk (fun _ _ _ _ _=>rfl) (Ext.refl _)
def ayi(ts' ts:List AV):Prop:=∀k,tk ts' k= .dead∨tk ts' k=tk ts k
theorem RelB.sub{ts':List AV}(h:RelB P K w0 n σ a w β)(ht:ayi ts' σ.ts):RelB P K w0 n ⟨ts',σ.hs,σ.k0⟩ a w β:=by
 refine⟨h.size,h.defers,h.below,fun k=>?_,h.hs,h.sep,h.own,h.ext,h.kk,h.tab⟩;rcases ht k with e|e
 ·show RV P _ w β (tk ts' k) _;rw[e];trivial
 ·show RV P _ w β (tk ts' k) _;rw[e];exact h.ts k
end
end Go.Am
namespace Go.Am
open Go.RowKit Dt
def bD(P:Program)(n:Nat)(o:Oper)(σ σ':St):Prop:=
 ∀(ok0:OkX)(w0:World)(a:Act)(w:World),Rel P ok0 w0 n σ a w->∀(K:Act->World->Prop)(Q:Exit->Act->World->Prop),
    (∀a' w',Rel P ok0 w0 n σ' a' w'->K a' w')->o.wp P a w K Q
def Ev(P:Program)(σ:St)(x:Operand)(v:AV):Prop:=
 ∀(ok0:OkX)(w0:World)(n:Nat)(a:Act)(w:World)(β:Nat->Option Value),RelB P ok0 w0 n σ a w β->RV P (okOf ok0 w0 w σ.hs β) w β v (a.eval x)
section
variable{P:Program}{n:Nat}{o:Oper}{σ σ':St}{x y:Operand}{v:AV}{T:TypeId}
theorem Ev.tmp{t:Nat}(h:tk σ.ts t=v):Ev P σ (.tmp t) v:=fun _ _ _ _ _ _ r=>h▸r.ts t
theorem bQ{d:TypeDesc}(hu:P.underlying T=some d)(hd:d.isRow=false):bS P T=false:=by unfold bS;rw[hu];cases d<;>simp_all
theorem gM{fs:Array Field}(hu:P.underlying T=some (.struct fs)):bS P T=true:=by unfold bS;rw[hu]
theorem Bp{m:Nat}{E:TypeId}(hu:P.underlying T=some (.array m E)):bS P T=true:=by unfold bS;rw[hu]
theorem RV.dat_one{ok:Nat->Prop}{w:World}{β:Nat->Option Value}{d:Dt}{x:Value}(hu:bS P T=false):RV P ok w β (.dat T d) x↔RD P ok w T d [x]:=by
 constructor
 ·intro h;have:=h.2 (by simpa [AV.isAgg]using hu);cases this with
  |dat h=>exact h
 ·intro h;exact⟨fun hi=>by simp[AV.isAgg,hu]at hi,fun _=> .dat h⟩
theorem RV.dat_agg{ok:Nat->Prop}{w:World}{β:Nat->Option Value}{d:Dt}{x:Value}(hu:bS P T=true):RV P ok w β (.dat T d) x↔∃cs:List Value,x= .agg cs.toArray∧RD P ok w T d cs:=by
 constructor
 ·intro h;obtain⟨cs,e,h⟩:=h.1 (by simpa [AV.isAgg]using hu);cases h with
  |dat h=>exact⟨cs,e,h⟩
 ·rintro⟨cs,e,h⟩;exact⟨fun _=>⟨cs,e,.dat h⟩,fun hi=>by simp[AV.isAgg,hu]at hi⟩
section
variable{ok:Nat->Prop}{w:World}{β:Nat->Option Value}{d:Dt}{x:Value}
theorem RV.int{k:IntKind}(hu:P.underlying T=some (.int k))(h:RV P ok w β (.dat T d) x):d= .int d.toInt∧x= .int k d.toInt∧k.min<=d.toInt∧d.toInt<=k.max:=by have h':=(RV.dat_one (bQ hu rfl)).1 h;obtain⟨h1,h2,h3⟩:=h'.int_inv hu;exact⟨h1,by simpa using h2,h3⟩
theorem RV.bool(hu:P.underlying T=some .bool)(h:RV P ok w β (.dat T d) x):d= .bool d.toBool∧x= .bool d.toBool:=by have h':=(RV.dat_one (bQ hu rfl)).1 h;obtain⟨h1,h2⟩:=h'.bool_inv hu;exact⟨h1,by simpa using h2⟩
theorem RV.str(hu:P.underlying T=some .string)(h:RV P ok w β (.dat T d) x):d= .str d.toStr∧x= .string d.toStr∧d.toStr.size<=maxLen:=by have h':=(RV.dat_one (bQ hu rfl)).1 h;obtain⟨h1,h2,h3⟩:=h'.str_inv hu;exact⟨h1,by simpa using h2,h3⟩
theorem RV.mk_int{k:IntKind}{m:Int}(hu:P.underlying T=some (.int k))(h1:k.min<=m)(h2:m<=k.max):RV P ok w β (.dat T (.int m)) (.int k m):=
 (RV.dat_one (bQ hu rfl)).2 (.int hu h1 h2)
theorem RV.mk_bool{b:Bool}(hu:P.underlying T=some .bool):RV P ok w β (.dat T (.bool b)) (.bool b):=
 (RV.dat_one (bQ hu rfl)).2 (.bool hu)
theorem RV.mk_str{s:ByteArray}(hu:P.underlying T=some .string)(hs:s.size<=maxLen):RV P ok w β (.dat T (.str s)) (.string s):=
 (RV.dat_one (bQ hu rfl)).2 (.str hu hs)
theorem RV.lst{E:TypeId}(hu:P.underlying T=some (.slice E))(h:RV P ok w β (.dat T d) x):d= .lst d.toLst∧RD P ok w T d [x]∧∃(a:Option Addr)(cap:Nat),x= .slice a d.toLst.length cap∧d.toLst.length<=cap∧cap<=maxLen:=by have h':=(RV.dat_one (bQ hu rfl)).1 h;obtain⟨h1,a,cap,ad,g,h2,h3,h4,_⟩:=h'.lst_inv hu;exact⟨h1,h',a,cap,by simpa using h2,h3,h4⟩
end
theorem Ev.int{k:IntKind}{m:Int}(hu:P.underlying T=some (.int k))(h1:k.min<=m)(h2:m<=k.max):Ev P σ (.const (.int k m)) (.dat T (.int m)):=
 fun _ _ _ _ _ _ _=>RV.mk_int hu h1 h2
theorem Ev.bool{b:Bool}(hu:P.underlying T=some .bool):Ev P σ (.const (.bool b)) (.dat T (.bool b)):=fun _ _ _ _ _ _ _=>RV.mk_bool hu
theorem Ev.str{s:ByteArray}(hu:P.underlying T=some .string)(hs:s.size<=maxLen):Ev P σ (.const (.string s)) (.dat T (.str s)):=fun _ _ _ _ _ _ _=>RV.mk_str hu hs
theorem Ev.fn{f:FuncId}:Ev P σ (.func f) (.fn f []):=fun _ _ _ _ _ _ _=>⟨fun h=>by simp[AV.isAgg]at h,fun _=> .fn (cv:= #[]) rfl fun i av h=>by simp at h⟩
theorem RD.nil{ok:Nat->Prop}{w:World}{E:TypeId}(hu:P.underlying T=some (.slice E)):RD P ok w T (.lst []) [.slice none 0 0]:=
 .lst ⟨0,0,none⟩ (fun _=>[]) hu rfl (aL _) (by unfold maxLen;omega) (fun h=>by omega) (fun i h=>by omega) (fun i d h=>by simp at h)
theorem Ev.nil{E:TypeId}(hu:P.underlying T=some (.slice E)):Ev P σ (.const (.slice none 0 0)) (.dat T (.lst [])):=
 fun _ _ _ _ _ _ _=>(RV.dat_one (bQ hu rfl)).2 (RD.nil hu)
theorem Ev.nils:Ev P σ (.const (.slice none 0 0)) (.nils T):=fun _ _ _ _ _ _ _=>⟨fun hi=>by simp[AV.isAgg]at hi,fun _=> .nils⟩
theorem Ev.zero{d:Dt}{fs:Array Field}{cs:List Value}(hu:P.underlying T=some (.struct fs))(h:∀(ok:Nat->Prop)(w:World),RD P ok w T d cs):Ev P σ (.const (.agg cs.toArray)) (.dat T d):=
 fun _ _ _ _ _ _ _=>(RV.dat_agg (gM hu)).2 ⟨cs,rfl,h _ _⟩
theorem Ev.cint{k:IntKind}{d:Dt}(h:Ev P σ x (.dat T d))(hu:P.underlying T=some (.int k)):Ev P σ x (.dat T (.int d.toInt)):=fun ok0 w0 n a w β r=>by have:=h ok0 w0 n a w β r;have e:=(RV.int hu this).1;rw[e]at this;exact this
theorem Ev.cbool{d:Dt}(h:Ev P σ x (.dat T d))(hu:P.underlying T=some .bool):Ev P σ x (.dat T (.bool d.toBool)):=fun ok0 w0 n a w β r=>by have:=h ok0 w0 n a w β r;have e:=(RV.bool hu this).1;rw[e]at this;exact this
theorem Ev.cstr{d:Dt}(h:Ev P σ x (.dat T d))(hu:P.underlying T=some .string):Ev P σ x (.dat T (.str d.toStr)):=fun ok0 w0 n a w β r=>by have:=h ok0 w0 n a w β r;have e:=(RV.str hu this).1;rw[e]at this;exact this
theorem Ev.clst{E:TypeId}{d:Dt}(h:Ev P σ x (.dat T d))(hu:P.underlying T=some (.slice E)):Ev P σ x (.dat T (.lst d.toLst)):=fun ok0 w0 n a w β r=>by have:=h ok0 w0 n a w β r;have e:=(RV.lst hu this).1;rw[e]at this;exact this
theorem bf{d:Nat}(hd:o.dst=some d)(hn:d<n)
  (h:∀(ok0:OkX)(w0:World)(a:Act)(w:World)(β:Nat->Option Value),RelB P ok0 w0 n σ a w β->∃z,(execOp a.eval o).run P w= .ok (.value z) w∧RV P (okOf ok0 w0 w σ.hs β) w β v z):
  bD P n o σ (σ.put d v):=by
 rintro ok0 w0 a w ⟨β,r⟩ K Q hK;obtain⟨z,hz,hv⟩:=h ok0 w0 a w β r;unfold Oper.wp;rw[hz,Oper.upon_value,hd];exact hK _ _ (Rel.put r hn hv)
theorem amw{d:Nat}(ho:o.op= .move x)(hd:o.dst=some d)(hn:d<n)(hx:Ev P σ x v):bD P n o σ (σ.put d v):=
 bf hd hn fun ok0 w0 a w β r=>⟨a.eval x,by simp[execOp,ho],hx _ _ _ _ _ _ r⟩
theorem Wy{d:Nat}(ho:o.op= .assign x)(hd:o.dst=some d)(hn:d<n)(hx:Ev P σ x v):bD P n o σ (σ.put d v):=
 bf hd hn fun ok0 w0 a w β r=>⟨a.eval x,by simp[execOp,ho],hx _ _ _ _ _ _ r⟩
theorem Ib{c z:Operand}{d:Nat}{TB:TypeId}(ho:o.op= .pick c x z)(hd:o.dst=some d)(hn:d<n)(hu:P.underlying TB=some .bool)(hc:Ev P σ c (.dat TB (.bool true)))(hx:Ev P σ x v):bD P n o σ (σ.put d v):=
 bf hd hn fun ok0 w0 a w β r=>⟨a.eval x,by have e:=(RV.bool hu (hc _ _ _ _ _ _ r)).2;simp[execOp,ho,e,Dt.toBool,asBool],hx _ _ _ _ _ _ r⟩
theorem DF{c z:Operand}{d:Nat}{TB:TypeId}(ho:o.op= .pick c z x)(hd:o.dst=some d)(hn:d<n)(hu:P.underlying TB=some .bool)(hc:Ev P σ c (.dat TB (.bool false)))(hx:Ev P σ x v):bD P n o σ (σ.put d v):=
 bf hd hn fun ok0 w0 a w β r=>⟨a.eval x,by have e:=(RV.bool hu (hc _ _ _ _ _ _ r)).2;simp[execOp,ho,e,Dt.toBool,asBool],hx _ _ _ _ _ _ r⟩
theorem asv{d:Nat}{b:Bool}{T':TypeId}(ho:o.op= .unOp .not T' x)(hd:o.dst=some d)(hn:d<n)(hu:P.underlying T=some .bool)(hx:Ev P σ x (.dat T (.bool b))):bD P n o σ (σ.put d (.dat T (.bool (!b)))):=
 bf hd hn fun ok0 w0 a w β r=>⟨.bool (!b),by have e:=(RV.bool hu (hx _ _ _ _ _ _ r)).2;simp[execOp,ho,e,Dt.toBool,Op.unary],RV.mk_bool hu⟩
theorem cB(k:IntKind)(m:Int):k.min<=k.wrap m∧k.wrap m<=k.max:=by cases k<;>simp only[IntKind.wrap,IntKind.min,IntKind.max,IntKind.bits,IntKind.signed]<;>simp<;>(try split)<;>omega
theorem dG{d:Nat}{k:IntKind}{op:BinOp}{T1 T2 T3 T4:TypeId}{p q:Int}{z:Value}(ho:o.op= .binOp op T1 x y T2)(hd:o.dst=some d)(hn:d<n)
  (hu:P.underlying T3=some (.int k))(hu':P.underlying T4=some (.int k))(hx:Ev P σ x (.dat T3 (.int p)))(hy:Ev P σ y (.dat T4 (.int q)))
  (hz:∀w,k.min<=p->p<=k.max->k.min<=q->q<=k.max->(binOp op T1 (.int k p) (.int k q)).run P w= .ok z w)(hv:∀(ok:Nat->Prop)(w:World)(β:Nat->Option Value),RV P ok w β v z):bD P n o σ (σ.put d v):=
 bf hd hn fun ok0 w0 a w β r=>by
  obtain⟨_,e1,b1,b2⟩:=RV.int hu (hx _ _ _ _ _ _ r);obtain⟨_,e2,b3,b4⟩:=RV.int hu' (hy _ _ _ _ _ _ r);simp only[toInt]at e1 e2 b1 b2 b3 b4;refine⟨z,?_,hv _ _ _⟩;have:=hz w b1 b2 b3 b4;unfold execOp;simp only[ho,e1,e2];rw[Sem.run_bind];have hg:(eqGuard op T1 x y (.int k p) (.int k q)).run P w= .ok () w:=by unfold eqGuard;cases op<;>simp
  simp[Sem.run_bind,hg,this]
theorem asw{d:Nat}{k:IntKind}{T1 T2 T3 T4:TypeId}{p q:Int}(ho:o.op= .binOp .add T1 x y T2)(hd:o.dst=some d)(hn:d<n)
  (hu:P.underlying T3=some (.int k))(hu':P.underlying T4=some (.int k))(hx:Ev P σ x (.dat T3 (.int p)))(hy:Ev P σ y (.dat T4 (.int q))):bD P n o σ (σ.put d (.dat T3 (.int (k.wrap (p+q))))):=
 dG ho hd hn hu hu' hx hy (fun w _ _ _ _=>by simp[binOp,Op.intArith]) fun _ _ _=>RV.mk_int hu (cB k _).1 (cB k _).2
theorem asx{d:Nat}{k:IntKind}{T1 T2 T3 T4:TypeId}{p q:Int}(ho:o.op= .binOp .sub T1 x y T2)(hd:o.dst=some d)(hn:d<n)
  (hu:P.underlying T3=some (.int k))(hu':P.underlying T4=some (.int k))(hx:Ev P σ x (.dat T3 (.int p)))(hy:Ev P σ y (.dat T4 (.int q))):bD P n o σ (σ.put d (.dat T3 (.int (k.wrap (p-q))))):=
 dG ho hd hn hu hu' hx hy (fun w _ _ _ _=>by simp[binOp,Op.intArith]) fun _ _ _=>RV.mk_int hu (cB k _).1 (cB k _).2
theorem asy{d:Nat}{k:IntKind}{T1 T2 T3 T4:TypeId}{p q:Int}(ho:o.op= .binOp .mul T1 x y T2)(hd:o.dst=some d)(hn:d<n)
  (hu:P.underlying T3=some (.int k))(hu':P.underlying T4=some (.int k))(hx:Ev P σ x (.dat T3 (.int p)))(hy:Ev P σ y (.dat T4 (.int q))):bD P n o σ (σ.put d (.dat T3 (.int (k.wrap (p*q))))):=
 dG ho hd hn hu hu' hx hy (fun w _ _ _ _=>by simp[binOp,Op.intArith]) fun _ _ _=>RV.mk_int hu (cB k _).1 (cB k _).2
theorem asz{d:Nat}{k:IntKind}{T1 T2 T3 T4:TypeId}{p q:Int}(ho:o.op= .binOp .quo T1 x y T2)(hd:o.dst=some d)(hn:d<n)
  (hu:P.underlying T3=some (.int k))(hu':P.underlying T4=some (.int k))(hx:Ev P σ x (.dat T3 (.int p)))(hy:Ev P σ y (.dat T4 (.int q)))(hq:q≠0):bD P n o σ (σ.put d (.dat T3 (.int (k.wrap (p.tdiv q))))):=
 dG ho hd hn hu hu' hx hy (fun w _ _ _ _=>by simp[binOp,Op.intDiv,hq]) fun _ _ _=>RV.mk_int hu (cB k _).1 (cB k _).2
theorem SH(k:IntKind)(p q:Int)(h1:k.min<=p)(h2:p<=k.max):k.min<=p.tmod q∧p.tmod q<=k.max:=by
 have h0:k.min<=0∧0<=k.max:=by cases k<;>simp[IntKind.min,IntKind.max,IntKind.signed,IntKind.bits]
 rcases Int.le_total 0 p with hp|hp
 ·have a1:=Int.tmod_nonneg q hp;have a2:p.tmod q<=p:=by have:=Int.natAbs_tmod p q;have h3:p.natAbs%q.natAbs<=p.natAbs:=Nat.mod_le _ _;omega
  omega
 ·have a1:p.tmod q<=0:=by have:=Int.tmod_nonneg q (a:= -p) (by omega);rw[Int.neg_tmod]at this;omega
  have a2:p<=p.tmod q:=by have:=Int.natAbs_tmod p q;have h3:p.natAbs%q.natAbs<=p.natAbs:=Nat.mod_le _ _;omega
  omega
theorem asA{d:Nat}{k:IntKind}{T1 T2 T3 T4:TypeId}{p q:Int}(ho:o.op= .binOp .rem T1 x y T2)(hd:o.dst=some d)(hn:d<n)
  (hu:P.underlying T3=some (.int k))(hu':P.underlying T4=some (.int k))(hx:Ev P σ x (.dat T3 (.int p)))(hy:Ev P σ y (.dat T4 (.int q)))(hq:q≠0):bD P n o σ (σ.put d (.dat T3 (.int (p.tmod q)))):=
 bf hd hn fun ok0 w0 a w β r=>by obtain⟨_,e1,b1,b2⟩:=RV.int hu (hx _ _ _ _ _ _ r);obtain⟨_,e2,b3,b4⟩:=RV.int hu' (hy _ _ _ _ _ _ r);simp only[toInt]at e1 e2 b1 b2 b3 b4;refine⟨.int k (p.tmod q),?_,RV.mk_int hu (SH k p q b1 b2).1 (SH k p q b1 b2).2⟩;simp[execOp,ho,e1,e2,eqGuard,binOp,Op.intDiv,hq]
def andI(k:IntKind)(a b:Int):Int:=k.wrap (BitVec.ofInt k.bits a&&& BitVec.ofInt k.bits b).toNat
def orI(k:IntKind)(a b:Int):Int:=k.wrap (BitVec.ofInt k.bits a|||BitVec.ofInt k.bits b).toNat
def xorI(k:IntKind)(a b:Int):Int:=k.wrap (BitVec.ofInt k.bits a^^^BitVec.ofInt k.bits b).toNat
def bicI(k:IntKind)(a b:Int):Int:=k.wrap (BitVec.ofInt k.bits a&&& ~~~BitVec.ofInt k.bits b).toNat
def shlI(k:IntKind)(a:Int)(n:Int):Int:=k.wrap (a*2^(Nat.min n.toNat k.bits))
def shrI(k:IntKind)(a:Int)(n:Int):Int:=a.fdiv (2^(Nat.min n.toNat k.bits))
theorem asB{d:Nat}{k:IntKind}{T1 T2 T3 T4:TypeId}{p q:Int}(ho:o.op= .binOp .and T1 x y T2)(hd:o.dst=some d)(hn:d<n)
  (hu:P.underlying T3=some (.int k))(hu':P.underlying T4=some (.int k))(hx:Ev P σ x (.dat T3 (.int p)))(hy:Ev P σ y (.dat T4 (.int q))):bD P n o σ (σ.put d (.dat T3 (.int (andI k p q)))):=
 dG ho hd hn hu hu' hx hy (fun w _ _ _ _=>by simp[binOp,Op.intBits,andI]) fun _ _ _=>RV.mk_int hu (cB k _).1 (cB k _).2
theorem auO{d:Nat}{k:IntKind}{T1 T2 T3 T4:TypeId}{p q:Int}(ho:o.op= .binOp .or T1 x y T2)(hd:o.dst=some d)(hn:d<n)
  (hu:P.underlying T3=some (.int k))(hu':P.underlying T4=some (.int k))(hx:Ev P σ x (.dat T3 (.int p)))(hy:Ev P σ y (.dat T4 (.int q))):bD P n o σ (σ.put d (.dat T3 (.int (orI k p q)))):=
 dG ho hd hn hu hu' hx hy (fun w _ _ _ _=>by simp[binOp,Op.intBits,orI]) fun _ _ _=>RV.mk_int hu (cB k _).1 (cB k _).2
theorem asC{d:Nat}{k:IntKind}{T1 T2 T3 T4:TypeId}{p q:Int}(ho:o.op= .binOp .xor T1 x y T2)(hd:o.dst=some d)(hn:d<n)
  (hu:P.underlying T3=some (.int k))(hu':P.underlying T4=some (.int k))(hx:Ev P σ x (.dat T3 (.int p)))(hy:Ev P σ y (.dat T4 (.int q))):bD P n o σ (σ.put d (.dat T3 (.int (xorI k p q)))):=
 dG ho hd hn hu hu' hx hy (fun w _ _ _ _=>by simp[binOp,Op.intBits,xorI]) fun _ _ _=>RV.mk_int hu (cB k _).1 (cB k _).2
theorem asD{d:Nat}{k:IntKind}{T1 T2 T3 T4:TypeId}{p q:Int}(ho:o.op= .binOp .andNot T1 x y T2)(hd:o.dst=some d)(hn:d<n)
  (hu:P.underlying T3=some (.int k))(hu':P.underlying T4=some (.int k))(hx:Ev P σ x (.dat T3 (.int p)))(hy:Ev P σ y (.dat T4 (.int q))):bD P n o σ (σ.put d (.dat T3 (.int (bicI k p q)))):=
 dG ho hd hn hu hu' hx hy (fun w _ _ _ _=>by simp[binOp,Op.intBits,bicI]) fun _ _ _=>RV.mk_int hu (cB k _).1 (cB k _).2
theorem abO(k:IntKind)(a n:Int)(h1:k.min<=a)(h2:a<=k.max):k.min<=shrI k a n∧shrI k a n<=k.max:=by
 have h0:k.min<=0∧0<=k.max:=by cases k<;>simp[IntKind.min,IntKind.max,IntKind.signed,IntKind.bits]
 unfold shrI;have hp:(1:Int)<=2^(Nat.min n.toNat k.bits):=by
  have:0<2^(Nat.min n.toNat k.bits):=Nat.pow_pos (by omega);have h:((2^(Nat.min n.toNat k.bits):Nat):Int)=(2:Int)^(Nat.min n.toNat k.bits):=by simp
  omega
 generalize (2:Int)^(Nat.min n.toNat k.bits)=c at hp;have hd:=Int.mul_fdiv_add_fmod a c;have hm:=Int.fmod_nonneg_of_pos a (b:=c) (by omega);have hm2:=Int.fmod_lt_of_pos a (b:=c) (by omega);generalize a.fdiv c=t at hd;generalize a.fmod c=u at*
 rcases Int.le_total 0 a with ha|ha
 ·have ht:0<=t:=by
   rcases Int.le_total 0 t with h|h;·exact h
   ·    rcases Int.lt_or_le t 0 with h4|h4
        ·have:=Int.mul_le_mul_of_nonneg_left (show t<= -1 by omega) (show (0:Int)<=c by omega);omega
        ·exact h4
  have:=Int.mul_le_mul_of_nonneg_right hp ht;omega
 ·have ht:t<=0:=by
   rcases Int.le_total t 0 with h|h;·exact h
   ·    rcases Int.lt_or_le 0 t with h4|h4
        ·have:=Int.mul_le_mul_of_nonneg_left (show 1<=t by omega) (show (0:Int)<=c by omega);omega
        ·exact h4
  have h3:=Int.mul_le_mul_of_nonpos_right hp ht;refine⟨?_,by omega⟩;rcases Int.lt_or_le t a with h|h
  ·exfalso;have:=Int.mul_le_mul_of_nonneg_left (show t<=a-1 by omega) (show (0:Int)<=c by omega);have h5:=Int.mul_le_mul_of_nonpos_right hp ha;rw[Int.mul_sub,Int.mul_one]at this;omega
  ·omega
theorem aoP{d:Nat}{k k':IntKind}{T1 T2 T3 T4:TypeId}{p q:Int}{op:BinOp}{z:Int}(ho:o.op= .binOp op T1 x y T2)(hd:o.dst=some d)(hn:d<n)
  (hu:P.underlying T3=some (.int k))(hu':P.underlying T4=some (.int k'))(hx:Ev P σ x (.dat T3 (.int p)))(hy:Ev P σ y (.dat T4 (.int q)))(hq:0<=q)(hop:(op= .shl∧z=shlI k p q)∨(op= .shr∧z=shrI k p q)):bD P n o σ (σ.put d (.dat T3 (.int z))):=
 bf hd hn fun ok0 w0 a w β r=>by
  obtain⟨_,e1,b1,b2⟩:=RV.int hu (hx _ _ _ _ _ _ r);obtain⟨_,e2,b3,b4⟩:=RV.int hu' (hy _ _ _ _ _ _ r);simp only[toInt]at e1 e2 b1 b2 b3 b4;have hq':¬q<0:=by omega
  rcases hop with⟨rfl,rfl⟩| ⟨rfl,rfl⟩;·exact⟨.int k (shlI k p q),by simp[execOp,ho,e1,e2,eqGuard,binOp,Op.shift,hq',shlI],RV.mk_int hu (cB k _).1 (cB k _).2⟩
  ·exact⟨.int k (shrI k p q),by simp[execOp,ho,e1,e2,eqGuard,binOp,Op.shift,hq',shrI],RV.mk_int hu (abO k p q b1 b2).1 (abO k p q b1 b2).2⟩
theorem asE{d:Nat}{k:IntKind}{T1 T2 T3 T4 TB:TypeId}{p q:Int}(ho:o.op= .binOp .lss T1 x y T2)(hd:o.dst=some d)(hn:d<n)(hb:P.underlying TB=some .bool)
  (hu:P.underlying T3=some (.int k))(hu':P.underlying T4=some (.int k))(hx:Ev P σ x (.dat T3 (.int p)))(hy:Ev P σ y (.dat T4 (.int q))):bD P n o σ (σ.put d (.dat TB (.bool (decide (p<q))))):=
 dG ho hd hn hu hu' hx hy (fun w _ _ _ _=>by simp[binOp,Op.intCmp]) fun _ _ _=>RV.mk_bool hb
theorem asF{d:Nat}{k:IntKind}{T1 T2 T3 T4 TB:TypeId}{p q:Int}(ho:o.op= .binOp .leq T1 x y T2)(hd:o.dst=some d)(hn:d<n)(hb:P.underlying TB=some .bool)
  (hu:P.underlying T3=some (.int k))(hu':P.underlying T4=some (.int k))(hx:Ev P σ x (.dat T3 (.int p)))(hy:Ev P σ y (.dat T4 (.int q))):bD P n o σ (σ.put d (.dat TB (.bool (decide (p<=q))))):=
 dG ho hd hn hu hu' hx hy (fun w _ _ _ _=>by simp[binOp,Op.intCmp]) fun _ _ _=>RV.mk_bool hb
theorem asG{d:Nat}{k:IntKind}{T1 T2 T3 T4 TB:TypeId}{p q:Int}(ho:o.op= .binOp .gtr T1 x y T2)(hd:o.dst=some d)(hn:d<n)(hb:P.underlying TB=some .bool)
  (hu:P.underlying T3=some (.int k))(hu':P.underlying T4=some (.int k))(hx:Ev P σ x (.dat T3 (.int p)))(hy:Ev P σ y (.dat T4 (.int q))):bD P n o σ (σ.put d (.dat TB (.bool (decide (q<p))))):=
 dG ho hd hn hu hu' hx hy (fun w _ _ _ _=>by simp[binOp,Op.intCmp]) fun _ _ _=>RV.mk_bool hb
theorem asH{d:Nat}{k:IntKind}{T1 T2 T3 T4 TB:TypeId}{p q:Int}(ho:o.op= .binOp .geq T1 x y T2)(hd:o.dst=some d)(hn:d<n)(hb:P.underlying TB=some .bool)
  (hu:P.underlying T3=some (.int k))(hu':P.underlying T4=some (.int k))(hx:Ev P σ x (.dat T3 (.int p)))(hy:Ev P σ y (.dat T4 (.int q))):bD P n o σ (σ.put d (.dat TB (.bool (decide (q<=p))))):=
 dG ho hd hn hu hu' hx hy (fun w _ _ _ _=>by simp[binOp,Op.intCmp]) fun _ _ _=>RV.mk_bool hb
theorem asI{d:Nat}{k:IntKind}{T1 T2 T3 T4 TB:TypeId}{p q:Int}(ho:o.op= .binOp .eql T1 x y T2)(hd:o.dst=some d)(hn:d<n)(hb:P.underlying TB=some .bool)
  (hu:P.underlying T3=some (.int k))(hu':P.underlying T4=some (.int k))(hx:Ev P σ x (.dat T3 (.int p)))(hy:Ev P σ y (.dat T4 (.int q))):bD P n o σ (σ.put d (.dat TB (.bool (p==q)))):=
 dG ho hd hn hu hu' hx hy (fun w _ _ _ _=>by simp[binOp,Op.intCmp]) fun _ _ _=>RV.mk_bool hb
theorem asJ{d:Nat}{k:IntKind}{T1 T2 T3 T4 TB:TypeId}{p q:Int}(ho:o.op= .binOp .neq T1 x y T2)(hd:o.dst=some d)(hn:d<n)(hb:P.underlying TB=some .bool)
  (hu:P.underlying T3=some (.int k))(hu':P.underlying T4=some (.int k))(hx:Ev P σ x (.dat T3 (.int p)))(hy:Ev P σ y (.dat T4 (.int q))):bD P n o σ (σ.put d (.dat TB (.bool (p !=q)))):=
 dG ho hd hn hu hu' hx hy (fun w _ _ _ _=>by simp[binOp,Op.intCmp]) fun _ _ _=>RV.mk_bool hb
theorem mX{d:Nat}{op:BinOp}{T1 T2 T3 T4:TypeId}{p q:ByteArray}{z:Value}(ho:o.op= .binOp op T1 x y T2)(hd:o.dst=some d)(hn:d<n)
  (hu:P.underlying T3=some .string)(hu':P.underlying T4=some .string)(hx:Ev P σ x (.dat T3 (.str p)))(hy:Ev P σ y (.dat T4 (.str q)))
  (hz:∀w,p.size<=maxLen->q.size<=maxLen->(binOp op T1 (.string p) (.string q)).run P w= .ok z w)(hv:∀(ok:Nat->Prop)(w:World)(β:Nat->Option Value),RV P ok w β v z):bD P n o σ (σ.put d v):=
 bf hd hn fun ok0 w0 a w β r=>by
  obtain⟨_,e1,b1⟩:=RV.str hu (hx _ _ _ _ _ _ r);obtain⟨_,e2,b2⟩:=RV.str hu' (hy _ _ _ _ _ _ r);simp only[toStr]at e1 e2 b1 b2;refine⟨z,?_,hv _ _ _⟩;have:=hz w b1 b2;unfold execOp;simp only[ho,e1,e2];rw[Sem.run_bind];have hg:(eqGuard op T1 x y (.string p) (.string q)).run P w= .ok () w:=by unfold eqGuard;cases op<;>simp
  simp[Sem.run_bind,hg,this]
theorem asK{d:Nat}{T1 T2 T3 T4 TB:TypeId}{p q:ByteArray}(ho:o.op= .binOp .eql T1 x y T2)(hd:o.dst=some d)(hn:d<n)(hb:P.underlying TB=some .bool)
  (hu:P.underlying T3=some .string)(hu':P.underlying T4=some .string)(hx:Ev P σ x (.dat T3 (.str p)))(hy:Ev P σ y (.dat T4 (.str q))):bD P n o σ (σ.put d (.dat TB (.bool (p.toList==q.toList)))):=
 mX ho hd hn hu hu' hx hy (fun w _ _=>by simp[binOp,Op.stringOp]) fun _ _ _=>RV.mk_bool hb
theorem asL{d:Nat}{T1 T2 T3 T4 TB:TypeId}{p q:ByteArray}(ho:o.op= .binOp .neq T1 x y T2)(hd:o.dst=some d)(hn:d<n)(hb:P.underlying TB=some .bool)
  (hu:P.underlying T3=some .string)(hu':P.underlying T4=some .string)(hx:Ev P σ x (.dat T3 (.str p)))(hy:Ev P σ y (.dat T4 (.str q))):bD P n o σ (σ.put d (.dat TB (.bool (!(p.toList==q.toList))))):=
 mX ho hd hn hu hu' hx hy (fun w _ _=>by simp[binOp,Op.stringOp]) fun _ _ _=>RV.mk_bool hb
theorem asM{d:Nat}{T1 T2 T3 T4 TB:TypeId}{p q:ByteArray}(ho:o.op= .binOp .lss T1 x y T2)(hd:o.dst=some d)(hn:d<n)(hb:P.underlying TB=some .bool)
  (hu:P.underlying T3=some .string)(hu':P.underlying T4=some .string)(hx:Ev P σ x (.dat T3 (.str p)))(hy:Ev P σ y (.dat T4 (.str q))):bD P n o σ (σ.put d (.dat TB (.bool (Op.bytesLess p.toList q.toList)))):=
 mX ho hd hn hu hu' hx hy (fun w _ _=>by simp[binOp,Op.stringOp]) fun _ _ _=>RV.mk_bool hb
theorem asN{d:Nat}{T1 T2 T3 T4:TypeId}{p q:ByteArray}(ho:o.op= .binOp .add T1 x y T2)(hd:o.dst=some d)(hn:d<n)
  (hu:P.underlying T3=some .string)(hu':P.underlying T4=some .string)(hx:Ev P σ x (.dat T3 (.str p)))(hy:Ev P σ y (.dat T4 (.str q)))(hs:p.size+q.size<=maxLen):bD P n o σ (σ.put d (.dat T3 (.str (p++q)))):=
 mX ho hd hn hu hu' hx hy (fun w _ _=>by
  have h63:¬(((p.size+q.size:Nat):Int)>IntKind.i64.max):=by unfold maxLen at hs;simp only[IntKind.max,IntKind.signed,IntKind.bits];simp;omega
  simp only[binOp,Op.stringOp,h63,if_false,Sem.run_pure]) fun _ _ _=>RV.mk_str hu (by rw[ByteArray.size_append];exact hs)
theorem run_equalIn_bool(w:World){T1:TypeId}(h1:P.underlying T1=some .bool)(d:Nat)(p q:Bool):(Op.equalIn (d+1) T1 (.bool p) (.bool q)).run P w= .ok (p==q) w:=by simp[Op.equalIn,run_underlying h1]
theorem amx(w:World){T1:TypeId}(h1:P.underlying T1=some .bool)(p q:Bool):(binOp .eql T1 (.bool p) (.bool q)).run P w= .ok (.bool (p==q)) w:=by simp only[binOp];simp[Op.equal,Op.maxDepth,run_equalIn_bool w h1 9999]
theorem amy(w:World){T1:TypeId}(h1:P.underlying T1=some .bool)(p q:Bool):(binOp .neq T1 (.bool p) (.bool q)).run P w= .ok (.bool (!(p==q))) w:=by simp only[binOp];simp[Op.equal,Op.maxDepth,run_equalIn_bool w h1 9999]
theorem jX(w:World)(op:BinOp)(T1:TypeId)(x y:Operand)(p q:Bool):(eqGuard op T1 x y (.bool p) (.bool q)).run P w= .ok () w:=by unfold eqGuard;cases op<;>simp
theorem asO{d:Nat}{T1 T2 T3 T4 TB:TypeId}{p q:Bool}(ho:o.op= .binOp .eql T1 x y T2)(hd:o.dst=some d)(hn:d<n)(hb:P.underlying TB=some .bool)(h1:P.underlying T1=some .bool)
  (hu:P.underlying T3=some .bool)(hu':P.underlying T4=some .bool)(hx:Ev P σ x (.dat T3 (.bool p)))(hy:Ev P σ y (.dat T4 (.bool q))):bD P n o σ (σ.put d (.dat TB (.bool (p==q)))):=
 bf hd hn fun ok0 w0 a w β r=>by have e1:=(RV.bool hu (hx _ _ _ _ _ _ r)).2;have e2:=(RV.bool hu' (hy _ _ _ _ _ _ r)).2;simp only[Dt.toBool]at e1 e2;refine⟨.bool (p==q),?_,RV.mk_bool hb⟩;simp only[execOp,ho,e1,e2,Sem.run_bind,jX,Result.andThen_ok,amx w h1,Sem.run_pure]
theorem asP{d:Nat}{T1 T2 T3 T4 TB:TypeId}{p q:Bool}(ho:o.op= .binOp .neq T1 x y T2)(hd:o.dst=some d)(hn:d<n)(hb:P.underlying TB=some .bool)(h1:P.underlying T1=some .bool)
  (hu:P.underlying T3=some .bool)(hu':P.underlying T4=some .bool)(hx:Ev P σ x (.dat T3 (.bool p)))(hy:Ev P σ y (.dat T4 (.bool q))):bD P n o σ (σ.put d (.dat TB (.bool (!(p==q))))):=
 bf hd hn fun ok0 w0 a w β r=>by have e1:=(RV.bool hu (hx _ _ _ _ _ _ r)).2;have e2:=(RV.bool hu' (hy _ _ _ _ _ _ r)).2;simp only[Dt.toBool]at e1 e2;refine⟨.bool (!(p==q)),?_,RV.mk_bool hb⟩;simp only[execOp,ho,e1,e2,Sem.run_bind,jX,Result.andThen_ok,amy w h1,Sem.run_pure]
theorem asQ{d:Nat}{k:IntKind}{T1 T3:TypeId}{p:Int}(ho:o.op= .unOp .neg T1 x)(hd:o.dst=some d)(hn:d<n)
  (hu:P.underlying T3=some (.int k))(hx:Ev P σ x (.dat T3 (.int p))):bD P n o σ (σ.put d (.dat T3 (.int (k.wrap (0-p))))):=
 bf hd hn fun ok0 w0 a w β r=>by obtain⟨_,e1,_⟩:=RV.int hu (hx _ _ _ _ _ _ r);simp only[toInt]at e1;exact⟨_,by simp[execOp,ho,e1,Op.unary,Op.intArith],RV.mk_int hu (cB k _).1 (cB k _).2⟩
def complI(k:IntKind)(a:Int):Int:=xorI k (if k.signed then -1 else k.max) a
theorem abP{d:Nat}{k:IntKind}{T1 T3:TypeId}{p:Int}(ho:o.op= .unOp .xor T1 x)(hd:o.dst=some d)(hn:d<n)
  (hu:P.underlying T3=some (.int k))(hx:Ev P σ x (.dat T3 (.int p))):bD P n o σ (σ.put d (.dat T3 (.int (complI k p)))):=
 bf hd hn fun ok0 w0 a w β r=>by obtain⟨_,e1,_⟩:=RV.int hu (hx _ _ _ _ _ _ r);simp only[toInt]at e1;exact⟨_,by simp[execOp,ho,e1,Op.unary,Op.intBits,complI,xorI],RV.mk_int hu (cB k _).1 (cB k _).2⟩
theorem Km{d:Nat}{k k':IntKind}{S1 S2 T3:TypeId}{p:Int}(ho:o.op= .convert S1 S2 x)(hd:o.dst=some d)(hn:d<n)(h1:P.underlying S1=some (.int k))(h2:P.underlying S2=some (.int k'))
  (hu:P.underlying T3=some (.int k))(hx:Ev P σ x (.dat T3 (.int p))):bD P n o σ (σ.put d (.dat S2 (.int (k'.wrap p)))):=
 bf hd hn fun ok0 w0 a w β r=>by obtain⟨_,e1,_⟩:=RV.int hu (hx _ _ _ _ _ _ r);simp only[toInt]at e1;exact⟨_,by simp[execOp,ho,e1,convert,run_underlying h1,run_underlying h2,Conv.intToInt],RV.mk_int h2 (cB k' _).1 (cB k' _).2⟩
theorem Kn{d:Nat}{S1 S2 T3:TypeId}{p:ByteArray}(ho:o.op= .convert S1 S2 x)(hd:o.dst=some d)(hn:d<n)(h1:P.underlying S1=some .string)(h2:P.underlying S2=some .string)
  (hu:P.underlying T3=some .string)(hx:Ev P σ x (.dat T3 (.str p))):bD P n o σ (σ.put d (.dat S2 (.str p))):=
 bf hd hn fun ok0 w0 a w β r=>by obtain⟨_,e1,b1⟩:=RV.str hu (hx _ _ _ _ _ _ r);simp only[toStr]at e1 b1;exact⟨_,by simp[execOp,ho,e1,convert,run_underlying h1,run_underlying h2],RV.mk_str h2 b1⟩
theorem gI{m:Nat}(h:m<=maxLen):IntKind.i64.min<=(m:Int)∧(m:Int)<=IntKind.i64.max:=by unfold maxLen at h;simp only[IntKind.min,IntKind.max,IntKind.signed,IntKind.bits];simp;omega
theorem Qh{d:Nat}{T3 TI T4:TypeId}{p:ByteArray}(ho:o.op= .call {callee:= .builtin .len,args:= #[x],argTypes:= #[T4]})(hd:o.dst=some d)(hn:d<n)
  (hi:P.underlying TI=some (.int .i64))(hu4:P.underlying T4=some .string)(hu:P.underlying T3=some .string)(hx:Ev P σ x (.dat T3 (.str p))):bD P n o σ (σ.put d (.dat TI (.int (p.size:Int)))):=
 bf hd hn fun ok0 w0 a w β r=>by obtain⟨_,e1,b1⟩:=RV.str hu (hx _ _ _ _ _ _ r);simp only[toStr]at e1 b1;exact⟨.int .i64 (p.size:Int),by simp[execOp,ho,e1,resolve,invoke,builtin,Builtin.len_,run_underlying hu4,goInt],RV.mk_int hi (gI b1).1 (gI b1).2⟩
theorem Bq{d:Nat}{T3 TI T4 E E':TypeId}{es:List Dt}(ho:o.op= .call {callee:= .builtin .len,args:= #[x],argTypes:= #[T4]})(hd:o.dst=some d)(hn:d<n)
  (hi:P.underlying TI=some (.int .i64))(hu4:P.underlying T4=some (.slice E'))(hu:P.underlying T3=some (.slice E))(hx:Ev P σ x (.dat T3 (.lst es))):bD P n o σ (σ.put d (.dat TI (.int (es.length:Int)))):=
 bf hd hn fun ok0 w0 a w β r=>by obtain⟨_,_,a0,cap,e1,b1,b2⟩:=RV.lst hu (hx _ _ _ _ _ _ r);simp only[toLst]at e1 b1 b2;exact⟨.int .i64 (es.length:Int),by simp[execOp,ho,e1,resolve,invoke,builtin,Builtin.len_,run_underlying hu4,goInt],RV.mk_int hi (gI (by omega)).1 (gI (by omega)).2⟩
theorem bZ{ok:Nat->Prop}{w:World}{β:Nat->Option Value}{l:Nat}{z:Value}(h:RV P ok w β (.row l) z):β l=some z:=by
 have h':=h.2 rfl;cases h' with
 |row h=>exact h
theorem iF{ok:Nat->Prop}{w:World}{β:Nat->Option Value}{es:List Dt}{z:Value}(h:ObOK P ok w β (.row T es) (some z)):∃(E:TypeId)(xs:List Value),P.underlying T=some (.slice E)∧w.ownsRow 0 E (P.cellsOf E) z es.length xs∧(∀c∈xs,c.oneCell'=true)∧
  ∀(i:Nat)(d:Dt),es[i]? =some d->RD P ok w E d ((xs.drop (i*P.cellsOf E)).take (P.cellsOf E)):=by
 obtain⟨E,z',xs,e,h⟩:=h;cases e;exact⟨E,xs,h⟩
theorem Qi{d l:Nat}{TI T4 E' T3:TypeId}{es:List Dt}(ho:o.op= .call {callee:= .builtin .len,args:= #[x],argTypes:= #[T4]})(hd:o.dst=some d)(hn:d<n)
  (hi:P.underlying TI=some (.int .i64))(hu4:P.underlying T4=some (.slice E'))(hx:Ev P σ x (.row l))(hl:lk σ.hs l= .row T3 es):bD P n o σ (σ.put d (.dat TI (.int (es.length:Int)))):=
 bf hd hn fun ok0 w0 a w β r=>by
  have e1:=bZ (hx _ _ _ _ _ _ r);have hob:=r.hs l;rw[hl,e1]at hob;obtain⟨E,xs,_,hown,_⟩:=iF hob;have hz:∃a0 cap,a.eval x= .slice a0 es.length cap∧es.length<=maxLen:=by
   rcases hown.2 with⟨h1,h2⟩| ⟨g,cap,cur,h1,_,_,h3,h4,_⟩;·exact⟨none,0,by rw[h1,h2],by rw[h2];exact aN _⟩
   ·exact⟨_,cap,h1,by omega⟩
  obtain⟨a0,cap,e2,b⟩:=hz;exact⟨.int .i64 (es.length:Int),by simp[execOp,ho,e2,resolve,invoke,builtin,Builtin.len_,run_underlying hu4,goInt],RV.mk_int hi (gI b).1 (gI b).2⟩
theorem Ev.frz{l:Nat}{es:List Dt}(h:Ev P σ x (.row l))(hl:lk σ.hs l= .frz T es):Ev P σ x (.dat T (.lst es)):=fun ok0 w0 n a w β r=>by have e:=bZ (h _ _ _ _ _ _ r);have hob:=r.hs l;rw[hl,e]at hob;obtain⟨z,e2,hu,hr⟩:=hob;cases e2;exact(RV.dat_one hu).2 hr
theorem Ic{d:Nat}{T3 T4 TI TU:TypeId}{p:ByteArray}{i:Int}{k:IntKind}(ho:o.op= .index T4 x y)(hd:o.dst=some d)(hn:d<n)(hi:P.underlying TI=some (.int k))(hub:P.underlying TU=some (.int .u8))
  (hu4:P.underlying T4=some .string)(hu:P.underlying T3=some .string)(hx:Ev P σ x (.dat T3 (.str p)))(hy:Ev P σ y (.dat TI (.int i))){c:UInt8}(h0:0<=i)(hc:p[i.toNat]? =some c):
  bD P n o σ (σ.put d (.dat TU (.int (c.toNat:Int)))):=
 bf hd hn fun ok0 w0 a w β r=>by
  obtain⟨_,e1,b1⟩:=RV.str hu (hx _ _ _ _ _ _ r);obtain⟨_,e2,_⟩:=RV.int hi (hy _ _ _ _ _ _ r);simp only[toStr,toInt]at e1 e2 b1;refine⟨.int .u8 (c.toNat:Int),by simp[execOp,ho,e1,e2,Instr.index,asIntOf,run_underlying hu4,h0,hc],RV.mk_int hub ?_ ?_⟩;·simp[IntKind.min,IntKind.signed]
  ·have:=c.toNat_lt;simp[IntKind.max,IntKind.signed,IntKind.bits];omega
theorem Qj{d i:Nat}{vs:List AV}(ho:o.op= .extract x i)(hd:o.dst=some d)(hn:d<n)(hx:Ev P σ x (.tup vs))(hv:vs[i]? =some v)(ht:∀us,v≠ .tup us):bD P n o σ (σ.put d v):=
 bf hd hn fun ok0 w0 a w β r=>by
  obtain⟨arr,e,hs,h⟩:=hx _ _ _ _ _ _ r;have hi:i<arr.size:=by rw[hs];exact(ak.1 hv).1
  refine⟨arr.getD i undef,?_,(h i v hv).toRV ht⟩;simp[execOp,ho,e,Instr.extract,Array.getD,hi]
end
end Go.Am
namespace Go.Am
open Go.RowKit
section
variable{P:Program}{n:Nat}{o:Oper}{σ σ':St}{x y:Operand}{v:AV}{T:TypeId}
theorem RV1.cells{ok:Nat->Prop}{w:World}{β:Nat->Option Value}{z:Value}(h:RV1 P ok w β v z):RA P ok w β v z.cells.toList:=by
 cases hi:v.isAgg P with
 |true=>
  obtain⟨cs,rfl,hr⟩:=h.1 hi;simpa [Value.cells]using hr
 |false=>
  have hr:=h.2 hi;have h1:=hr.oneCell z (by simp);cases z<;>first|exact hr|simp[Value.oneCell']at h1
theorem iG(w:World)(c:Array Value)(t:TypeId):(w.alloc (.cells c t)).heap[w.heap.size]? =some (.cells c t (0,0)):=heap_alloc_new w _
theorem Rel.newBox{ok0:OkX}{w0 w:World}{a:Act}{β:Nat->Option Value}(r:RelB P ok0 w0 n σ a w β){l:Nat}(hf:lk σ.hs l= .free)(hk0:σ.k0<=l){c:Array Value}(hs:c.size=P.cellsOf T)
  (hc:RA P (okOf ok0 w0 w σ.hs β) w β v c.toList):
  RelB P ok0 w0 n (σ.lay l (.box T v)) a (w.alloc (.cells c T)) (upB β l (some (.pointer (some ⟨w.heap.size,0,none⟩)))):=by
 have hfree:=r.hs l;rw[hf]at hfree;refine r.upd l (.box T v) _ _ (.inr ⟨hfree,hk0⟩) rfl rfl rfl (by simp) (fun b hb _=>Below.heap_alloc w _ b hb) (fun z b _ hz hb=> .inl (by cases hz;simp[Blk,blk]at hb;omega)) fun hx hk=>?_;exact⟨w.heap.size,c,rfl,iG w c T,hs,hc.mono hk hx⟩
theorem Qk{ok:Nat->Prop}{w:World}{β:Nat->Option Value}{l b off:Nat}{path:List Nat}(h:β l=some (.pointer (some ⟨b,0,none⟩))):RV P ok w β (.ptr l path off) (.pointer (some ⟨b,off,none⟩)):=
 ⟨fun hi=>by simp[AV.isAgg]at hi,fun _=> .ptr h⟩
theorem asR{d l:Nat}(ho:o.op= .box T x)(hd:o.dst=some d)(hn:d<n)(hf:lk σ.hs l= .free)(hk0:σ.k0<=l)(hx:Ev P σ x v)(h0:v≠ .dead)(h1:∀vs,v≠ .tup vs)
  (hs:∀(ok:Nat->Prop)(w:World)(β:Nat->Option Value)(cs:List Value),RA P ok w β v cs->(v.isAgg P=false->cs.length=1)->cs.length=P.cellsOf T):
  bD P n o σ ((σ.lay l (.box T v)).put d (.ptr l [] 0)):=by
 rintro ok0 w0 a w ⟨β,r⟩ K Q hK;have hv1:=RV.to1 h0 h1 (hx _ _ _ _ _ _ r);have hc:=hv1.cells;have hsz:(a.eval x).cells.size=P.cellsOf T:=by
  have:=hs _ _ _ _ hc (fun hi=>by have hr:=hv1.2 hi;have h1':=hr.oneCell (a.eval x) (by simp);generalize a.eval x=z at h1';cases z<;>simp_all [Value.cells,Value.oneCell'])
  simpa using this
 unfold Oper.wp execOp;simp only[ho,Instr.box,newVar,newRow,newObj,Sem.run_bind];refine hK _ _ ?_;rw[hd];exact Rel.put (Rel.newBox r hf hk0 hsz hc) hn (Qk (bJ _ _ _))
structure Zero (P:Program) (T:TypeId) (d:Dt):Prop where
 ex:∃(i:TypeInfo)(z:Value),P.info? T=some i∧i.zero=some z∧z.cells.size=P.cellsOf T∧∀(ok:Nat->Prop)(w:World),RD P ok w T d z.cells.toList
structure ZeroA (P:Program) (T:TypeId) (v:AV):Prop where
 ex:∃(i:TypeInfo)(z:Value),P.info? T=some i∧i.zero=some z∧z.cells.size=P.cellsOf T∧∀(ok:Nat->Prop)(w:World)(β:Nat->Option Value),RA P ok w β v z.cells.toList
theorem abQ{d l:Nat}(ho:o.op= .alloc T)(hd:o.dst=some d)(hn:d<n)(hf:lk σ.hs l= .free)(hk0:σ.k0<=l)(hz:ZeroA P T v):
  bD P n o σ ((σ.lay l (.box T v)).put d (.ptr l [] 0)):=by
 rintro ok0 w0 a w ⟨β,r⟩ K Q hK;obtain⟨i,zv,hi,hzv,hsz,hrd⟩:=hz.ex;have hrun:(Instr.alloc T true (.tuple #[])).run P w= .ok (.pointer (some ⟨w.heap.size,0,none⟩)) (w.alloc (.cells zv.cells T)):=by simp[Instr.alloc,zeroValue,typeInfo,hi,hzv,newVar,newRow]
 unfold Oper.wp execOp;simp only[ho,Sem.run_bind,hrun,Result.andThen_ok,Sem.run_pure];refine hK _ _ ?_;rw[hd];exact Rel.put (Rel.newBox r hf hk0 hsz (hrd _ _ _)) hn (Qk (bJ _ _ _))
theorem iY(w:World){S:TypeId}{fs:Array Field}{i:Nat}{f:Field}(hu:P.underlying S=some (.struct fs))(hf:fs[i]? =some f)(hc:P.cellsOf f.type≠0)(ad:Addr):
  (Instr.fieldAt S (.pointer (some ad)) i).run P w= .ok (.pointer (some (ad.add f.offset))) w:=by
 cases hi:P.info? f.type with
 |none=>simp[Program.cellsOf,hi]at hc
 |some inf=>
  have hz:inf.size≠0:=by simpa [Program.cellsOf,hi]using hc
  simp[Instr.fieldAt,run_underlying hu,hf,Instr.sureAddr,fieldPlace,sizeOf,typeInfo,hi,hz]
theorem uP{d l i off:Nat}{path:List Nat}{S:TypeId}{fs:Array Field}{f:Field}(ho:o.op= .fieldAddr S x i)(hd:o.dst=some d)(hn:d<n)(hu:P.underlying S=some (.struct fs))(hf:fs[i]? =some f)
  (hc:P.cellsOf f.type≠0)(hx:Ev P σ x (.ptr l path off)):bD P n o σ (σ.put d (.ptr l (path++[i]) (off+f.offset))):=
 bf hd hn fun ok0 w0 a w β r=>by
  have h:=(hx _ _ _ _ _ _ r).2 rfl;generalize hz:a.eval x=z at h;cases h with
  | @ptr _ b _ _ hb=>
    refine⟨_,?_,Qk hb⟩;simp only[execOp,ho,hz,Sem.run_bind,iY w hu hf hc,Result.andThen_ok,Sem.run_pure,eP]
theorem xJ{ok:Nat->Prop}{w:World}{β:Nat->Option Value}{l i sz b m cap off:Nat}{path:List Nat}(h:β l=some (.slice (some ⟨b,0,none⟩) m cap)):RV P ok w β (.eptr l i sz path off) (.pointer (some ⟨b,i*sz+off,none⟩)):=
 ⟨fun hi=>by simp[AV.isAgg]at hi,fun _=> .eptr h⟩
theorem Ko{ok:Nat->Prop}{w:World}{β:Nat->Option Value}{l i sz b off:Nat}{path:List Nat}(h:β l=some (.pointer (some ⟨b,0,none⟩))):RV P ok w β (.eptr l i sz path off) (.pointer (some ⟨b,i*sz+off,none⟩)):=
 ⟨fun hi=>by simp[AV.isAgg]at hi,fun _=> .eptrB h⟩
theorem rU{d l i j sz off:Nat}{path:List Nat}{S:TypeId}{fs:Array Field}{f:Field}(ho:o.op= .fieldAddr S x i)(hd:o.dst=some d)(hn:d<n)(hu:P.underlying S=some (.struct fs))(hf:fs[i]? =some f)
  (hc:P.cellsOf f.type≠0)(hx:Ev P σ x (.eptr l j sz path off)):bD P n o σ (σ.put d (.eptr l j sz (path++[i]) (off+f.offset))):=
 bf hd hn fun ok0 w0 a w β r=>by
  have h:=(hx _ _ _ _ _ _ r).2 rfl;generalize hz:a.eval x=z at h;cases h with
  | @eptr _ _ _ b m cap _ _ hb=>
    refine⟨_,?_,xJ hb⟩;simp only[execOp,ho,hz,Sem.run_bind,iY w hu hf hc,Result.andThen_ok,Sem.run_pure,eP,Nat.add_assoc]
  | @eptrB _ _ _ b _ _ hb=>
    refine⟨_,?_,Ko hb⟩;simp only[execOp,ho,hz,Sem.run_bind,iY w hu hf hc,Result.andThen_ok,Sem.run_pure,eP,Nat.add_assoc]
theorem xK{ok:Nat->Prop}{w:World}{β:Nat->Option Value}{d:Dt}{ad:Addr}{cs:List Value}(ho:ok ad.block)(hl:cs.length=P.cellsOf T)(hc:∀j v,cs[j]? =some v->w.cell? (ad.add j)=some v)(h:RD P ok w T d cs):
 RV P ok w β (.rptr T d) (.pointer (some ad)):=⟨fun hi=>by simp[AV.isAgg]at hi,fun _=> .rptr ho hl hc h⟩
theorem iZ{d i:Nat}{S:TypeId}{fs:Array Field}{f:Field}{e:Dt}(ho:o.op= .fieldAddr S x i)(hd:o.dst=some d)(hn:d<n)(hu:P.underlying S=some (.struct fs))(hf:fs[i]? =some f)
  (hc:P.cellsOf f.type≠0)(hb:f.offset+P.cellsOf f.type<=P.cellsOf S)(hx:Ev P σ x (.rptr S e)):bD P n o σ (σ.put d (.rptr f.type (e.fld i))):=
 bf hd hn fun ok0 w0 a w β r=>by
  have h:=(hx _ _ _ _ _ _ r).2 rfl;generalize hz:a.eval x=z at h;cases h with
  | @rptr _ _ ad cs hok hl hcell hrd=>
    obtain⟨_,hlen,_,hfld⟩:=hrd.agg_inv hu;refine⟨_,?_,xK (ad:=ad.add f.offset) (cs:=(cs.drop f.offset).take (P.cellsOf f.type)) (by rw[block_add];exact hok) ?_ ?_ (hfld i f hf)⟩;·simp only[execOp,ho,hz,Sem.run_bind,iY w hu hf hc,Result.andThen_ok,Sem.run_pure]
    ·simp only[List.length_take,List.length_drop];omega
    ·   intro j u hu';rw[List.getElem?_take]at hu';split at hu'
        ·rw[List.getElem?_drop]at hu';rw[add_add];exact hcell _ _ hu'
        ·cases hu'
theorem DI(w:World){ad:Addr}{cs:List Value}{D:TypeDesc}(hu:P.underlying T=some D)(hl:cs.length=P.cellsOf T)(hc:∀j v,cs[j]? =some v->w.cell? (ad.add j)=some v):
  (bS P T=true->(Instr.loadAt T (.pointer (some ad))).run P w= .ok (.agg cs.toArray) w)∧(bS P T=false->∀v,cs=[v]->(Instr.loadAt T (.pointer (some ad))).run P w= .ok v w):=by
 constructor
 ·intro h;have hd:D.isRow=true:=by unfold bS at h;rw[hu]at h;cases D<;>simp_all
  have hag:(isAgg T).run P w= .ok true w:=by unfold isAgg;rw[Sem.run_bind,run_underlying hu w];cases D<;>simp_all
  have hinf:∃i,P.info? T=some i:=by
   unfold Program.underlying at hu;cases hi:P.info? T with
   |none=>simp[hi]at hu
   |some i=>exact⟨i,rfl⟩
  obtain⟨i,hi⟩:=hinf;have hs:i.size=cs.length:=by rw[hl];simp[Program.cellsOf,hi]
  have hld:=run_loadCells_list (P:=P) w ad cs hc;simp[Instr.loadAt,Instr.sureAddr,loadVar,Sem.run_bind,hag,sizeOf,typeInfo,hi,hs,hld]
 ·intro h v hv;subst hv;have hd:D.isRow=false:=by unfold bS at h;rw[hu]at h;cases D<;>simp_all
  have hag:(isAgg T).run P w= .ok false w:=by unfold isAgg;rw[Sem.run_bind,run_underlying hu w];cases D<;>simp_all
  have h0:w.cell? ad=some v:=by have:=hc 0 v (by simp);simpa [Addr.add]using this
  simp[Instr.loadAt,Instr.sureAddr,loadVar,Sem.run_bind,hag,load,Sem.run,h0]
theorem kH{ok:Nat->Prop}{w:World}{β:Nat->Option Value}{ad:Addr}{cs:List Value}{D:TypeDesc}(hu:P.underlying T=some D)(hl:cs.length=P.cellsOf T)(hc:∀j v,cs[j]? =some v->w.cell? (ad.add j)=some v)
  (h1:bS P T=false->P.cellsOf T=1)(hi:v.isAgg P=bS P T)(h:RA P ok w β v cs)(ht:∀vs,v≠ .tup vs):∃z:Value,(Instr.loadAt T (.pointer (some ad))).run P w= .ok z w∧RV P ok w β v z:=by
 obtain⟨hA,hB⟩:=DI w hu hl hc;cases hT:bS P T with
 |true=>
  refine⟨_,hA hT,RV1.toRV ⟨fun _=>⟨cs,rfl,h⟩,fun hf=>?_⟩ ht⟩;rw[hi,hT]at hf;cases hf
 |false=>
  have hlen:=h1 hT;rw[hlen]at hl;match cs,hl with
  | [u],_=>exact⟨u,hB hT u rfl,RV1.toRV ⟨(fun hf=>by rw[hi,hT]at hf;cases hf),fun _=>h⟩ ht⟩
theorem Ie{d:Nat}{e:Dt}{D:TypeDesc}(ho:o.op= .load T x)(hd:o.dst=some d)(hn:d<n)(hu:P.underlying T=some D)(h1:bS P T=false->P.cellsOf T=1)(hx:Ev P σ x (.rptr T e)):bD P n o σ (σ.put d (.dat T e)):=
 bf hd hn fun ok0 w0 a w β r=>by
  have h:=(hx _ _ _ _ _ _ r).2 rfl;generalize hz:a.eval x=z at h;cases h with
  | @rptr _ _ ad cs hok hl hcell hrd=>
    obtain⟨z,hrun,hrv⟩:=kH (ok:=okOf ok0 w0 w σ.hs β) (β:=β) (v:= .dat T e) hu hl hcell h1 rfl (.dat hrd) (by simp);exact⟨z,by simp only[execOp,ho,hz,Sem.run_bind,hrun,Result.andThen_ok,Sem.run_pure],hrv⟩
inductive GetAt (P:Program):TypeId->AV->List Nat->Nat->TypeId->AV->Prop where
 |nil {T:TypeId} {c:AV}:GetAt P T c [] 0 T c
 |agg {T T':TypeId} {fs:Array Field} {f:Field} {vs:List AV} {v r:AV} {i off:Nat} {p:List Nat} (hu:P.underlying T=some (.struct fs)) (hf:fs[i]? =some f) (hv:vs[i]? =some v) (hb:f.offset+P.cellsOf f.type<=P.cellsOf T)
  (h:GetAt P f.type v p off T' r):GetAt P T (.agg T vs) (i::p) (f.offset+off) T' r
 |dat {T T':TypeId} {fs:Array Field} {f:Field} {d:Dt} {r:AV} {i off:Nat} {p:List Nat} (hu:P.underlying T=some (.struct fs)) (hf:fs[i]? =some f) (hb:f.offset+P.cellsOf f.type<=P.cellsOf T)
  (h:GetAt P f.type (.dat f.type (d.fld i)) p off T' r):GetAt P T (.dat T d) (i::p) (f.offset+off) T' r
 |arr {T E:TypeId} {len i:Nat} {d e:Dt} (hu:P.underlying T=some (.array len E)) (hm:P.cellsOf T=len*P.cellsOf E) (he:d.toLst[i]? =some e):GetAt P T (.dat T d) [i] (i*P.cellsOf E) E (.dat E e)
theorem xL(cs:List Value)(o1 n1 o2 n2:Nat)(h:o2+n2<=n1):((((cs.drop o1).take n1).drop o2).take n2)=(cs.drop (o1+o2)).take n2:=by rw[List.drop_take,List.take_take,List.drop_drop];congr 1;omega
theorem GetAt.sound{ok:Nat->Prop}{w:World}{β:Nat->Option Value}{T':TypeId}{c r:AV}{p:List Nat}{off:Nat}(h:GetAt P T c p off T' r):∀{cs:List Value},RA P ok w β c cs->cs.length=P.cellsOf T->
   off+P.cellsOf T'<=P.cellsOf T∧RA P ok w β r ((cs.drop off).take (P.cellsOf T')):=by
 induction h with
 |nil=>intro cs hr hl;exact⟨by omega,by simpa [←hl]using hr⟩
 | @agg T T' fs f vs v r i off p hu hf hv hb _ ih=>
   intro cs hr hl;cases hr with
   |agg hu' hl' hc h1 h=>
    rw[hu]at hu';cases hu'
    obtain⟨h2,h3⟩:=ih (h i f v hf hv) (by simp only[List.length_take,List.length_drop];omega);refine⟨by omega,?_⟩;rw[xL _ _ _ _ _ h2]at h3;exact h3
 | @dat T T' fs f d r i off p hu hf hb _ ih=>
   intro cs hr hl;cases hr with
   |dat hrd=>
    obtain⟨_,_,_,hfld⟩:=hrd.agg_inv hu;obtain⟨h2,h3⟩:=ih (.dat (hfld i f hf)) (by simp only[List.length_take,List.length_drop];omega);refine⟨by omega,?_⟩;rw[xL _ _ _ _ _ h2]at h3;exact h3
 | @arr T E len i d e hu hm he=>
   intro cs hr hl;cases hr with
   |dat hrd=>
    obtain⟨_,h2,_,_,h3⟩:=hrd.arr_inv hu;have hlt:i<len:=by rw[←h2];exact(ak.1 he).1
    have hmul:(i+1)*P.cellsOf E<=len*P.cellsOf E:=aH _ hlt;rw[Nat.add_mul,Nat.one_mul]at hmul;exact⟨by omega,.dat (h3 i e he)⟩
theorem Wz{w:World}{b o m:Nat}{c:Array Value}{t:TypeId}{fr:Nat×Nat}(hb:w.heap[b]? =some (.cells c t fr)):∀j u,((c.toList.drop o).take m)[j]? =some u->w.cell? ((⟨b,o,none⟩:Addr).add j)=some u:=by
 intro j u hu;rw[eP,cell_of_row w b (o+j) c t fr hb];rw[List.getElem?_take]at hu;split at hu
 ·rw[List.getElem?_drop]at hu;simpa using hu
 ·cases hu
theorem wL{d l off:Nat}{path:List Nat}{S:TypeId}{c:AV}{D:TypeDesc}(ho:o.op= .load T x)(hd:o.dst=some d)(hn:d<n)(hu:P.underlying T=some D)(h1:bS P T=false->P.cellsOf T=1)
  (hx:Ev P σ x (.ptr l path off))(hl:lk σ.hs l= .box S c)(hg:GetAt P S c path off T v)(hi:v.isAgg P=bS P T)(ht:∀vs,v≠ .tup vs):bD P n o σ (σ.put d v):=
 bf hd hn fun ok0 w0 a w β r=>by
  have h:=(hx _ _ _ _ _ _ r).2 rfl;generalize hz:a.eval x=z at h;cases h with
  | @ptr _ b _ _ hb=>
    have hob:=r.hs l;rw[hl,hb]at hob;obtain⟨b',cs,e,hblk,hsz,hra⟩:=hob;cases e;obtain⟨h2,h3⟩:=hg.sound hra (by simpa using hsz);obtain⟨z,hrun,hrv⟩:=kH (β:=β) (v:=v) hu (by simp only[List.length_take,List.length_drop,Array.length_toList];omega) (Wz (o:=off) (m:=P.cellsOf T) hblk) h1 hi h3 ht;exact⟨z,by simp only[execOp,ho,hz,Sem.run_bind,hrun,Result.andThen_ok,Sem.run_pure],hrv⟩
def lF(P:Program)(m:Nat):Nat->List Field->Bool
 |e,[]=>decide (e<=m)
 |e,f::r=>decide (e<=f.offset)&&lF P m (f.offset+P.cellsOf f.type) r
def layB(P:Program)(T:TypeId)(fs:Array Field):Bool:=lF P (P.cellsOf T) 0 fs.toList
theorem Kq{m:Nat}:∀{fs:List Field}{e:Nat},lF P m e fs=true->e<=m
 | [],e,h=>by simpa [lF]using h
 |f::r,e,h=>by simp only[lF,aJ,decide_eq_true_eq]at h;have:=Kq h.2;omega
theorem uQ{m:Nat}:∀{fs:List Field}{e:Nat},lF P m e fs=true->∀(i:Nat)(f:Field),fs[i]? =some f->e<=f.offset∧f.offset+P.cellsOf f.type<=m
 | [],_,_,_,_,hf=>by simp at hf
 |g::r,e,h,0,f,hf=>by simp only[lF,aJ,decide_eq_true_eq]at h;simp only[aO,aA]at hf;subst hf;exact⟨h.1,Kq h.2⟩
 |g::r,e,h,i+1,f,hf=>by simp only[lF,aJ,decide_eq_true_eq]at h;simp only[aR]at hf;have:=uQ h.2 i f hf;omega
theorem lG{m:Nat}:∀{fs:List Field}{e:Nat},lF P m e fs=true->∀(i j:Nat)(f g:Field),fs[i]? =some f->fs[j]? =some g->i<j->f.offset+P.cellsOf f.type<=g.offset
 | [],_,_,_,_,_,_,hf,_,_=>by simp at hf
 |x::r,e,h,0,j,f,g,hf,hg,hij=>by simp only[lF,aJ,decide_eq_true_eq]at h;simp only[aO,aA]at hf;subst hf;obtain⟨j,rfl⟩:∃j',j=j'+1:=⟨j-1,by omega⟩;simp only[aR]at hg;exact(uQ h.2 j g hg).1
 |x::r,e,h,i+1,j,f,g,hf,hg,hij=>by simp only[lF,aJ,decide_eq_true_eq]at h;obtain⟨j,rfl⟩:∃j',j=j'+1:=⟨j-1,by omega⟩;simp only[aR]at hf hg;exact lG h.2 i j f g hf hg (by omega)
theorem Ql{fs:Array Field}(h:layB P T fs=true){i:Nat}{f:Field}(hf:fs[i]? =some f):f.offset+P.cellsOf f.type<=P.cellsOf T:=(uQ h i f (by simpa using hf)).2
theorem Fv{fs:Array Field}(h:layB P T fs=true){i j:Nat}{f g:Field}(hf:fs[i]? =some f)(hg:fs[j]? =some g)(hij:i≠j):f.offset+P.cellsOf f.type<=g.offset∨g.offset+P.cellsOf g.type<=f.offset:=by
 rcases Nat.lt_or_gt_of_ne hij with h1|h1;·exact .inl (lG h i j f g (by simpa using hf) (by simpa using hg) h1)
 ·exact .inr (lG h j i g f (by simpa using hg) (by simpa using hf) h1)
def splice(cs:List Value)(off:Nat)(vs:List Value):List Value:=cs.take off++vs++cs.drop (off+vs.length)
theorem dN{cs:List Value}{off:Nat}{vs:List Value}(h:off+vs.length<=cs.length):(splice cs off vs).length=cs.length:=by simp only[splice,aT,List.length_take,List.length_drop];omega
theorem bM{cs:List Value}{off:Nat}{vs:List Value}(h:off+vs.length<=cs.length)(k:Nat):(splice cs off vs)[k]? =if off<=k∧k<off+vs.length then vs[k-off]? else cs[k]? :=by
 unfold splice;by_cases h1:k<off;·rw[List.append_assoc,List.getElem?_append_left (by simp;omega),if_neg (by omega),List.getElem?_take,if_pos h1]
 ·by_cases h2:k<off+vs.length
  ·rw[if_pos ⟨by omega,h2⟩,List.append_assoc,List.getElem?_append_right (by simp;omega),List.getElem?_append_left (by simp;omega)];congr 1;simp;omega
  ·rw[if_neg (by omega),List.getElem?_append_right (by simp;omega),List.getElem?_drop];congr 1;simp;omega
theorem cO(cs:List Value)(o1 m k:Nat):((cs.drop o1).take m)[k]? =if k<m then cs[o1+k]? else none:=by rw[List.getElem?_take,List.getElem?_drop]
theorem gG{cs:List Value}{off:Nat}{vs:List Value}(h:off+vs.length<=cs.length){o1 m:Nat}(ha:o1+m<=off∨off+vs.length<=o1):((splice cs off vs).drop o1).take m=(cs.drop o1).take m:=by
 apply List.ext_getElem?;intro k;rw[cO,cO];split;·rw[bM h,if_neg (by omega)]
 ·rfl
theorem jY{cs:List Value}{off:Nat}{vs:List Value}{o1 m:Nat}(h:off+vs.length<=m)(hm:o1+m<=cs.length):((splice cs (o1+off) vs).drop o1).take m=splice ((cs.drop o1).take m) off vs:=by
 apply List.ext_getElem?;intro k;rw[bM (by simp only[List.length_take,List.length_drop];omega),cO,cO];by_cases hk:k<m
 ·rw[if_pos hk,bM (by omega)];by_cases h1:off<=k∧k<off+vs.length
  ·rw[if_pos (by omega),if_pos h1];congr 1;omega
  ·rw[if_neg (by omega),if_neg h1,if_pos hk]
 ·rw[if_neg hk,if_neg (by omega),if_neg hk]
theorem qc{cs vs:List Value}(h:cs.length=vs.length):splice cs 0 vs=vs:=by simp[splice,←h]
def canD(P:Program)(T:TypeId)(d:Dt):Dt:=
 match P.underlying T with
 |some (.int _)=> .int d.toInt
 |some .bool=> .bool d.toBool
 |some .string=> .str d.toStr
 |some (.slice _)=> .lst d.toLst
 |_=>d
theorem rV{ok:Nat->Prop}{w:World}{d:Dt}{cs:List Value}(h:RD P ok w T d cs):canD P T d=d:=by
 unfold canD;split;·rename_i hu;exact(h.int_inv hu).1.symm
 ·rename_i hu;exact(h.bool_inv hu).1.symm
 ·rename_i hu;exact(h.str_inv hu).1.symm
 ·rename_i hu;exact(h.lst_inv hu).1.symm
 ·rfl
def nM(P:Program):List Field->Nat->Dt->List AV
 | [],_,_=>[]
 |f::r,j,d=> .dat f.type (canD P f.type (d.fld j))::nM P r (j+1) d
theorem Fw:∀(fs:List Field)(j:Nat)(d:Dt),(nM P fs j d).length=fs.length
 | [],_,_=>rfl
 |_::r,j,d=>by simp[nM,Fw r (j+1) d]
theorem Fx:∀(fs:List Field)(j:Nat)(d:Dt)(i:Nat)(f:Field),fs[i]? =some f->(nM P fs j d)[i]? =some (.dat f.type (canD P f.type (d.fld (j+i))))
 | [],_,_,_,_,h=>by simp at h
 |g::r,j,d,0,f,h=>by simp only[aO,aA]at h;subst h;simp[nM]
 |g::r,j,d,i+1,f,h=>by simp only[aR]at h;have:=Fx r (j+1) d i f h;simp only[nM,aR,this];rw[show j+1+i=j+(i+1) by omega]
def expl(P:Program)(fs:Array Field)(d:Dt):List AV:=nM P fs.toList 0 d
theorem RA.expl{ok:Nat->Prop}{w:World}{β:Nat->Option Value}{d:Dt}{cs:List Value}{fs:Array Field}(h:RA P ok w β (.dat T d) cs)(hu:P.underlying T=some (.struct fs)):RA P ok w β (.agg T (expl P fs d)) cs:=by
 cases h with
 |dat h=>
  obtain⟨_,hc,h1,hf⟩:=h.agg_inv hu;refine .agg hu (by simp[Am.expl,Fw]) hc h1 fun i f v hfi hv=>?_;have:=Fx (P:=P) fs.toList 0 d i f (by simpa using hfi);rw[Am.expl,this]at hv;simp only[Nat.zero_add,aA]at hv;subst hv;have hr:=hf i f hfi;rw[rV hr];exact .dat hr
inductive SetAt (P:Program) (v:AV) (T':TypeId):TypeId->AV->List Nat->Nat->AV->Prop where
 |nil {c:AV}:SetAt P v T' T' c [] 0 v
 |agg {T:TypeId} {fs:Array Field} {f:Field} {vs:List AV} {old new:AV} {i off:Nat} {p:List Nat} (hu:P.underlying T=some (.struct fs)) (hlay:layB P T fs=true) (hf:fs[i]? =some f) (hv:vs[i]? =some old)
  (h:SetAt P v T' f.type old p off new):SetAt P v T' T (.agg T vs) (i::p) (f.offset+off) (.agg T (vs.set i new))
 |dat {T:TypeId} {fs:Array Field} {d:Dt} {i off:Nat} {p:List Nat} {new:AV} (hu:P.underlying T=some (.struct fs)) (h:SetAt P v T' T (.agg T (expl P fs d)) (i::p) off new):SetAt P v T' T (.dat T d) (i::p) off new
 |arr {T:TypeId} {len i:Nat} {d x:Dt} (hu:P.underlying T=some (.array len T')) (hm:P.cellsOf T=len*P.cellsOf T') (hi:i<d.toLst.length) (hv:v= .dat T' x):SetAt P v T' T (.dat T d) [i] (i*P.cellsOf T') (.dat T (.lst (d.toLst.set i x)))
theorem SetAt.sound{ok:Nat->Prop}{w:World}{β:Nat->Option Value}{T':TypeId}{c c':AV}{p:List Nat}{off:Nat}{us:List Value}(h:SetAt P v T' T c p off c')(hus:RA P ok w β v us)(hul:us.length=P.cellsOf T'):
   ∀{cs:List Value},RA P ok w β c cs->cs.length=P.cellsOf T->off+P.cellsOf T'<=P.cellsOf T∧RA P ok w β c' (splice cs off us):=by
 induction h with
 |nil=>intro cs _ hl;exact⟨by omega,by rw[qc (by omega)];exact hus⟩
 | @agg T fs f vs old new i off p hu hlay hf hv _ ih=>
   intro cs hr hl;cases hr with
   |agg  hu' hl' hc h1 h=>
    rw[hu]at hu';cases hu'
    have hin:=Ql hlay hf;obtain⟨h2,h3⟩:=ih (h i f old hf hv) (by simp only[List.length_take,List.length_drop];omega);have hfit:f.offset+off+us.length<=cs.length:=by omega
    refine⟨by omega,.agg hu (by simpa using hl') (by rw[dN hfit];exact hc) ?_ ?_⟩
    ·   intro u hu2;obtain⟨k,hk⟩:=List.getElem?_of_mem hu2;rw[bM hfit]at hk;split at hk;·exact hus.oneCell u (aM hk)
        ·exact h1 u (aM hk)
    ·   intro j g u hg hu2;rw[List.getElem?_set]at hu2;by_cases hij:i=j
        ·subst hij;rw[hf]at hg;cases hg;have hlt:i<vs.length:=(ak.1 hv).1;simp only[if_true,hlt,aA]at hu2;subst hu2;rw[jY (by omega) (by omega)];exact h3
        ·rw[if_neg hij]at hu2;have hgin:=Ql hlay hg;rw[gG hfit (by rcases Fv hlay hf hg hij with h4|h4<;>omega)];exact h j g u hg hu2
 | @dat T fs d i off p new hu _ ih=>
   intro cs hr hl;exact ih (hr.expl hu) hl
 | @arr T len i d x hu hm hi hv=>
   intro cs hr hl;subst hv;cases hr with
   |dat  hrd  =>
    obtain⟨_,h2,_,h1,h3⟩:=hrd.arr_inv hu;have hmul:∀j,j<len->(j+1)*P.cellsOf T'<=len*P.cellsOf T':=fun j hj=>aH _ hj;have hmi:=hmul i (by omega);rw[Nat.add_mul,Nat.one_mul]at hmi;have hfit:i*P.cellsOf T'+us.length<=cs.length:=by omega
    refine⟨by omega,.dat (.arr hu (by simpa using h2) (by rw[dN hfit];exact hl) ?_ ?_)⟩
    ·   intro u hu2;obtain⟨k,hk⟩:=List.getElem?_of_mem hu2;rw[bM hfit]at hk;split at hk;·exact hus.oneCell u (aM hk)
        ·exact h1 u (aM hk)
    ·   intro j u hu2;rw[List.getElem?_set]at hu2;by_cases hij:i=j
        ·subst hij;simp only[if_true,hi,aA]at hu2;subst hu2;have:=jY (cs:=cs) (vs:=us) (o1:=i*P.cellsOf T') (off:=0) (m:=P.cellsOf T') (by omega) (by omega);rw[Nat.add_zero,qc (by simp only[List.length_take,List.length_drop];omega)]at this;rw[this];cases hus with
         |dat h=>exact h
        ·rw[  if_neg hij]at hu2;have hj:j<len:=by rw[←h2];exact(ak.1 hu2).1
         rw[  gG hfit (by
          rcases Nat.lt_or_gt_of_ne hij with h4|h4
          ·   have:=aH (P.cellsOf T') h4;rw[Nat.succ_mul]at this;omega
          ·   have:=aH (P.cellsOf T') h4;rw[Nat.succ_mul]at this;omega)]
         exact h3 j u hu2
theorem eX(w:World){b off:Nat}{c:Array Value}{t:TypeId}(hb:w.heap[b]? =some (.cells c t (0,0))){z:Value}(hs:z.cells.size=P.cellsOf T)(h0:P.cellsOf T≠0)(hfit:off+z.cells.size<=c.size)(h1:∀u∈z.cells.toList,u.oneCell'=true):
  (Instr.storeAt T (.pointer (some ⟨b,off,none⟩)) z).run P w= .ok () (w.setRow b (splice c.toList off z.cells.toList).toArray):=by
 have hst:=run_storeCells_at P b off t z.cells.toList 0 c w hb (by simpa using hfit) h1;cases hi:P.info? T with
 |none=>simp[Program.cellsOf,hi]at h0
 |some i=>
  have hsz:z.cells.size=i.size:=by simpa [Program.cellsOf,hi]using hs
  simp only[Nat.add_zero]at hst;simp[Instr.storeAt,Instr.sureAddr,storeVar,sizeOf,typeInfo,hi,hsz,hst,splice]
theorem rW{l off:Nat}{path:List Nat}{S:TypeId}{c c':AV}(ho:o.op= .store T x y)(hd:o.dst=none)(h0:P.cellsOf T≠0)
   (hx:Ev P σ x (.ptr l path off))(hy:Ev P σ y v)(hv0:v≠ .dead)(hv1:∀vs,v≠ .tup vs)
   (hs:∀(ok:Nat->Prop)(w:World)(β:Nat->Option Value)(cs:List Value),RA P ok w β v cs->(v.isAgg P=false->cs.length=1)->cs.length=P.cellsOf T)
   (hl:lk σ.hs l= .box S c)(hg:SetAt P v T S c path off c'):bD P n o σ (σ.lay l (.box S c')):=by
 rintro ok0 w0 a w ⟨β,r⟩ K Q hK;have h:=(hx _ _ _ _ _ _ r).2 rfl;generalize hz:a.eval x=z at h;cases h with
 | @ptr _ b _ _ hb=>
   have hv:=RV.to1 hv0 hv1 (hy _ _ _ _ _ _ r);have hc:=hv.cells;have hsz:(a.eval y).cells.size=P.cellsOf T:=by
    have:=hs _ _ _ _ hc (fun hi=>by have hr:=hv.2 hi;have h1':=hr.oneCell (a.eval y) (by simp);generalize a.eval y=z at h1';cases z<;>simp_all [Value.cells,Value.oneCell'])
    simpa using this
   have hob:=r.hs l;rw[hl,hb]at hob;obtain⟨b',cs,e',hblk,hcsz,hra⟩:=hob;obtain rfl:b=b':=by cases e';rfl
   obtain⟨h2,h3⟩:=hg.sound hc (by simpa using hsz) hra (by simpa using hcsz);have hrun:=eX (P:=P) (T:=T) (off:=off) w hblk hsz h0 (by omega) (fun u hu=>hc.oneCell u hu);unfold Oper.wp execOp;simp only[ho,hz,Sem.run_bind,hrun,Result.andThen_ok,Sem.run_pure];refine hK _ _ ?_;rw[hd];have hlen:(splice cs.toList off (a.eval y).cells.toList).length=cs.size:=by rw[dN (by simp;omega)];simp
   have how:owns σ.hs β l b:=⟨by rw[hl];rfl,_,hb,.inl rfl⟩;refine⟨_,r.upd l (.box S c') (β l) _ (.inl rfl) rfl rfl rfl (by simp) (fun b2 hb2 hne=>setRow_other w _ _ _ fun e=>hne (by rw[e];exact how)) (fun z2 b2 _ hz2 hb2=> .inr ⟨by rw[hl];rfl,z2,hz2,hb2⟩) fun hx hk=>?_⟩;refine⟨b,(splice cs.toList off (a.eval y).cells.toList).toArray,hb,setRow_heap w b cs _ S _ hblk,by rw[List.size_toArray];exact hlen.trans hcsz,?_⟩;exact RA.mono h3 hk hx
end
section
variable{P:Program}{n:Nat}{o:Oper}{σ σ':St}{x y:Operand}{v:AV}{T:TypeId}
theorem abR{ok:Nat->Prop}{w:World}{z:Value}{E:TypeId}{es:List Dt}{xs:List Value}(hu:P.underlying T=some (.slice E))(hown:w.ownsRow 0 E (P.cellsOf E) z es.length xs)(h1:∀c∈xs,c.oneCell'=true)
  (hrd:∀(i:Nat)(d:Dt),es[i]? =some d->RD P ok w E d ((xs.drop (i*P.cellsOf E)).take (P.cellsOf E))){ok':Nat->Prop}(hok:∀b,ok b->ok' b)(hb:∀b,blk z=some b->ok' b):RD P ok' w T (.lst es) [z]:=by
 have hlen:=hown.1;rcases hown.2 with⟨h2,h3⟩| ⟨g,cap,cur,h2,hg,hh,hnc,hcm,hsz,htk⟩
 ·have:es=[]:=List.eq_nil_of_length_eq_zero h3;subst this;rw[h2];exact RD.nil hu
 ·rw[   h2];refine .lst ⟨g,0,none⟩ (fun i=>(xs.drop (i*P.cellsOf E)).take (P.cellsOf E)) hu rfl hnc hcm (fun _=>⟨rfl,hb g (by rw[h2];rfl)⟩) (fun i hi=>⟨?_,?_,?_⟩) (fun i d hd=>(hrd i d hd).mono fun b hb'=>⟨hok b hb',rfl⟩)
  ·have:(i+1)*P.cellsOf E<=es.length*P.cellsOf E:=aH _ hi;rw[Nat.add_mul,Nat.one_mul]at this;simp only[List.length_take,List.length_drop];omega
  ·intro c hc;exact h1 c (List.mem_of_mem_drop (List.mem_of_mem_take hc))
  ·intro j u hj;rw[cO]at hj;split at hj
   ·    rw[eP,Nat.zero_add,cell_of_row w g _ cur E (0,0) hh];rw[←htk,List.getElem?_take]at hj;split at hj;·simpa using hj
        ·cases hj
   ·cases hj
theorem RelB.frz{ok0:OkX}{w0 w:World}{a:Act}{β:Nat->Option Value}(r:RelB P ok0 w0 n σ a w β){l:Nat}{es:List Dt}(hl:lk σ.hs l= .row T es):RelB P ok0 w0 n (σ.lay l (.frz T es)) a w β:=by
 have hob:=r.hs l;rw[hl]at hob;obtain⟨E,z,xs,hz,hu,hown,h1,hrd⟩:=hob;have hown2:∀k b,owns (aV σ.hs l (.frz T es)) β k b->k≠l∧owns σ.hs β k b:=by
  rintro k b ⟨h1,z,h2,h3⟩;by_cases hkl:k=l;·subst hkl;rw[bH]at h1;cases h1
  ·rw[aS _ _ _ _ hkl]at h1;exact⟨hkl,h1,z,h2,h3⟩
 have hk:∀b,okOf ok0 w0 w σ.hs β b->okOf ok0 w0 w (aV σ.hs l (.frz T es)) β b∧w.heap[b]? =w.heap[b]? :=fun b hb=>⟨⟨hb.1,hb.2.1,fun k hk=>hb.2.2 k (hown2 k b hk).2⟩,rfl⟩;have hold:∀b,blk z=some b->owns σ.hs β l b:=fun b hb=>⟨by rw[hl];rfl,z,hz,.inl hb⟩;refine⟨r.size,r.defers,r.below,fun k=>(r.ts k).mono hk (Ext.refl _),fun k=>?_,fun k k' b h1 h2=>r.sep k k' b (hown2 _ _ h1).2 (hown2 _ _ h2).2,fun k b h1=>r.own k b (hown2 _ _ h1).2,r.ext,r.kk,r.tab.mono hk⟩;show ObOK P _ w β (lk (aV σ.hs l (.frz T es)) k) _;by_cases hkl:k=l
 ·subst hkl;rw[bH,hz];refine⟨z,rfl,bQ hu rfl,abR hu hown h1 hrd (fun b hb=>(hk b hb).1) fun b hb=>?_⟩;refine⟨r.blk_lt (hold b hb),fun hlt=>?_,fun k' hk'=>?_⟩
  ·rcases r.own _ b (hold b hb)with h2|h2;·omega
   ·exact .inr h2
  ·obtain⟨h2,h3⟩:=hown2 k' b hk';exact h2 (r.sep _ _ _ h3 (hold b hb))
 ·rw[aS _ _ _ _ hkl];exact(r.hs k).mono hk (fun _ _ _ _ _=>rfl) (Ext.refl _)
theorem run_indexAt(w:World){E:TypeId}(hu:P.underlying T=some (.slice E))(h0:P.cellsOf E≠0){ad:Addr}{len cap:Nat}{k:IntKind}{i:Int}(h1:0<=i)(h2:i<len):
  (Instr.indexAt T (.slice (some ad) len cap) (.int k i)).run P w= .ok (.pointer (some (ad.add (i.toNat*P.cellsOf E)))) w:=by
 cases hi:P.info? E with
 |none=>simp[Program.cellsOf,hi]at h0
 |some inf=>simp[Instr.indexAt,asIntOf,run_underlying hu,h1,h2,sizeOf,typeInfo,hi,Program.cellsOf]
theorem rX{d:Nat}{T3 E TI:TypeId}{es:List Dt}{i:Int}{k:IntKind}{e:Dt}(ho:o.op= .indexAddr T x y)(hd:o.dst=some d)(hn:d<n)(hu:P.underlying T=some (.slice E))(hu3:P.underlying T3=some (.slice E))(h0:P.cellsOf E≠0)
  (hi:P.underlying TI=some (.int k))(hx:Ev P σ x (.dat T3 (.lst es)))(hy:Ev P σ y (.dat TI (.int i)))(hi0:0<=i)(he:es[i.toNat]? =some e):bD P n o σ (σ.put d (.rptr E e)):=
 bf hd hn fun ok0 w0 a w β r=>by
  obtain⟨_,e2,_⟩:=RV.int hi (hy _ _ _ _ _ _ r);simp only[Dt.toInt]at e2;have hrd:=(RV.dat_one (bQ hu3 rfl)).1 (hx _ _ _ _ _ _ r);obtain⟨_,ao,cap,ad,g,hcs,hlc,hm,ha,hg,hr⟩:=hrd.lst_inv hu3;simp only[Dt.toLst]at hcs hlc ha hg hr;have hlt:i.toNat<es.length:=(ak.1 he).1;obtain⟨rfl,hok⟩:=ha (by omega);obtain⟨hgl,_,hgc⟩:=hg i.toNat hlt;have ex:a.eval x= .slice (some ad) es.length cap:=by simpa using hcs
  refine⟨_,?_,xK (ad:=ad.add (i.toNat*P.cellsOf E)) (by rw[block_add];exact hok) hgl (fun j u hj=>by rw[add_add];exact hgc j u hj) (hr _ _ he)⟩;simp only[execOp,ho,ex,e2,Sem.run_bind,run_indexAt w hu h0 hi0 (show i<(es.length:Int) by omega),Result.andThen_ok,Sem.run_pure]
theorem Ig{d l:Nat}{E TI T5:TypeId}{es:List Dt}{i:Int}{k:IntKind}(ho:o.op= .indexAddr T x y)(hd:o.dst=some d)(hn:d<n)(hu:P.underlying T=some (.slice E))(h0:P.cellsOf E≠0)
  (hi:P.underlying TI=some (.int k))(hx:Ev P σ x (.row l))(hy:Ev P σ y (.dat TI (.int i)))(hl:lk σ.hs l= .row T5 es)(hu5:P.underlying T5=some (.slice E))(hi0:0<=i)(he:i<es.length):bD P n o σ (σ.put d (.eptr l i.toNat (P.cellsOf E) [] 0)):=
 bf hd hn fun ok0 w0 a w β r=>by
  obtain⟨_,e2,_⟩:=RV.int hi (hy _ _ _ _ _ _ r);simp only[Dt.toInt]at e2;have ex:=bZ (hx _ _ _ _ _ _ r);have hob:=r.hs l;rw[hl,ex]at hob;obtain⟨E',xs,hu',hown,_⟩:=iF hob;obtain rfl:E=E':=by rw[hu5]at hu';cases hu';rfl
  rcases hown.2 with⟨h2,h3⟩| ⟨g,cap,cur,h2,_⟩;·omega
  ·refine⟨_,?_,xJ (by rw[ex,h2])⟩;simp only[execOp,ho,h2,e2,Sem.run_bind,run_indexAt w hu h0 hi0 he,Result.andThen_ok,Sem.run_pure,eP,Nat.zero_add,Nat.add_zero]
theorem Ih{d l len:Nat}{E TI:TypeId}{dd:Dt}{i:Int}{k:IntKind}(ho:o.op= .indexAddr T x y)(hd:o.dst=some d)(hn:d<n)(hu:P.underlying T=some (.array len E))(h0:P.cellsOf E≠0)
  (hi:P.underlying TI=some (.int k))(hx:Ev P σ x (.ptr l [] 0))(hy:Ev P σ y (.dat TI (.int i)))(hl:lk σ.hs l= .box T (.dat T dd))(hi0:0<=i)(he:i<dd.toLst.length):bD P n o σ (σ.put d (.eptr l i.toNat (P.cellsOf E) [] 0)):=
 bf hd hn fun ok0 w0 a w β r=>by
  obtain⟨_,e2,_⟩:=RV.int hi (hy _ _ _ _ _ _ r);simp only[Dt.toInt]at e2;have h:=(hx _ _ _ _ _ _ r).2 rfl;generalize hz:a.eval x=z at h;cases h with
  | @ptr _ b _ _ hb=>
    have hob:=r.hs l;rw[hl,hb]at hob;obtain⟨b',cs,e,hblk,hsz,hra⟩:=hob;cases hra with
    |   dat hra=>
        have hlen:=(hra.arr_inv hu).2.1;have hii:i<len:=by omega
        refine⟨_,?_,Ko hb⟩;cases hin:P.info? E with
        |none=>simp[Program.cellsOf,hin]at h0
        |some inf=>
         unfold execOp;simp only[ho,hz,e2,Sem.run_bind];simp[Instr.indexAt,asIntOf,run_underlying hu,Instr.sureAddr,hi0,hii,sizeOf,typeInfo,hin,Program.cellsOf,eP]
theorem Ev.arr{l i sz off:Nat}{path p':List Nat}{S:TypeId}{c:AV}(hx:Ev P σ x (.eptr l i sz path off))(hl:lk σ.hs l= .box S c):Ev P σ x (.ptr l p' (i*sz+off)):=by
 intro ok0 w0 m a w β r;have h:=(hx _ _ _ _ _ _ r).2 rfl;generalize hz:a.eval x=z at h;refine⟨fun hi=>by simp[AV.isAgg]at hi,fun _=>?_⟩;cases h with
 | @eptr _ _ _ b m cap _ _ hb=>
   have hob:=r.hs l;rw[hl,hb]at hob;obtain⟨_,_,e,_⟩:=hob;cases e
 | @eptrB _ _ _ b _ _ hb=>exact .ptr hb
theorem Ii{d l i off:Nat}{path:List Nat}{E T5:TypeId}{es:List Dt}{e:Dt}{D:TypeDesc}(ho:o.op= .load T x)(hd:o.dst=some d)(hn:d<n)(hu:P.underlying T=some D)(h1:bS P T=false->P.cellsOf T=1)
  (hx:Ev P σ x (.eptr l i (P.cellsOf E) path off))(hl:lk σ.hs l= .row T5 es)(hu5:P.underlying T5=some (.slice E))(he:es[i]? =some e)(hg:GetAt P E (.dat E e) path off T v)(hi:v.isAgg P=bS P T)(ht:∀vs,v≠ .tup vs):bD P n o σ (σ.put d v):=
 bf hd hn fun ok0 w0 a w β r=>by
  have h:=(hx _ _ _ _ _ _ r).2 rfl;generalize hz:a.eval x=z at h;cases h with
  | @eptrB _ _ _ _ _ _ hb=>exact(ObOK.np (r.hs l) (.inl ⟨_,_,hl⟩) hb).elim
  | @eptr _ _ _ b m cap _ _ hb=>
    have hob:=r.hs l;rw[hl,hb]at hob;obtain⟨E',xs,hu',hown,hone,hrd⟩:=iF hob;obtain rfl:E=E':=by rw[hu5]at hu';cases hu';rfl
    have hlen:=hown.1;rcases hown.2 with⟨h2,_⟩| ⟨g,cap',cur,h2,hg2,hh,hnc,hcm,hsz,htk⟩;·cases h2
    ·   cases h2;have hlt:i<es.length:=(ak.1 he).1;have hmul:(i+1)*P.cellsOf E<=es.length*P.cellsOf E:=aH _ hlt;rw[Nat.add_mul,Nat.one_mul]at hmul;obtain⟨q1,q2⟩:=hg.sound (.dat (hrd i e he)) (by simp only[List.length_take,List.length_drop];omega);rw[xL _ _ _ _ _ q1]at q2;obtain⟨z,hrun,hrv⟩:=kH (β:=β) (v:=v) (ad:=⟨b,i*P.cellsOf E+off,none⟩) hu (by simp only[List.length_take,List.length_drop];omega) (fun j u hj=>by
         rw[cO]at hj;split at hj
         ·rw[eP,cell_of_row w b _ cur E (0,0) hh];rw[←htk,List.getElem?_take]at hj;split at hj;·simpa using hj
          ·cases hj
         ·cases hj) h1 hi q2 ht
        exact⟨z,by simp only[execOp,ho,hz,Sem.run_bind,hrun,Result.andThen_ok,Sem.run_pure],hrv⟩
theorem DJ{l i off:Nat}{path:List Nat}{E T5:TypeId}{es:List Dt}{e e':Dt}{c':AV}(ho:o.op= .store T x y)(hd:o.dst=none)(h0:P.cellsOf T≠0)
   (hx:Ev P σ x (.eptr l i (P.cellsOf E) path off))(hy:Ev P σ y v)(hv0:v≠ .dead)(hv1:∀vs,v≠ .tup vs)
   (hs:∀(ok:Nat->Prop)(w:World)(β:Nat->Option Value)(cs:List Value),RA P ok w β v cs->(v.isAgg P=false->cs.length=1)->cs.length=P.cellsOf T)
   (hl:lk σ.hs l= .row T5 es)(hu5:P.underlying T5=some (.slice E))(he:es[i]? =some e)(hg:SetAt P v T E (.dat E e) path off c')
   (hpk:∀(ok0:OkX)(w0:World)(a:Act)(w:World)(β:Nat->Option Value),RelB P ok0 w0 n σ a w β->∀cs,RA P (okOf ok0 w0 w σ.hs β) w β c' cs->RD P (okOf ok0 w0 w σ.hs β) w E e' cs):bD P n o σ (σ.lay l (.row T5 (es.set i e'))):=by
 rintro ok0 w0 a w ⟨β,r⟩ K Q hK;have h:=(hx _ _ _ _ _ _ r).2 rfl;generalize hz:a.eval x=z at h;cases h with
 | @eptrB _ _ _ _ _ _ hb=>exact(ObOK.np (r.hs l) (.inl ⟨_,_,hl⟩) hb).elim
 | @eptr _ _  _ b m cap _ _ hb=>
   have hv:=RV.to1 hv0 hv1 (hy _ _ _ _ _ _ r);have hc:=hv.cells;have hsz:(a.eval y).cells.size=P.cellsOf T:=by
    have:=hs _ _ _ _ hc (fun hi=>by have hr:=hv.2 hi;have h1':=hr.oneCell (a.eval y) (by simp);generalize a.eval y=z at h1';cases z<;>simp_all [Value.cells,Value.oneCell'])
    simpa using this
   have hob:=r.hs l;rw[hl,hb]at hob;obtain⟨E',xs,hu',hown,hone,hrd⟩:=iF hob;obtain rfl:E=E':=by rw[hu5]at hu';cases hu';rfl
   have hlen:=hown.1;rcases hown.2 with⟨h2,_⟩| ⟨g,cap',cur,h2,hg2,hh,hnc,hcm,hcsz,htk⟩;·cases h2
   ·obtain⟨   rfl,rfl,rfl⟩:b=g∧m=es.length∧cap=cap':=by cases h2;exact⟨rfl,rfl,rfl⟩
    have how:owns σ.hs β l b:=⟨by rw[hl];rfl,_,hb,.inl rfl⟩;have hilt:i<es.length:=(ak.1 he).1;have hmul:(i+1)*P.cellsOf E<=es.length*P.cellsOf E:=aH _ hilt;have hmul2:es.length*P.cellsOf E<=cap*P.cellsOf E:=aH _ hnc;rw[Nat.add_mul,Nat.one_mul]at hmul;have hseglen:((xs.drop (i*P.cellsOf E)).take (P.cellsOf E)).length=P.cellsOf E:=by simp only[List.length_take,List.length_drop];omega
    obtain⟨hq,hra⟩:=hg.sound hc (by simpa using hsz) (.dat (hrd i e he)) hseglen;have hrd':=hpk _ _ _ _ _ r _ hra;have hrun:=eX (P:=P) (T:=T) (off:=i*P.cellsOf E+off) w hh hsz h0 (by omega) (fun u hu=>hc.oneCell u hu);unfold Oper.wp execOp;simp only[ho,hz,Sem.run_bind,hrun,Result.andThen_ok,Sem.run_pure];refine hK _ _ ?_;rw[hd];have hfit:i*P.cellsOf E+off+(a.eval y).cells.toList.length<=cur.toList.length:=by simp;omega
    have hslen:=dN hfit;refine⟨_,r.upd l (.row T5 (es.set i e')) (β l) _ (.inl rfl) rfl rfl rfl (by simp) (fun b2 hb2 hne=>setRow_other w _ _ _ fun e=>hne (by rw[e];exact how)) (fun z2 b2 _ hz2 hb2=> .inr ⟨by rw[hl];rfl,z2,hz2,hb2⟩) fun hx hk=>?_⟩;have hfx:i*P.cellsOf E+off+(a.eval y).cells.toList.length<=xs.length:=by simp;omega
    refine⟨E,_,splice xs (i*P.cellsOf E+off) (a.eval y).cells.toList,hb,hu5,⟨?_,.inr ⟨b,cap,(splice cur.toList (i*P.cellsOf E+off) (a.eval y).cells.toList).toArray,?_,hg2,setRow_heap w b cur _ E _ hh,by simpa using hnc,hcm,?_,?_⟩⟩,?_,?_⟩;·rw[dN hfx];simpa using hlen
    ·simp
    ·rw[List.size_toArray,hslen];simpa using hcsz
    ·   apply List.ext_getElem?;intro j;simp only[List.length_set];rw[List.getElem?_take,bM hfx];split
        ·rw[bM hfit];split;·rfl
         ·rw[←htk,List.getElem?_take,if_pos (by assumption)]
        ·rw[if_neg (by simp;omega),List.getElem?_eq_none (by omega)]
    ·   intro u hu2;obtain⟨j,hj⟩:=List.getElem?_of_mem hu2;rw[bM hfx]at hj;split at hj;·exact hc.oneCell u (aM hj)
        ·exact hone u (aM hj)
    ·   intro j d' hj;rw[List.getElem?_set]at hj;by_cases hij:i=j
        ·subst hij;simp only[if_true,hilt,aA]at hj;subst hj;rw[jY (by simp;omega) (by omega)];exact hrd'.mono hk
        ·rw[  if_neg hij]at hj;have hjlt:j<es.length:=(ak.1 hj).1;have hfar:j*P.cellsOf E+P.cellsOf E<=i*P.cellsOf E+off∨i*P.cellsOf E+off+(a.eval y).cells.toList.length<=j*P.cellsOf E:=by
           rcases Nat.lt_or_gt_of_ne hij with h5|h5
           ·  right;have:(i+1)*P.cellsOf E<=j*P.cellsOf E:=aH _ h5;rw[Nat.add_mul,Nat.one_mul]at this;simp;omega
           ·  left;have:(j+1)*P.cellsOf E<=i*P.cellsOf E:=aH _ h5;rw[Nat.add_mul,Nat.one_mul]at this;omega
         rw[gG hfx hfar];exact(hrd j d' hj).mono hk
end
section
variable{P:Program}{n:Nat}{o:Oper}{σ σ':St}{x y:Operand}{v:AV}{T:TypeId}
theorem jc(w:World)(base:Nat)(t ty e:TypeId)(i:TypeInfo)(size:Nat)(ht:P.underlying t=some (.slice e))(hi:P.info? e=some i)
  (v:Value)(m:Nat)(xs:List Value)(hown:w.ownsRow base e size v m xs)(c:Nat):(Builtin.append_ #[t,t] ty #[v,.slice none 0 c]).run P w= .ok v w:=by
 rcases hown.2 with⟨rfl,rfl⟩| ⟨g,cap,cur,rfl,_,_,hnc,_⟩;·simp[Builtin.append_,run_underlying ht,sizeOf,typeInfo,hi,Builtin.lenOf,Builtin.firstCells]
 ·simp[Builtin.append_,run_underlying ht,sizeOf,typeInfo,hi,Builtin.lenOf,Builtin.firstCells,hnc,storeCells]
theorem RelB.take{K:OkX}{w0 w:World}{a:Act}{β:Nat->Option Value}(h:RelB P K w0 n σ a w β)(m l:Nat)(o:Ob)(z':Value)(w':World)
  (hm:lk σ.hs m≠ .free)(hf:lk σ.hs l= .free)(hk0:σ.k0<=l)
  (hos:w'.os=w.os)(htape:w'.tape=w.tape)(hout:w'.output=w.output)(hsz:w.heap.size<=w'.heap.size)
  (hbl:∀b,b<w.heap.size->¬owns σ.hs β m b->w'.heap[b]? =w.heap[b]?)
  (hv':∀b,Blk z' b->w.heap.size<=b∨owns σ.hs β m b)
  (ho:Ext β (upB β l (some z'))->(∀b,okOf K w0 w σ.hs β b->okOf K w0 w' (aV (aV σ.hs m .gone) l o) (upB β l (some z')) b∧w'.heap[b]? =w.heap[b]?)->ObOK P (okOf K w0 w' (aV (aV σ.hs m .gone) l o) (upB β l (some z'))) w' (upB β l (some z')) o (some z')):
  RelB P K w0 n ((σ.lay m .gone).lay l o) a w' (upB β l (some z')):=by
 have hfree:β l=none:=by have:=h.hs l;rw[hf]at this;exact this
 have hml:m≠l:=fun e=>hm (by rw[e];exact hf);have hext:Ext β (upB β l (some z')):=by
  intro k z hk;by_cases hkl:k=l;·subst hkl;rw[hfree]at hk;cases hk
  ·rw[bO _ _ _ _ hkl];exact hk
 have hown2:∀k b,owns (aV (aV σ.hs m .gone) l o) (upB β l (some z')) k b->(k=l∧(w.heap.size<=b∨owns σ.hs β m b))∨(k≠l∧k≠m∧owns σ.hs β k b):=by
  rintro k b ⟨h1,z,h2,h3⟩;by_cases hkl:k=l
  ·subst hkl;rw[bJ]at h2;cases h2;exact .inl ⟨rfl,hv' b h3⟩
  ·rw[aS _ _ _ _ hkl]at h1;rw[bO _ _ _ _ hkl]at h2;by_cases hkm:k=m;·subst hkm;rw[bH]at h1;cases h1
   ·    rw[aS _ _ _ _ hkm]at h1;exact .inr ⟨hkl,hkm,h1,z,h2,h3⟩
 have hk:∀b,okOf K w0 w σ.hs β b->okOf K w0 w' (aV (aV σ.hs m .gone) l o) (upB β l (some z')) b∧w'.heap[b]? =w.heap[b]? :=by
  rintro b ⟨h1,h2,h3⟩;refine⟨⟨Nat.lt_of_lt_of_le h1 hsz,h2,fun k hk=>?_⟩,hbl b h1 (h3 m)⟩;rcases hown2 k b hk with⟨_,h4|h4⟩| ⟨_,_,h4⟩;·omega
  ·exact h3 _ h4
  ·exact h3 _ h4
 refine⟨h.size,h.defers,?_,fun k=>(h.ts k).mono hk hext,fun k=>?_,?_,?_,?_,h.kk,h.tab.mono hk⟩
 ·refine⟨hos.trans h.below.os,htape.trans h.below.tape,hout.trans h.below.output,Nat.le_trans h.below.size hsz,fun b hb hx=>(hbl b (Nat.lt_of_lt_of_le hb h.below.size) fun he=>?_).trans (h.below.block b hb hx)⟩;rcases h.own m b he with h1|h1;·omega
  ·exact hx h1
 ·show ObOK P _ w' _ (lk (aV (aV σ.hs m .gone) l o) k) _;by_cases hkl:k=l
  ·subst hkl;rw[bH,bJ];exact ho hext hk
  ·rw[aS _ _ _ _ hkl,bO _ _ _ _ hkl];by_cases hkm:k=m;·subst hkm;rw[bH];trivial
   ·    rw[aS _ _ _ _ hkm];refine(h.hs k).mono hk (fun z b h1 h2 h3=>?_) hext;have ho1:owns σ.hs β k b:=⟨h1,z,h2,h3⟩;exact hbl b (h.blk_lt ho1) fun he=>hkm (h.sep k m b ho1 he)
 ·intro k k' b h1 h2;rcases hown2 k b h1 with⟨e1,h3|h3⟩| ⟨e1,e1',h3⟩
  ·rcases hown2 k' b h2 with⟨e2,_⟩| ⟨e2,_,h4⟩;·rw[e1,e2]
   ·have:=h.blk_lt h4;omega
  ·rcases hown2 k' b h2 with⟨e2,_⟩| ⟨e2,e2',h4⟩;·rw[e1,e2]
   ·exact absurd (h.sep _ _ _ h4 h3) e2'
  ·rcases hown2 k' b h2 with⟨e2,h4|h4⟩| ⟨e2,_,h4⟩;·have:=h.blk_lt h3;omega
   ·exact absurd (h.sep _ _ _ h3 h4) e1'
   ·exact h.sep _ _ _ h3 h4
 ·intro k b h1;rcases hown2 k b h1 with⟨e1,h3|h3⟩| ⟨e1,_,h3⟩;·exact .inl (Nat.le_trans h.below.size h3)
  ·exact h.own _ _ h3
  ·exact h.own _ _ h3
 ·intro k hk2;have hkl:k≠l:=by have:=h.kk;omega
  rw[bO _ _ _ _ hkl];exact h.ext k hk2
def rY(P:Program)(σ:St)(y:Operand)(E:TypeId)(ds:List Dt):Prop:=
 ∀(ok0:OkX)(w0:World)(n:Nat)(a:Act)(w:World)(β:Nat->Option Value),RelB P ok0 w0 n σ a w β->∃(A:Option Addr)(c:Nat)(xs:List Value),a.eval y= .slice A ds.length c∧xs.length=ds.length*P.cellsOf E∧
    (∀u∈xs,u.oneCell'=true)∧(0<ds.length->∃ad,A=some ad∧∀j u,xs[j]? =some u->w.cell? (ad.add j)=some u)∧(A=none->ds.length=0)∧
    ∀(i:Nat)(d:Dt),ds[i]? =some d->RD P (okOf ok0 w0 w σ.hs β) w E d ((xs.drop (i*P.cellsOf E)).take (P.cellsOf E))
theorem rY.row{l:Nat}{E T5:TypeId}{ds:List Dt}(hy:Ev P σ y (.row l))(hl:lk σ.hs l= .row T5 ds)(hu5:P.underlying T5=some (.slice E)):rY P σ y E ds:=by
 intro ok0 w0 n a w β r;have e:=bZ (hy _ _ _ _ _ _ r);have hob:=r.hs l;rw[hl,e]at hob;obtain⟨E',xs,hu',hown,hone,hrd⟩:=iF hob;obtain rfl:E=E':=by rw[hu5]at hu';cases hu';rfl
 rcases hown.2 with⟨h2,h3⟩| ⟨g,cap,cur,h2,_⟩;·exact⟨none,0,xs,by rw[h2,h3],hown.1,hone,fun h=>by omega,fun _=>h3,hrd⟩
 ·exact⟨_,cap,xs,h2,hown.1,hone,fun _=>⟨_,rfl,hown.cells (g:=g) (by rw[h2];rfl)⟩,fun h=>by simp at h,hrd⟩
theorem rY.lst{T3 E:TypeId}{ds:List Dt}(hu:P.underlying T3=some (.slice E))(hy:Ev P σ y (.dat T3 (.lst ds))):rY P σ y E ds:=by
 intro ok0 w0 n a w β r;have hrd:=(RV.dat_one (bQ hu rfl)).1 (hy _ _ _ _ _ _ r);obtain⟨_,ao,cap,ad,g,hcs,hlc,hm,ha,hg,hr⟩:=hrd.lst_inv hu;simp only[Dt.toLst]at hcs hlc ha hg hr;have ex:a.eval y= .slice ao ds.length cap:=by simpa using hcs
 let xs:List Value:=(List.range (ds.length*P.cellsOf E)).map fun j=>(g (j/P.cellsOf E)).getD (j%P.cellsOf E) undef
 have hget:∀i k,i<ds.length->k<P.cellsOf E->xs[i*P.cellsOf E+k]? =(g i)[k]? :=by
  intro i k hi hk;have hmul:(i+1)*P.cellsOf E<=ds.length*P.cellsOf E:=aH _ hi;rw[Nat.add_mul,Nat.one_mul]at hmul;have h1:(i*P.cellsOf E+k)/P.cellsOf E=i:=by rw[Nat.mul_comm,Nat.mul_add_div (by omega),Nat.div_eq_of_lt hk,Nat.add_zero]
  have h2:(i*P.cellsOf E+k)%P.cellsOf E=k:=by rw[Nat.mul_comm,Nat.mul_add_mod,Nat.mod_eq_of_lt hk]
  have hkl:k<(g i).length:=by rw[(hg i hi).1];exact hk
  simp only[xs,List.getElem?_map];rw[List.getElem?_range (by omega)];simp only[Option.map_some,h1,h2,List.getD,aB hkl,Option.getD_some]
 have hseg:∀i,i<ds.length->(xs.drop (i*P.cellsOf E)).take (P.cellsOf E)=g i:=by
  intro i hi;apply List.ext_getElem?;intro k;rw[cO];split;·exact hget i k hi (by assumption)
  ·rw[List.getElem?_eq_none (by rw[(hg i hi).1];omega)]
 have hsplit:∀j u,xs[j]? =some u->∃i k,i<ds.length∧k<P.cellsOf E∧j=i*P.cellsOf E+k:=by
  intro j u hj;have hlt:j<ds.length*P.cellsOf E:=by have:=(ak.1 hj).1;simpa [xs]using this
  have h0:0<P.cellsOf E:=by
   rcases Nat.eq_zero_or_pos (P.cellsOf E)with h|h;·rw[h]at hlt;omega
   ·exact h
  refine⟨j/P.cellsOf E,j%P.cellsOf E,?_,Nat.mod_lt _ h0,?_⟩;·exact(Nat.div_lt_iff_lt_mul h0).2 hlt
  ·rw[Nat.mul_comm];exact(Nat.div_add_mod j _).symm
 refine⟨ao,cap,xs,ex,by simp[xs],?_,?_,?_,?_⟩
 ·intro u hu2;obtain⟨j,hj⟩:=List.getElem?_of_mem hu2;obtain⟨i,k,hi,hk,rfl⟩:=hsplit j u hj;rw[hget i k hi hk]at hj;exact(hg i hi).2.1 u (aM hj)
 ·intro h0;refine⟨ad,(ha h0).1,fun j u hj=>?_⟩;obtain⟨i,k,hi,hk,rfl⟩:=hsplit j u hj;rw[hget i k hi hk]at hj;exact(hg i hi).2.2 k u hj
 ·intro hn;rcases Nat.eq_zero_or_pos ds.length with h|h;·exact h
  ·rw[(ha h).1]at hn;cases hn
 ·intro i d hd;have hi:i<ds.length:=(ak.1 hd).1;rw[hseg i hi];exact hr i d hd
theorem ig{xs ys:List Value}{o1 m:Nat}(h:o1+m<=xs.length):((xs++ys).drop o1).take m=(xs.drop o1).take m:=by
 apply List.ext_getElem?;intro k;rw[cO,cO];split;·rw[List.getElem?_append_left (by omega)]
 ·rfl
theorem gJ{xs ys:List Value}{o1 m:Nat}(h:xs.length<=o1):((xs++ys).drop o1).take m=(ys.drop (o1-xs.length)).take m:=by
 apply List.ext_getElem?;intro k;rw[cO,cO];split
 ·rw[List.getElem?_append_right (by omega)];congr 1;omega
 ·rfl
theorem lH{ok:Nat->Prop}{w:World}{β:Nat->Option Value}{l:Nat}{z:Value}(h:β l=some z)(h1:z.oneCell'=true):RV P ok w β (.row l) z:=
 ⟨fun hi=>by simp[AV.isAgg]at hi,fun _=> .row h h1⟩
theorem Br{d l l':Nat}{E T5 T':TypeId}{es ds:List Dt}{ok0:OkX}{w0 w:World}{a:Act}{β:Nat->Option Value}{vy:Value}{ys:List Value}(ho:o.op= .call {callee:= .builtin .append,args:= #[x,y],argTypes:= #[T,T']})(hd:o.dst=some d)(hn:d<n)(hu5:P.underlying T5=some (.slice E))
  (r:RelB P ok0 w0 n σ a w β)(ex:β l=some (a.eval x))(hl:lk σ.hs l= .row T5 es)(hf:lk σ.hs l'= .free)(hk0:σ.k0<=l')
  (ey:a.eval y=vy)(hyl:ys.length=ds.length*P.cellsOf E)(hyone:∀u∈ys,u.oneCell'=true)
  (hyrd:∀(i:Nat)(d:Dt),ds[i]? =some d->RD P (okOf ok0 w0 w σ.hs β) w E d ((ys.drop (i*P.cellsOf E)).take (P.cellsOf E)))
  (key:∀(bl:Value)(xs:List Value),a.eval x=bl->w.ownsRow 0 E (P.cellsOf E) bl es.length xs->∃v' w',(Builtin.append_ #[T,T'] o.type #[bl,vy]).run P w= .ok v' w'∧w'.ownsRow 0 E (P.cellsOf E) v' (es.length+ds.length) (xs++ys)∧w.grownBy w' bl.ownBlock∧
   (v'.ownBlock=bl.ownBlock∨v'.ownBlock=some w.heap.size))(K:Act->World->Prop)(Q:Exit->Act->World->Prop)
  (hK:∀a' w',Rel P ok0 w0 n (((σ.lay l .gone).lay l' (.row T5 (es++ds))).put d (.row l')) a' w'->K a' w'):o.wp P a w K Q:=by
 have hob0:=r.hs l;rw[hl,ex]at hob0;obtain⟨E',xs,hu',hown,hone,hrd⟩:=iF hob0;obtain rfl:E=E':=by rw[hu5]at hu';cases hu';rfl
 obtain⟨bl,ebl⟩:∃bl,a.eval x=bl:=⟨_,rfl⟩;have key:=key bl xs ebl (ebl▸hown);rw[ebl]at ex hown;obtain⟨v',w',hrun,hown',hgr,hblk'⟩:=key;have hob':v'.ownBlock=blk v':=by rcases hown'.2 with⟨rfl,_⟩| ⟨g,cap,cur,rfl,_⟩<;>rfl
 have hbl:bl.ownBlock=blk bl:=by rcases hown.2 with⟨rfl,_⟩| ⟨g,cap,cur,rfl,_⟩<;>rfl
 unfold Oper.wp execOp;simp only[ho,resolve,invoke,builtin,Sem.run_bind,Sem.run_pure,Result.andThen_ok,List.map_toArray,List.map_cons,List.map_nil,ebl,ey,hrun];refine hK _ _ ?_;rw[hd];have hlown:∀b,blk bl=some b->owns σ.hs β l b:=fun b hb=>⟨by rw[hl];rfl,bl,ex,.inl hb⟩;have hnew:=r.take l l' (.row T5 (es++ds)) v' w' (by rw[hl];simp) hf hk0 hgr.os hgr.tape hgr.output hgr.size
  (fun b hb hne=>hgr.block b hb fun e=>hne (hlown b (by rw[←hbl,←e])))
  (fun b hb=>by
   have hb:=hb.of hown'.notup;rw[←hob']at hb;rcases hblk' with h|h;·right;exact hlown b (by rw[←hbl,←h,hb])
   ·left;rw[h]at hb;cases hb;exact aL _)
  (fun hex hk=>by
   refine⟨E,v',xs++ys,rfl,hu5,by simpa using hown',?_,?_⟩
   ·    intro u hu2;rcases List.mem_append.1 hu2 with h|h;·exact hone u h
        ·exact hyone u h
   ·    intro i' d' hd';have hxl:=hown.1;by_cases hlt:i'<es.length
        ·rw[List.getElem?_append_left hlt]at hd';have hmul:(i'+1)*P.cellsOf E<=es.length*P.cellsOf E:=aH _ hlt;rw[Nat.add_mul,Nat.one_mul]at hmul;rw[ig (by omega)];exact(hrd i' d' hd').mono hk
        ·rw[List.getElem?_append_right (by omega)]at hd';have hmul:es.length*P.cellsOf E<=i'*P.cellsOf E:=aH _ (by omega);rw[gJ (by omega),hxl,←Nat.sub_mul];exact(hyrd _ d' hd').mono hk)
 refine Rel.put hnew hn (lH (bJ _ _ _) ?_);rcases hown'.2 with⟨rfl,_⟩| ⟨g,cap,cur,rfl,_⟩<;>rfl
theorem qd{E m nd:Nat}{z:Dt}{w:World}{A:Option Addr}{c:Nat}{ys:List Value}(hu:P.underlying T=some (.slice E))(hz:Zero P E z)(h0:P.cellsOf E≠0)(hbound:(m+nd)*P.bytesOf E<=140737488355328)(hyl:ys.length=nd*P.cellsOf E)(hyone:∀u∈ys,u.oneCell'=true)
  (hyc:0<nd->∃ad,A=some ad∧∀j u,ys[j]? =some u->w.cell? (ad.add j)=some u)(hynone:A=none->nd=0)(hlim:m+nd<=137438953472){bl:Value}{xs:List Value}(hown:w.ownsRow 0 E (P.cellsOf E) bl m xs):
  ∃v' w',(Builtin.append_ #[T,T] o.type #[bl,.slice A nd c]).run P w= .ok v' w'∧w'.ownsRow 0 E (P.cellsOf E) v' (m+nd) (xs++ys)∧w.grownBy w' bl.ownBlock∧(v'.ownBlock=bl.ownBlock∨v'.ownBlock=some w.heap.size):=by
 obtain⟨i,zv,hi,hzv,hzs,_⟩:=hz.ex;have hsz:i.size=P.cellsOf E:=by simp[Program.cellsOf,hi]
 have hbz:i.bytes=P.bytesOf E:=by simp[Program.bytesOf,hi]
 have hml:m+nd<=maxLen:=by unfold maxLen;omega
 cases A with
 |none=>
  have hd0:=hynone rfl;have:ys=[]:=List.eq_nil_of_length_eq_zero (by rw[hyl,hd0];simp);subst this;rw[hd0];refine⟨bl,w,jc w 0 T o.type E i (P.cellsOf E) hu hi _ _ _ hown c,by simpa using hown,⟨rfl,rfl,rfl,aL _,fun _ _ _=>rfl⟩,.inl rfl⟩
 |some ad=>
  have hcells:∀j u,ys[j]? =some u->w.cell? (ad.add j)=some u:=by
   rcases Nat.eq_zero_or_pos nd with h|h
   ·    have:ys=[]:=List.eq_nil_of_length_eq_zero (by rw[hyl,h];simp);subst this;intro j u hj;simp at hj
   ·    obtain⟨ad',e,hc⟩:=hyc h;cases e;exact hc
  obtain⟨v',w',h1,h2,h3,_,h5⟩:=run_append_own_at (P:=P) w 0 T o.type E i zv (P.cellsOf E) (P.bytesOf E) hu hi hzv hsz hbz hzs (by omega) bl m xs hown ad nd c ys hyl hcells hyone hml hbound (aN _);exact⟨v',w',h1,h2,h3,h5⟩
theorem wM{d l l':Nat}{E T5:TypeId}{es ds:List Dt}{z:Dt}{ok0:OkX}{w0 w:World}{a:Act}{β:Nat->Option Value}{A:Option Addr}{c:Nat}{ys:List Value}(ho:o.op= .call {callee:= .builtin .append,args:= #[x,y],argTypes:= #[T,T]})(hd:o.dst=some d)(hn:d<n)(hu:P.underlying T=some (.slice E))(hu5:P.underlying T5=some (.slice E))
  (hz:Zero P E z)(h0:P.cellsOf E≠0)(hbd:(es.length+ds.length)*P.bytesOf E<=140737488355328)(r:RelB P ok0 w0 n σ a w β)(ex:β l=some (a.eval x))(hl:lk σ.hs l= .row T5 es)(hf:lk σ.hs l'= .free)(hk0:σ.k0<=l')
  (ey:a.eval y= .slice A ds.length c)(hyl:ys.length=ds.length*P.cellsOf E)(hyone:∀u∈ys,u.oneCell'=true)(hyc:0<ds.length->∃ad,A=some ad∧∀j u,ys[j]? =some u->w.cell? (ad.add j)=some u)(hynone:A=none->ds.length=0)
  (hyrd:∀(i:Nat)(d:Dt),ds[i]? =some d->RD P (okOf ok0 w0 w σ.hs β) w E d ((ys.drop (i*P.cellsOf E)).take (P.cellsOf E)))(hlim:es.length+ds.length<=137438953472)(K:Act->World->Prop)(Q:Exit->Act->World->Prop)
  (hK:∀a' w',Rel P ok0 w0 n (((σ.lay l .gone).lay l' (.row T5 (es++ds))).put d (.row l')) a' w'->K a' w'):o.wp P a w K Q:=by
 refine Br ho hd hn hu5 r ex hl hf hk0 ey hyl hyone hyrd (fun bl xs ebl hown=>qd hu hz h0 hbd hyl hyone hyc hynone hlim hown) K Q hK
theorem WA{d l l':Nat}{E T5:TypeId}{es ds:List Dt}{z:Dt}(ho:o.op= .call {callee:= .builtin .append,args:= #[x,y],argTypes:= #[T,T]})(hd:o.dst=some d)(hn:d<n)(hu:P.underlying T=some (.slice E))(hu5:P.underlying T5=some (.slice E))
  (hz:Zero P E z)(h0:P.cellsOf E≠0)(hbd:(es.length+ds.length)*P.bytesOf E<=140737488355328)(hx:Ev P σ x (.row l))(hl:lk σ.hs l= .row T5 es)(hf:lk σ.hs l'= .free)(hk0:σ.k0<=l')(hy:rY P σ y E ds)(hlim:es.length+ds.length<=137438953472):
  bD P n o σ (((σ.lay l .gone).lay l' (.row T5 (es++ds))).put d (.row l')):=by
 rintro ok0 w0 a w ⟨β,r⟩ K Q hK;obtain⟨A,c,ys,ey,hyl,hyone,hyc,hynone,hyrd⟩:=hy _ _ _ _ _ _ r;exact wM ho hd hn hu hu5 hz h0 hbd r (bZ (hx _ _ _ _ _ _ r)) hl hf hk0 ey hyl hyone hyc hynone hyrd hlim K Q hK
theorem Rel.newRow{ok0:OkX}{w0 w:World}{a:Act}{β:Nat->Option Value}(r:RelB P ok0 w0 n σ a w β){l E:Nat}(hu:P.underlying T=some (.slice E))(hf:lk σ.hs l= .free)(hk0:σ.k0<=l){c:Array Value}{es:List Dt}{cap:Nat}(hs:c.size=cap*P.cellsOf E)(hle:es.length<=cap)(hm:cap<=maxLen)
  (hone:∀u∈c.toList,u.oneCell'=true)
  (hc:∀(i:Nat)(d:Dt),es[i]? =some d->RD P (okOf ok0 w0 w σ.hs β) w E d ((c.toList.drop (i*P.cellsOf E)).take (P.cellsOf E))):
  RelB P ok0 w0 n (σ.lay l (.row T es)) a (w.alloc (.cells c E)) (upB β l (some (.slice (some ⟨w.heap.size,0,none⟩) es.length cap))):=by
 have hfree:=r.hs l;rw[hf]at hfree;refine r.upd l (.row T es) _ _ (.inr ⟨hfree,hk0⟩) rfl rfl rfl (by simp) (fun b hb _=>Below.heap_alloc w _ b hb) (fun z b _ hz hb=> .inl (by cases hz;simp[Blk,blk]at hb;omega)) fun hx hk=>?_;have hmul:es.length*P.cellsOf E<=cap*P.cellsOf E:=aH _ hle;refine⟨E,_,c.toList.take (es.length*P.cellsOf E),rfl,hu,⟨by simp only[List.length_take,Array.length_toList];omega,.inr ⟨w.heap.size,cap,c,rfl,aN _,iG w c E,hle,hm,hs,rfl⟩⟩,fun u hu=>hone u (List.mem_of_mem_take hu),fun i d hd=>?_⟩;have hi:i<es.length:=(ak.1 hd).1;have hmul2:(i+1)*P.cellsOf E<=es.length*P.cellsOf E:=aH _ hi;rw[Nat.add_mul,Nat.one_mul]at hmul2;have e:((c.toList.take (es.length*P.cellsOf E)).drop (i*P.cellsOf E)).take (P.cellsOf E)=(c.toList.drop (i*P.cellsOf E)).take (P.cellsOf E):=by
  apply List.ext_getElem?;intro k;rw[cO,cO];split;·rw[List.getElem?_take,if_pos (by omega)]
  ·rfl
 rw[e];exact(hc i d hd).mono hk
theorem DK{z:Array Value}{N i:Nat}(h:i*z.size+z.size<=N):((madeCells z N).toList.drop (i*z.size)).take z.size=z.toList:=by
 apply List.ext_getElem?;intro k;rw[cO];split
 ·have hk:k<z.size:=by assumption
  have e:(i*z.size+k)%z.size=k:=by rw[Nat.mul_comm,Nat.mul_add_mod,Nat.mod_eq_of_lt hk]
  have hlt:i*z.size+k<N:=by omega
  simp[madeCells,hlt,e,hk]
 ·rw[List.getElem?_eq_none (by simp;omega)]
theorem amz{d l:Nat}{E TI TJ:TypeId}{k k':IntKind}{len cap:Int}{z:Dt}(ho:o.op= .makeSlice T x y)(hd:o.dst=some d)(hn:d<n)(hu:P.underlying T=some (.slice E))(hf:lk σ.hs l= .free)(hk0:σ.k0<=l)
  (hz:Zero P E z)(h0:P.cellsOf E≠0)(hby:P.bytesOf E*cap.toNat<=140737488355328)(hi:P.underlying TI=some (.int k))(hj:P.underlying TJ=some (.int k'))(hx:Ev P σ x (.dat TI (.int len)))(hy:Ev P σ y (.dat TJ (.int cap)))
  (hl0:0<=len)(hlc:len<=cap)(hlim:cap<=137438953472):bD P n o σ ((σ.lay l (.row T (List.replicate len.toNat z))).put d (.row l)):=by
 rintro ok0 w0 a w ⟨β,r⟩ K Q hK;obtain⟨i,zv,hinf,hzv,hzs,hzrd⟩:=hz.ex;obtain⟨_,e1,_⟩:=RV.int hi (hx _ _ _ _ _ _ r);obtain⟨_,e2,_⟩:=RV.int hj (hy _ _ _ _ _ _ r);simp only[Dt.toInt]at e1 e2;have hsz:i.size=P.cellsOf E:=by simp[Program.cellsOf,hinf]
 have hbz:i.bytes=P.bytesOf E:=by simp[Program.bytesOf,hinf]
 have hb:(i.bytes:Int)*cap<=281474976710656:=by
  rw[hbz];have h2:((P.bytesOf E*cap.toNat:Nat):Int)<=140737488355328:=by omega
  rw[Int.natCast_mul,Int.toNat_of_nonneg (by omega)]at h2;omega
 have hrun:=run_make (P:=P) w T E i zv hu hinf hzv k k' len cap hl0 hlc hb (by omega);unfold Oper.wp execOp;simp only[ho,e1,e2,Sem.run_bind,hrun,Result.andThen_ok,Sem.run_pure];refine hK _ _ ?_;rw[hd];have hrow:=Rel.newRow (l:=l) (E:=E) (es:=List.replicate len.toNat z) (cap:=cap.toNat) (c:=madeCells zv.cells (cap.toNat*i.size)) r hu hf hk0 (by rw[size_madeCells,hsz]) (by simp;omega) (by unfold maxLen;omega)
  (fun u hu2=>by
   obtain⟨j,hj2⟩:=List.getElem?_of_mem hu2;have hone:=(hzrd (fun _=>True) w).oneCell;simp only[madeCells,Array.getElem?_toList,Array.getElem?_map,aW]at hj2;obtain⟨q,_,rfl⟩:=hj2;have hlt:q%zv.cells.size<zv.cells.size:=Nat.mod_lt _ (by omega);have:zv.cells[q%zv.cells.size]! =zv.cells[q%zv.cells.size]:=by simp[hlt]
   rw[this];exact hone _ (by simp))
  (fun i' d' hd'=>by
   have hi':i'<len.toNat:=by have:=(ak.1 hd').1;simpa using this
   rw[List.getElem?_replicate,if_pos hi']at hd';cases hd';have hmul:(i'+1)*P.cellsOf E<=cap.toNat*P.cellsOf E:=aH _ (by omega);rw[Nat.add_mul,Nat.one_mul]at hmul;have:=DK (z:=zv.cells) (N:=cap.toNat*i.size) (i:=i') (by rw[hsz,hzs];omega);rw[hzs]at this;rw[this];exact hzrd _ _)
 have hlen:(List.replicate len.toNat z).length=len.toNat:=by simp
 rw[hlen]at hrow;exact Rel.put hrow hn (lH (bJ _ _ _) rfl)
inductive EvL (P:Program) (σ:St) (E:TypeId):List Operand->List Dt->Prop where
 |nil:EvL P σ E [] []
 |cons {x:Operand} {d:Dt} {xs:List Operand} {ds:List Dt} (h:Ev P σ x (.dat E d)) (r:EvL P σ E xs ds):EvL P σ E (x::xs) (d::ds)
theorem EvL.len{E:TypeId}{xs:List Operand}{ds:List Dt}(h:EvL P σ E xs ds):xs.length=ds.length:=by
 induction h with
 |nil=>rfl
 |cons _ _ ih=>simp[ih]
theorem EvL.get{E:TypeId}{xs:List Operand}{ds:List Dt}(h:EvL P σ E xs ds):∀(i:Nat)(d:Dt),ds[i]? =some d->∃x,xs[i]? =some x∧Ev P σ x (.dat E d):=by
 induction h with
 |nil=>intro i d hd;simp at hd
 | @cons x d xs ds h _ ih=>
   intro i d' hd;cases i with
   |zero=>simp only[aO,aA]at hd;subst hd;exact⟨x,rfl,h⟩
   |succ i=>simp only[aR]at hd;obtain⟨x',h1,h2⟩:=ih i d' hd;exact⟨x',by simpa using h1,h2⟩
theorem EvL.get'{E:TypeId}{xs:List Operand}{ds:List Dt}(h:EvL P σ E xs ds):∀x∈xs,∃d,Ev P σ x (.dat E d):=by
 induction h with
 |nil=>intro x hx;simp at hx
 | @cons x d xs ds h _ ih=>
   intro x' hx;rcases List.mem_cons.1 hx with rfl|hx;·exact⟨d,h⟩
   ·exact ih x' hx
theorem DL{d l len:Nat}{E:TypeId}{parts:Array (Nat×Operand)}{xs:List Operand}{ds:List Dt}{z:Dt}(ho:o.op= .buildSlice T len parts)(hd:o.dst=some d)(hn:d<n)(hu:P.underlying T=some (.slice E))(hf:lk σ.hs l= .free)(hk0:σ.k0<=l)
  (hz:Zero P E z)(h0:P.cellsOf E≠0)(hp:parts.toList=(xs.zipIdx 0).map fun p=>(p.2,p.1))(hlen:len=xs.length)(hpos:xs≠[])(hsmall:len*P.cellsOf E<=16777216)(hev:EvL P σ E xs ds)
  (hs:∀(d':Dt)(ok:Nat->Prop)(w:World)(β:Nat->Option Value)(cs:List Value),RA P ok w β (.dat E d') cs->((AV.dat E d').isAgg P=false->cs.length=1)->cs.length=P.cellsOf E):
  bD P n o σ ((σ.lay l (.row T ds)).put d (.row l)):=by
 rintro ok0 w0 a w ⟨β,r⟩ K Q hK;obtain⟨i,zv,hinf,hzv,hzs,hzrd⟩:=hz.ex;have hsz:i.size=P.cellsOf E:=by simp[Program.cellsOf,hinf]
 have hvc:∀(x':Operand)(d':Dt),Ev P σ x' (.dat E d')->(a.eval x').cells.size=P.cellsOf E∧RA P (okOf ok0 w0 w σ.hs β) w β (.dat E d') (a.eval x').cells.toList:=by
  intro x' d' hx';have hv:=RV.to1 (by simp) (by simp) (hx' _ _ _ _ _ _ r);refine⟨?_,hv.cells⟩;have:=hs d' _ _ _ _ hv.cells (fun hi=>by have hr:=hv.2 hi;have h1':=hr.oneCell (a.eval x') (by simp);generalize a.eval x'=z at h1';cases z<;>simp_all [Value.cells,Value.oneCell'])
  simpa using this
 have hlx:0<xs.length:=List.length_pos_iff.2 hpos;have hdx:=hev.len;obtain⟨c,hfill,hcs,hck⟩:=Great.fill_dense (s:=P.cellsOf E) (by omega) (xs.map a.eval) 0 ((Array.range (len*P.cellsOf E)).map (zv.cells[· %zv.cells.size]!)) (fun u hu2=>by obtain⟨x',hx',rfl⟩:=List.mem_map.1 hu2;obtain⟨d',hd'⟩:=hev.get' x' hx';exact(hvc x' d' hd').1) (by simp[hlen])
 have hparts:(parts.map fun(p:Nat×Operand)=>(p.1,a.eval p.2)).toList=((xs.map a.eval).zipIdx 0).map fun x=>(x.2,x.1):=by rw[Array.toList_map,hp,List.map_map,List.zipIdx_map,List.map_map];rfl
 have hrun:=run_buildSlice (P:=P) w T E len (parts.map fun(p:Nat×Operand)=>(p.1,a.eval p.2)) c i zv hu hinf hzv (by rw[hsz];omega) (by rw[hsz,hlen];have:=Nat.mul_pos hlx (Nat.pos_of_ne_zero h0);omega) (by rw[hparts,hsz];exact hfill)
 unfold Oper.wp execOp;simp only[ho,Sem.run_bind];have hmap:(parts.map fun x=>match x with|(i,x)=>(i,a.eval x))=parts.map fun(p:Nat×Operand)=>(p.1,a.eval p.2):=by congr 1
 rw[hmap,hrun];simp only[Result.andThen_ok,Sem.run_pure];refine hK _ _ ?_;rw[hd];have hcsz:c.size=len*P.cellsOf E:=by rw[hcs];simp
 have hseg:∀(j:Nat)(x':Operand),xs[j]? =some x'->(a.eval x').cells.size=P.cellsOf E->(c.toList.drop (j*P.cellsOf E)).take (P.cellsOf E)=(a.eval x').cells.toList:=by
  intro j x' hx' hsz';have hj:j<xs.length:=(ak.1 hx').1;have hmul:(j+1)*P.cellsOf E<=xs.length*P.cellsOf E:=aH _ hj;rw[Nat.add_mul,Nat.one_mul]at hmul;apply List.ext_getElem?;intro k;rw[cO];split
  ·have hk:k<P.cellsOf E:=by assumption
   have h1:(j*P.cellsOf E+k)/P.cellsOf E=j:=by rw[Nat.mul_comm,Nat.mul_add_div (by omega),Nat.div_eq_of_lt hk,Nat.add_zero]
   have h2:(j*P.cellsOf E+k)%P.cellsOf E=k:=by rw[Nat.mul_comm,Nat.mul_add_mod,Nat.mod_eq_of_lt hk]
   rw[Array.getElem?_toList,hck,if_pos (by simp;omega)];simp[h1,h2,hx']
  ·rw[List.getElem?_eq_none (by simp;omega)]
 have hrow:=Rel.newRow (l:=l) (E:=E) (es:=ds) (cap:=len) (c:=c) r hu hf hk0 hcsz (by omega) (by unfold maxLen;have:len*1<=len*P.cellsOf E:=Nat.mul_le_mul_left _ (by omega);omega)
  (fun u hu2=>by
   obtain⟨j,hj⟩:=List.getElem?_of_mem hu2;rw[Array.getElem?_toList,hck]at hj;have hjlt:j<len*P.cellsOf E:=by
        rcases Nat.lt_or_ge j (len*P.cellsOf E)with h|h;·exact h
        ·rw[if_neg (by simp[←hlen];omega),Array.getElem?_eq_none (by simp;omega)]at hj;cases hj
   rw[if_pos (by simp[←hlen];exact hjlt)]at hj;simp only[aj,List.getElem?_map,aW]at hj;obtain⟨v1,⟨x',hx',rfl⟩,hv1⟩:=hj;obtain⟨d',hd'⟩:=hev.get' x' (aM hx');exact(hvc x' d' hd').2.oneCell u (by simpa using Array.mem_of_getElem? hv1))
  (fun j d' hd'=>by
   obtain⟨x',hx',hx2⟩:=hev.get j d' hd';obtain⟨q1,q2⟩:=hvc x' d' hx2;rw[hseg j x' hx' q1];cases q2 with
   |dat q2=>exact q2)
 rw[show ds.length=len by omega]at hrow;exact Rel.put hrow hn (lH (bJ _ _ _) rfl)
theorem Ij(w:World){len:Nat}{E:TypeId}{zi ie:TypeInfo}{za:Value}{parts:Array (Nat×Value)}{c:Array Value}(hu:P.underlying T=some (.array len E))(hzi:P.info? T=some zi)(hza:zi.zero=some za)(hie:P.info? E=some ie)
  (hf:Instr.fill (fun i=>some (i*ie.size,ie.size)) za.cells parts.toList=some c):(Instr.build T parts).run P w= .ok (.agg c) w:=by
 simp[Instr.build,zeroValue,typeInfo,hzi,hza,run_underlying hu,sizeOf,hie,hf]
theorem Kr{d len:Nat}{E:TypeId}{parts:Array (Nat×Operand)}{xs:List Operand}{ds:List Dt}{zi:TypeInfo}{za:Value}(ho:o.op= .build T parts)(hd:o.dst=some d)(hn:d<n)(hu:P.underlying T=some (.array len E))
  (hzi:P.info? T=some zi)(hza:zi.zero=some za)(hzs:za.cells.size=len*P.cellsOf E)(hT:P.cellsOf T=len*P.cellsOf E)(h0:P.cellsOf E≠0)(hp:parts.toList=(xs.zipIdx 0).map fun p=>(p.2,p.1))(hlen:len=xs.length)(hev:EvL P σ E xs ds)
  (hs:∀(d':Dt)(ok:Nat->Prop)(w:World)(β:Nat->Option Value)(cs:List Value),RA P ok w β (.dat E d') cs->((AV.dat E d').isAgg P=false->cs.length=1)->cs.length=P.cellsOf E):
  bD P n o σ (σ.put d (.dat T (.lst ds))):=
 bf hd hn fun ok0 w0 a w β r=>by
 obtain⟨ie,hie⟩:∃ie,P.info? E=some ie:=by
  cases hi:P.info? E with
  |none=>exact absurd (by simp[Program.cellsOf,hi]) h0
  |some ie=>exact⟨ie,rfl⟩
 have hsz:ie.size=P.cellsOf E:=by simp[Program.cellsOf,hie]
 have hvc:∀(x':Operand)(d':Dt),Ev P σ x' (.dat E d')->(a.eval x').cells.size=P.cellsOf E∧RA P (okOf ok0 w0 w σ.hs β) w β (.dat E d') (a.eval x').cells.toList:=by
  intro x' d' hx';have hv:=RV.to1 (by simp) (by simp) (hx' _ _ _ _ _ _ r);refine⟨?_,hv.cells⟩;have:=hs d' _ _ _ _ hv.cells (fun hi=>by have hr:=hv.2 hi;have h1':=hr.oneCell (a.eval x') (by simp);generalize a.eval x'=z at h1';cases z<;>simp_all [Value.cells,Value.oneCell'])
  simpa using this
 have hdx:=hev.len;obtain⟨c,hfill,hcs,hck⟩:=Great.fill_dense (s:=P.cellsOf E) (by omega) (xs.map a.eval) 0 za.cells (fun u hu2=>by obtain⟨x',hx',rfl⟩:=List.mem_map.1 hu2;obtain⟨d',hd'⟩:=hev.get' x' hx';exact(hvc x' d' hd').1) (by simp[hzs,hlen])
 have hparts:(parts.map fun(p:Nat×Operand)=>(p.1,a.eval p.2)).toList=((xs.map a.eval).zipIdx 0).map fun x=>(x.2,x.1):=by rw[Array.toList_map,hp,List.map_map,List.zipIdx_map,List.map_map];rfl
 have hrun:=Ij (P:=P) w (parts:=parts.map fun(p:Nat×Operand)=>(p.1,a.eval p.2)) (c:=c) hu hzi hza hie (by rw[hparts,hsz];exact hfill);have hmap:(parts.map fun x=>match x with|(i,x)=>(i,a.eval x))=parts.map fun(p:Nat×Operand)=>(p.1,a.eval p.2):=by congr 1
 have hcsz:c.size=len*P.cellsOf E:=by rw[hcs];exact hzs
 have hseg:∀(j:Nat)(x':Operand),xs[j]? =some x'->(a.eval x').cells.size=P.cellsOf E->(c.toList.drop (j*P.cellsOf E)).take (P.cellsOf E)=(a.eval x').cells.toList:=by
  intro j x' hx' hsz';have hj:j<xs.length:=(ak.1 hx').1;have hmul:(j+1)*P.cellsOf E<=xs.length*P.cellsOf E:=aH _ hj;rw[Nat.add_mul,Nat.one_mul]at hmul;apply List.ext_getElem?;intro k;rw[cO];split
  ·have hk:k<P.cellsOf E:=by assumption
   have h1:(j*P.cellsOf E+k)/P.cellsOf E=j:=by rw[Nat.mul_comm,Nat.mul_add_div (by omega),Nat.div_eq_of_lt hk,Nat.add_zero]
   have h2:(j*P.cellsOf E+k)%P.cellsOf E=k:=by rw[Nat.mul_comm,Nat.mul_add_mod,Nat.mod_eq_of_lt hk]
   rw[Array.getElem?_toList,hck,if_pos (by simp;omega)];simp[h1,h2,hx']
  ·rw[List.getElem?_eq_none (by simp;omega)]
 refine⟨.agg c,by simp only[execOp,ho,Sem.run_bind,hrun,Result.andThen_ok,Sem.run_pure],(RV.dat_agg (Bp hu)).2 ⟨c.toList,rfl,?_⟩⟩;refine .arr hu (by omega) (by rw[Array.length_toList,hcsz,hT]) (fun u hu2=>?_) (fun j d' hd'=>?_)
 ·obtain⟨j,hj⟩:=List.getElem?_of_mem hu2;rw[Array.getElem?_toList,hck]at hj;have hjlt:j<len*P.cellsOf E:=by
   rcases Nat.lt_or_ge j (len*P.cellsOf E)with h|h;·exact h
   ·    rw[if_neg (by simp[←hlen];omega),Array.getElem?_eq_none (by omega)]at hj;cases hj
  rw[if_pos (by simp[←hlen];exact hjlt)]at hj;simp only[aj,List.getElem?_map,aW]at hj;obtain⟨v1,⟨x',hx',rfl⟩,hv1⟩:=hj;obtain⟨d',hd'⟩:=hev.get' x' (aM hx');exact(hvc x' d' hd').2.oneCell u (by simpa using Array.mem_of_getElem? hv1)
 ·obtain⟨x',hx',hx2⟩:=hev.get j d' hd';obtain⟨q1,q2⟩:=hvc x' d' hx2;rw[hseg j x' hx' q1];cases q2 with
  |dat q2=>exact q2
end
end Go.Am
namespace Go.Am
open Go.RowKit Dt
def idx(l:List Dt)(i:Int):Option Dt:=if 0<=i then l[i.toNat]? else none
def idxS(s:ByteArray)(i:Int):Option Int:=if 0<=i then(s[i.toNat]?).map fun c=>(c.toNat:Int)else none
def cutS(s:ByteArray)(i j:Int):Option ByteArray:=if 0<=i∧i<=j∧j<=s.size then some (s.extract i.toNat j.toNat)else none
def cutL(l:List Dt)(i j:Int):Option (List Dt):=if 0<=i∧i<=j∧j<=l.length then some ((l.drop i.toNat).take (j.toNat-i.toNat))else none
def app(l r:List Dt):Option (List Dt):=if l.length+r.length<=137438953472 then some (l++r)else none
def WB(b:Nat)(l r:List Dt):Option (List Dt):=bif Nat.ble b 1024 then app l r else bif Nat.ble b 65536 then(if l.length+r.length<=2147483648 then some (l++r)else none)else none
def abS{R:Type}(b:Nat)(l r:List Dt)(k:List Dt->Option R):Option R:=bif Nat.ble b 1024 then(app l r).bind k else(WB b l r).bind k
def mkL(len cap:Int)(z:Dt):Option (List Dt):=if 0<=len∧len<=cap∧cap<=137438953472 then some (List.replicate len.toNat z)else none
def mkB(len cap:Int)(z:Dt):Option (List Dt):=if 0<=len∧len<=cap∧cap<=2147483648 then some (List.replicate len.toNat z)else none
def mkK{R:Type}(b:Nat)(len cap:Int)(z:Dt)(k:List Dt->Option R):Option R:=bif Nat.ble b 1024 then(mkL len cap z).bind k else bif Nat.ble b 65536 then(mkB len cap z).bind k else none
def inL(l:List Dt)(i:Int):Option Unit:=if 0<=i∧i<l.length then some ()else none
def quo(k:IntKind)(a b:Int):Option Int:=if b≠0 then some (k.wrap (a.tdiv b))else none
def rem(a b:Int):Option Int:=if b≠0 then some (a.tmod b)else none
theorem rZ{l:List Dt}{i:Int}{e:Dt}(h:idx l i=some e):0<=i∧l[i.toNat]? =some e:=by
 unfold idx at h;split at h;·exact⟨by assumption,h⟩
 ·cases h
theorem WC{s:ByteArray}{i c:Int}(h:idxS s i=some c):0<=i∧∃u:UInt8,s[i.toNat]? =some u∧(u.toNat:Int)=c:=by
 unfold idxS at h;split at h
 ·refine⟨by assumption,?_⟩;simp only[aW]at h;exact h
 ·cases h
theorem WE{s r:ByteArray}{i j:Int}(h:cutS s i j=some r):0<=i∧i<=j∧j<=s.size∧s.extract i.toNat j.toNat=r:=by
 unfold cutS at h;split at h;·rename_i hc;exact⟨hc.1,hc.2.1,hc.2.2,by simpa using h⟩
 ·cases h
theorem mY{l r:List Dt}{i j:Int}(h:cutL l i j=some r):0<=i∧i<=j∧j<=l.length∧(l.drop i.toNat).take (j.toNat-i.toNat)=r:=by
 unfold cutL at h;split at h;·rename_i hc;exact⟨hc.1,hc.2.1,hc.2.2,by simpa using h⟩
 ·cases h
theorem Ku{l r s:List Dt}(h:app l r=some s):l.length+r.length<=137438953472∧l++r=s:=by
 unfold app at h;split at h;·exact⟨by assumption,by simpa using h⟩
 ·cases h
theorem uR{R:Type}{b:Nat}{l r:List Dt}{k:List Dt->Option R}{x:R}(h:abS b l r k=some x):∃rs,WB b l r=some rs∧k rs=some x:=by
 unfold abS at h;cases h1:Nat.ble b 1024 with
 |true=>
  rw[h1,cond_true]at h;have e:WB b l r=app l r:=by unfold WB;rw[h1];rfl
  rw[e];exact aj.1 h
 |false=>
  rw[h1,cond_false]at h;exact aj.1 h
theorem uS{b:Nat}{l r s:List Dt}(h:WB b l r=some s):l.length+r.length<=137438953472∧l++r=s∧(l.length+r.length)*b<=140737488355328:=by
 unfold WB at h;cases h1:Nat.ble b 1024 with
 |true=>
  rw[h1,cond_true]at h;obtain⟨p1,p2⟩:=Ku h;have:=Nat.mul_le_mul p1 (aI h1);exact⟨p1,p2,by omega⟩
 |false=>
  rw[h1,cond_false]at h;cases h2:Nat.ble b 65536 with
  |false=>rw[h2,cond_false]at h;cases h
  |true=>
   rw[h2,cond_true]at h;split at h
   ·    next h3=>
        cases h;have:=Nat.mul_le_mul h3 (aI h2);exact⟨by omega,rfl,by omega⟩
   ·cases h
theorem abT{len cap:Int}{z:Dt}{s:List Dt}(h:mkL len cap z=some s):0<=len∧len<=cap∧cap<=137438953472∧List.replicate len.toNat z=s:=by
 unfold mkL at h;split at h;·rename_i hc;exact⟨hc.1,hc.2.1,hc.2.2,by simpa using h⟩
 ·cases h
theorem abU{R:Type}{b:Nat}{len cap:Int}{z:Dt}{k:List Dt->Option R}{x:R}(h:mkK b len cap z k=some x):∃s,0<=len∧len<=cap∧cap<=137438953472∧List.replicate len.toNat z=s∧b*cap.toNat<=140737488355328∧k s=some x:=by
 unfold mkK at h;cases h1:Nat.ble b 1024 with
 |true=>
  rw[h1,cond_true]at h;obtain⟨s,h2,h3⟩:=aj.1 h;obtain⟨p1,p2,p3,p4⟩:=abT h2;have hc:cap.toNat<=137438953472:=by omega
  have:=Nat.mul_le_mul (aI h1) hc;exact⟨s,p1,p2,p3,p4,by omega,h3⟩
 |false=>
  rw[h1,cond_false]at h;cases h2:Nat.ble b 65536 with
  |false=>rw[h2,cond_false]at h;cases h
  |true=>
   rw[h2,cond_true]at h;obtain⟨s,h4,h3⟩:=aj.1 h;unfold mkB at h4;split at h4
   ·    next hc=>
        have hc':cap.toNat<=2147483648:=by omega
        have:=Nat.mul_le_mul (aI h2) hc';exact⟨s,hc.1,hc.2.1,by omega,by simpa using h4,by omega,h3⟩
   ·cases h4
theorem Bt{l:List Dt}{i:Int}{x:Unit}(h:inL l i=some x):0<=i∧i<l.length:=by
 unfold inL at h;split at h;·assumption
 ·cases h
section
variable{P:Program}{n:Nat}{o:Oper}{σ σ':St}{x y:Operand}{v:AV}{T:TypeId}
def compat(P:Program)(T T':TypeId):Bool:=
 Nat.beq T T'||match P.underlying T,P.underlying T' with
 |some (.int k),some (.int k')=>decide (k=k')
 |some .bool,some .bool=>true
 |some .string,some .string=>true
 |some (.slice E),some (.slice E')=>Nat.beq E E'
 |_,_=>false
theorem RD.compat{ok:Nat->Prop}{w:World}{d:Dt}{cs:List Value}{T':TypeId}(h:RD P ok w T d cs)(hc:Am.compat P T T'=true):RD P ok w T' d cs:=by
 unfold Am.compat at hc;rw[Bool.or_eq_true]at hc;rcases hc with hc|hc
 ·have:=aQ hc;subst this;exact h
 ·split at hc
  ·rename_i k k' h1 h2;have e:k=k':=by simpa using hc
   subst e;obtain⟨e1,e2,e3,e4⟩:=h.int_inv h1;rw[e1,e2];exact .int h2 e3 e4
  ·rename_i h1 h2;obtain⟨e1,e2⟩:=h.bool_inv h1;rw[e1,e2];exact .bool h2
  ·rename_i h1 h2;obtain⟨e1,e2,e3⟩:=h.str_inv h1;rw[e1,e2];exact .str h2 e3
  ·rename_i E E' h1 h2;have e:=aQ hc;subst e;obtain⟨e1,a,cap,ad,g,e2,q1,q2,q3,q4,q5⟩:=h.lst_inv h1;rw[e1,e2];exact .lst ad g h2 rfl q1 q2 q3 q4 q5
  ·cases hc
mutual
def pk(P:Program)(hs:List Ob):AV->Option (TypeId×Dt)
 | .dat T d=>some (T,d)
 |  .nils T=>match P.underlying T with
    |some (.slice _)=>some (T,.lst [])
    |_=>none
 |  .row l=>match lk hs l with
    | .frz T es=>some (T,.lst es)
    |_=>none
 |  .agg T vs=>match P.underlying T with
    |some (.struct fs)=>match pkL P hs fs.toList vs with
     |some ds=>some (T,.agg ds)
     |none=>none
    |_=>none
 |_=>none
def pkL(P:Program)(hs:List Ob):List Field->List AV->Option (List Dt)
 | [],[]=>some []
 |  f::fs,v::vs=>match pk P hs v with
    |some (T,d)=>bif compat P T f.type then(match pkL P hs fs vs with
     |some ds=>some (d::ds)
     |none=>none)else none
    |none=>none
 |_,_=>none
end
theorem Ik{hs:List Ob}:∀{fs:List Field}{vs:List AV}{ds:List Dt},pkL P hs fs vs=some ds->ds.length=fs.length∧vs.length=fs.length∧∀(i:Nat)(f:Field)(d:Dt),fs[i]? =some f->ds[i]? =some d->∃v T,vs[i]? =some v∧pk P hs v=some (T,d)∧compat P T f.type=true
 | [],[],ds,h=>by simp only[pkL,aA]at h;subst h;exact⟨rfl,rfl,fun i f d hf=>by simp at hf⟩
 | [],_::_,ds,h=>by simp[pkL]at h
 |_::_,[],ds,h=>by simp[pkL]at h
 | f::fs,v::vs,ds,h=>by
   unfold pkL at h;split at h
   ·rename_i T d hv;cases hc:compat P T f.type with
    |false=>rw[hc]at h;cases h
    |   true=>
        rw[hc]at h;simp only[cond_true]at h;split at h
        ·rename_i ds' hr;cases h;obtain⟨h1,h2,h3⟩:=Ik hr;refine⟨by simp[h1],by simp[h2],fun i f' d' hf hd=>?_⟩;cases i with
         |zero=>
          simp only[aO,aA]at hf hd;subst hf hd;exact⟨v,T,rfl,hv,hc⟩
         |succ i=>
          simp only[aR]at hf hd;obtain⟨v',T',q1,q2,q3⟩:=h3 i f' d' hf hd;exact⟨v',T',by simpa using q1,q2,q3⟩
        ·cases h
   ·cases h
def lI(P:Program)(ok:Nat->Prop)(w:World)(β:Nat->Option Value)(hs:List Ob):Prop:=∀l T es,lk hs l= .frz T es->∃z,β l=some z∧RD P ok w T (.lst es) [z]
theorem RelB.frzOK{K:OkX}{w0 w:World}{a:Act}{β:Nat->Option Value}(r:RelB P K w0 n σ a w β):lI P (okOf K w0 w σ.hs β) w β σ.hs:=fun l T es hl=>by have:=r.hs l;rw[hl]at this;obtain⟨z,h1,_,h2⟩:=this;exact⟨z,h1,h2⟩
theorem dJ{ok:Nat->Prop}{w:World}{β:Nat->Option Value}{cs:List Value}{hs:List Ob}(hf:lI P ok w β hs)(h:RA P ok w β v cs):∀{T:TypeId}{d:Dt},pk P hs v=some (T,d)->RD P ok w T d cs:=by
 induction h with
 |dat h=>intro T d hp;simp only[pk,aA,Prod.mk.injEq]at hp;obtain⟨rfl,rfl⟩:=hp;exact h
 | @agg T fs vs cs hu hl hc h1 _ ih=>
   intro T' d hp;simp only[pk,hu]at hp;split at hp
   ·rename_i ds hpl;simp only[aA,Prod.mk.injEq]at hp;obtain⟨rfl,rfl⟩:=hp;obtain⟨q1,q2,q3⟩:=Ik hpl;refine .agg hu (by rw[q1];simp) hc h1 fun i f d hf hd=>?_;obtain⟨u,T'',q4,q5,q6⟩:=q3 i f d (by simpa using hf) hd;exact(ih i f u hf q4 q5).compat q6
   ·cases hp
 | @row l z h h1=>
   intro T d hp;simp only[pk]at hp;split at hp
   ·rename_i T' es hl;simp only[aA,Prod.mk.injEq]at hp;obtain⟨rfl,rfl⟩:=hp;obtain⟨z',e,hr⟩:=hf l _ _ hl;rw[h]at e;cases e
    exact hr
   ·cases hp
 | nils=>
   intro T d hp;simp only[pk]at hp;split at hp
   ·rename_i hu;simp only[aA,Prod.mk.injEq]at hp;obtain⟨rfl,rfl⟩:=hp;exact RD.nil hu
   ·cases hp
 |_=>intro T d hp;simp[pk]at hp
theorem Qm{hs:List Ob}{d:Dt}(h:pk P hs v=some (T,d))(hnr:∀l,v≠ .row l):v.isAgg P=bS P T∧v≠ .dead∧∀us,v≠ .tup us:=by
 cases v with
 |dat T' d'=>simp only[pk,aA,Prod.mk.injEq]at h;obtain⟨rfl,rfl⟩:=h;exact⟨rfl,by simp,by simp⟩
 |agg T' vs=>
  simp only[pk]at h;split at h
  ·split at h;·simp only[aA,Prod.mk.injEq]at h;obtain⟨rfl,rfl⟩:=h;exact⟨rfl,by simp,by simp⟩
   ·cases h
  ·cases h
 |nils T'=>
  simp only[pk]at h;split at h
  ·rename_i hu;simp only[aA,Prod.mk.injEq]at h;obtain⟨rfl,rfl⟩:=h;exact⟨by simp[AV.isAgg,bS,hu],by simp,by simp⟩
  ·cases h
 |row l=>exact absurd rfl (hnr l)
 |_=>simp[pk]at h
theorem RV.pk{ok:Nat->Prop}{w:World}{β:Nat->Option Value}{hs:List Ob}{z:Value}{d:Dt}(hf:lI P ok w β hs)(hfs:∀l T es,lk hs l= .frz T es->bS P T=false)(h:RV P ok w β v z)(hp:Am.pk P hs v=some (T,d)):RV P ok w β (.dat T d) z:=by
 cases v with
 |row l=>
  simp only[Am.pk]at hp;split at hp
  ·rename_i T' es hl;simp only[aA,Prod.mk.injEq]at hp;obtain⟨rfl,rfl⟩:=hp;obtain⟨z',e,hr⟩:=hf l _ _ hl;have e2:=bZ h;rw[e2]at e;cases e
   exact(RV.dat_one (hfs l _ _ hl)).2 hr
  ·cases hp
 |dat T' d'=>
  obtain⟨h1,h2,h3⟩:=Qm hp (by simp);have hr:=RV.to1 h2 h3 h;exact⟨fun hi=>let ⟨cs,e,q⟩:=hr.1 (by rw[h1];exact hi);⟨cs,e,.dat (dJ hf q hp)⟩,fun hi=> .dat (dJ hf (hr.2 (by rw[h1];exact hi)) hp)⟩
 |agg T' d'=>
  obtain⟨h1,h2,h3⟩:=Qm hp (by simp);have hr:=RV.to1 h2 h3 h;exact⟨fun hi=>let ⟨cs,e,q⟩:=hr.1 (by rw[h1];exact hi);⟨cs,e,.dat (dJ hf q hp)⟩,fun hi=> .dat (dJ hf (hr.2 (by rw[h1];exact hi)) hp)⟩
 |nils T'=>
  obtain⟨h1,h2,h3⟩:=Qm hp (by simp);have hr:=RV.to1 h2 h3 h;exact⟨fun hi=>let ⟨cs,e,q⟩:=hr.1 (by rw[h1];exact hi);⟨cs,e,.dat (dJ hf q hp)⟩,fun hi=> .dat (dJ hf (hr.2 (by rw[h1];exact hi)) hp)⟩
 |_=>simp[Am.pk]at hp
theorem RelB.frzAgg{K:OkX}{w0 w:World}{a:Act}{β:Nat->Option Value}(r:RelB P K w0 n σ a w β):∀l T es,lk σ.hs l= .frz T es->bS P T=false:=fun l T es hl=>by have:=r.hs l;rw[hl]at this;obtain⟨z,h1,hu,h2⟩:=this;exact hu
theorem Ev.pk{d:Dt}(h:Ev P σ x v)(hp:Am.pk P σ.hs v=some (T,d)):Ev P σ x (.dat T d):=fun ok0 w0 n a w β r=>
 (h _ _ _ _ _ _ r).pk r.frzOK r.frzAgg hp
theorem RV.can{ok:Nat->Prop}{w:World}{β:Nat->Option Value}{z:Value}{d:Dt}(h:RV P ok w β (.dat T d) z):RV P ok w β (.dat T (canD P T d)) z:=by
 have h1:RV1 P ok w β (.dat T d) z:=h;refine⟨fun hi=>?_,fun hi=>?_⟩
 ·obtain⟨cs,e,q⟩:=h1.1 hi;cases q with
  |dat q=>exact⟨cs,e,.dat (by rw[rV q];exact q)⟩
 ·have q:=h1.2 hi;cases q with
  |dat q=>exact .dat (by rw[rV q];exact q)
theorem Ev.can{d:Dt}(h:Ev P σ x (.dat T d)):Ev P σ x (.dat T (canD P T d)):=fun ok0 w0 n a w β r=>(h _ _ _ _ _ _ r).can
theorem bD.weak{d:Nat}{v':AV}{τ:St}(h:bD P n o σ (τ.put d v))(hv:∀(ok:Nat->Prop)(w:World)(β:Nat->Option Value)(z:Value),RV P ok w β v z->RV P ok w β v' z):bD P n o σ (τ.put d v'):=by
 intro ok0 w0 a w r K Q hK;refine h ok0 w0 a w r K Q fun a' w' r'=>hK a' w' ?_;obtain⟨β,r'⟩:=r';refine⟨β,r'.size,r'.defers,r'.below,fun k=>?_,r'.hs,r'.sep,r'.own,r'.ext,r'.kk,r'.tab⟩;have:=r'.ts k;simp only[St.put,iD]at this ⊢
 by_cases hb:k=d;·rw[if_pos hb]at this ⊢;exact hv _ _ _ _ this
 ·rw[if_neg hb]at this ⊢;exact this
theorem bD.can{d:Nat}{e:Dt}{τ:St}(h:bD P n o σ (τ.put d (.dat T e))):bD P n o σ (τ.put d (.dat T (canD P T e))):=
 h.weak fun ok w β z hz=>hz.can
inductive BldL (P:Program) (σ:St) (fs:Array Field):List (Nat×Operand)->List AV->List AV->Prop where
 |nil {vs:List AV}:BldL P σ fs [] vs vs
 |cons {i:Nat} {f:Field} {x:Operand} {v:AV} {r:List (Nat×Operand)} {vs out:List AV} (hf:fs[i]? =some f) (hx:Ev P σ x v) (hv0:v≠ .dead) (hv1:∀us,v≠ .tup us)
  (hs:∀(ok:Nat->Prop)(w:World)(β:Nat->Option Value)(cs:List Value),RA P ok w β v cs->(v.isAgg P=false->cs.length=1)->cs.length=P.cellsOf f.type)
  (h:BldL P σ fs r (vs.set i v) out):BldL P σ fs ((i,x)::r) vs out
def Kv(P:Program)(fs:Array Field):Bool:=fs.toList.all fun f=>P.cellsOf f.type !=0
theorem kR:∀fs:List Field,(fs.all fun f=>P.cellsOf f.type !=0)=true->fs.mapM (fun f=>(P.info? f.type).map fun i=>(f.offset,i.size))=some (fs.map fun f=>(f.offset,P.cellsOf f.type))
 | [],_=>rfl
 |f::r,h=>by
  simp only[List.all_cons,aJ,bne_iff_ne,ne_eq]at h;cases hi:P.info? f.type with
  |none=>simp[Program.cellsOf,hi]at h
  |some i=>
   simp[List.mapM_cons,hi,kR r h.2,Program.cellsOf]
theorem Kw(off:Nat)(us cells:Array Value)(h:off+us.size<=cells.size):(us.zipIdx.foldl (fun cs(x:Value×Nat)=>cs.setIfInBounds (off+x.2) x.1) cells)=(splice cells.toList off us.toList).toArray:=by
 have hf:=Great.foldl_set off us.toList 0 cells;rw[←Array.foldl_toList,Array.toList_zipIdx];apply Array.ext';apply List.ext_getElem?;intro k;rw[Array.getElem?_toList,hf.2 k,List.toList_toArray,bM (by simpa using h)];simp only[Nat.add_zero,Array.length_toList,Array.getElem?_toList];by_cases h1:off<=k∧k<off+us.size;·rw[if_pos ⟨h1.1,h1.2,by omega⟩,if_pos h1]
 ·rw[if_neg (by omega),if_neg h1]
theorem BldL.sound{fs:Array Field}(hu:P.underlying T=some (.struct fs))(hlay:layB P T fs=true){parts:List (Nat×Operand)}{vs out:List AV}(h:BldL P σ fs parts vs out){ok0:OkX}{w0 w:World}{a:Act}{β:Nat->Option Value}(r:RelB P ok0 w0 n σ a w β):
   ∀(cells:Array Value),RA P (okOf ok0 w0 w σ.hs β) w β (.agg T vs) cells.toList->
    ∃c',Instr.fill ((fs.toList.map fun f=>(f.offset,P.cellsOf f.type)).toArray[·]?) cells (parts.map fun p=>(p.1,a.eval p.2))=some c'∧RA P (okOf ok0 w0 w σ.hs β) w β (.agg T out) c'.toList:=by
 induction h with
 |nil=>intro cells hc;exact⟨cells,rfl,hc⟩
 | @cons i f x v r' vs out hf hx hv0 hv1 hs _ ih=>
   intro cells hc;have hv:=RV.to1 hv0 hv1 (hx _ _ _ _ _ _ r);have hvc:=hv.cells;have hsz:(a.eval x).cells.size=P.cellsOf f.type:=by
    have:=hs _ _ _ _ hvc (fun hi=>by have hr:=hv.2 hi;have h1':=hr.oneCell (a.eval x) (by simp);generalize a.eval x=z at h1';cases z<;>simp_all [Value.cells,Value.oneCell'])
    simpa using this
   have hlen:cells.size=P.cellsOf T:=by cases hc with|agg _ _ hc _ _=>simpa using hc
   have hold:∃old,vs[i]? =some old:=by
    cases hc with
    |   agg hu' hl _ _ _=>
        rw[hu]at hu';cases hu'
        have:i<vs.length:=by rw[hl];exact(Array.getElem?_eq_some_iff.1 hf).1
        exact⟨_,aB this⟩
   obtain⟨old,hold⟩:=hold;obtain⟨h2,h3⟩:=(SetAt.agg (v:=v) (T':=f.type) hu hlay hf hold (.nil (c:=old))).sound hvc (by simpa using hsz) hc (by simpa using hlen);rw[Nat.add_zero]at h2 h3;obtain⟨c',h4,h5⟩:=ih (splice cells.toList f.offset (a.eval x).cells.toList).toArray (by simpa using h3);refine⟨c',?_,h5⟩;simp only[List.map_cons];unfold Instr.fill;have hpl:((fs.toList.map fun f=>(f.offset,P.cellsOf f.type)).toArray)[i]? =some (f.offset,P.cellsOf f.type):=by simp[hf]
   simp only[hpl];rw[if_neg (by simp[hsz];omega),Kw f.offset _ _ (by omega)];exact h4
theorem abV{d:Nat}{fs:Array Field}{parts:Array (Nat×Operand)}{vs out:List AV}(ho:o.op= .build T parts)(hd:o.dst=some d)(hn:d<n)(hu:P.underlying T=some (.struct fs))(hlay:layB P T fs=true)(hof:Kv P fs=true)
  (hz:ZeroA P T (.agg T vs))(hb:BldL P σ fs parts.toList vs out):bD P n o σ (σ.put d (.agg T out)):=
 bf hd hn fun ok0 w0 a w β r=>by
  obtain⟨i,zv,hinf,hzv,hzs,hzrd⟩:=hz.ex;have hra:RA P (okOf ok0 w0 w σ.hs β) w β (.agg T vs) zv.cells.toList:=hzrd _ _ _;obtain⟨c',h4,h5⟩:=hb.sound hu hlay r zv.cells hra;have hbuilt:P.built T (parts.map fun(p:Nat×Operand)=>(p.1,a.eval p.2)).toList=some c':=by unfold Program.built;simp only[hinf,hu,hzv,kR fs.toList hof];rw[Array.toList_map];exact h4
  have hrun:=run_build (P:=P) w T _ c' hbuilt;refine⟨.agg c',?_,⟨fun _=>⟨c'.toList,by simp,h5⟩,fun hi=>by simp[AV.isAgg,gM hu]at hi⟩⟩;simp only[execOp,ho,Sem.run_bind,hrun,Result.andThen_ok,Sem.run_pure]
theorem abW{d i:Nat}{S:TypeId}{fs:Array Field}{f:Field}{e:Dt}{D:TypeDesc}(ho:o.op= .field S x i)(hd:o.dst=some d)(hn:d<n)(hu:P.underlying S=some (.struct fs))(hf:fs[i]? =some f)(huf:P.underlying f.type=some D)
  (h1:bS P f.type=false->P.cellsOf f.type=1)(hb:f.offset+P.cellsOf f.type<=P.cellsOf S)(hx:Ev P σ x (.dat S e)):bD P n o σ (σ.put d (.dat f.type (e.fld i))):=
 bf hd hn fun ok0 w0 a w β r=>by
  obtain⟨cs,ex,hrd⟩:=(RV.dat_agg (gM hu)).1 (hx _ _ _ _ _ _ r);obtain⟨_,hlen,_,hfld⟩:=hrd.agg_inv hu;have hfr:=hfld i f hf;cases hT:bS P f.type with
  |true=>
   have hag:(isAgg f.type).run P w= .ok true w:=by unfold isAgg;rw[Sem.run_bind,run_underlying huf w];unfold bS at hT;rw[huf]at hT;cases D<;>simp_all
   have hinf:∃i,P.info? f.type=some i:=by
        unfold Program.underlying at huf;cases hi:P.info? f.type with
        |none=>simp[hi]at huf
        |some i=>exact⟨i,rfl⟩
   obtain⟨inf,hinf⟩:=hinf;refine⟨.agg ((cs.drop f.offset).take (P.cellsOf f.type)).toArray,?_,(RV.dat_agg hT).2 ⟨_,rfl,hfr⟩⟩;have hs:(sizeOf f.type).run P w= .ok (P.cellsOf f.type) w:=by simp[sizeOf,typeInfo,hinf,Program.cellsOf]
   have hext:cs.toArray.extract f.offset (f.offset+P.cellsOf f.type)=((cs.drop f.offset).take (P.cellsOf f.type)).toArray:=by apply Array.ext';simp
   simp only[execOp,ho,ex,Instr.field,Sem.run_bind,run_underlying hu,Result.andThen_ok,hf,asAgg,Sem.run_pure,part,hag,hs,if_true,hext]
  |false=>
   have hag:(isAgg f.type).run P w= .ok false w:=by unfold isAgg;rw[Sem.run_bind,run_underlying huf w];unfold bS at hT;rw[huf]at hT;cases D<;>simp_all
   have h1':=h1 hT;have hlt:f.offset<cs.length:=by omega
   have hone:(cs.drop f.offset).take (P.cellsOf f.type)=[cs[f.offset]]:=by rw[h1',ay hlt];rfl
   rw[hone]at hfr;refine⟨cs[f.offset],?_,(RV.dat_one hT).2 hfr⟩;simp[execOp,ho,ex,Instr.field,run_underlying hu,hf,asAgg,part,hag,hlt]
theorem Fy{D:TypeDesc}(w:World)(hu:P.underlying T=some D):(isAgg T).run P w= .ok (bS P T) w:=by unfold isAgg bS;rw[Sem.run_bind,run_underlying hu w,hu];cases D<;>simp
theorem Ky{d len:Nat}{E TI:TypeId}{k:IntKind}{i:Int}{e q:Dt}{D:TypeDesc}(ho:o.op= .index T x y)(hd:o.dst=some d)(hn:d<n)(hu:P.underlying T=some (.array len E))(huE:P.underlying E=some D)
  (h1:bS P E=false->P.cellsOf E=1)(hT:P.cellsOf T=len*P.cellsOf E)(hi:P.underlying TI=some (.int k))(hx:Ev P σ x (.dat T e))(hy:Ev P σ y (.dat TI (.int i)))(h0:0<=i)(hq:e.toLst[i.toNat]? =some q):bD P n o σ (σ.put d (.dat E q)):=
 bf hd hn fun ok0 w0 a w β r=>by
  obtain⟨cs,ex,hrd⟩:=(RV.dat_agg (Bp hu)).1 (hx _ _ _ _ _ _ r);obtain⟨_,hl,hlen,_,hel⟩:=hrd.arr_inv hu;obtain⟨_,ey,_⟩:=RV.int hi (hy _ _ _ _ _ _ r);simp only[toInt]at ey;have hfr:=hel i.toNat q hq;have hlt:i.toNat<len:=by rw[←hl];exact(ak.1 hq).1
  have hb:0<=i∧i<(len:Int):=⟨h0,by omega⟩;obtain⟨inf,hinf⟩:∃i,P.info? E=some i:=by
   unfold Program.underlying at huE;cases hi:P.info? E with
   |none=>simp[hi]at huE
   |some i=>exact⟨i,rfl⟩
  have hs:(sizeOf E).run P w= .ok (P.cellsOf E) w:=by simp[sizeOf,typeInfo,hinf,Program.cellsOf]
  have hmul:(i.toNat+1)*P.cellsOf E<=len*P.cellsOf E:=aH _ hlt;rw[Nat.add_mul,Nat.one_mul]at hmul;cases hTE:bS P E with
  |true=>
   have hag:(isAgg E).run P w= .ok true w:=by rw[Fy w huE,hTE]
   refine⟨.agg ((cs.drop (i.toNat*P.cellsOf E)).take (P.cellsOf E)).toArray,?_,(RV.dat_agg hTE).2 ⟨_,rfl,hfr⟩⟩;have hext:cs.toArray.extract (i.toNat*P.cellsOf E) (i.toNat*P.cellsOf E+P.cellsOf E)=((cs.drop (i.toNat*P.cellsOf E)).take (P.cellsOf E)).toArray:=by apply Array.ext';simp
   simp only[execOp,ho,ex,ey,Instr.index,asIntOf,Sem.run_bind,Sem.run_pure,run_underlying hu,Result.andThen_ok,if_pos hb,hs,part,hag,if_true,hext]
  |false=>
   have hag:(isAgg E).run P w= .ok false w:=by rw[Fy w huE,hTE]
   have h1':=h1 hTE;obtain⟨off,hoff⟩:∃off,i.toNat*P.cellsOf E=off:=⟨_,rfl⟩;rw[hoff,h1']at hfr;have hlt2:off<cs.length:=by omega
   have hone:(cs.drop off).take 1=[cs[off]]:=by rw[ay hlt2];rfl
   rw[hone]at hfr;refine⟨cs[off],?_,(RV.dat_one hTE).2 hfr⟩;have hget:cs[off]? =some cs[off]:=aB hlt2;simp[execOp,ho,ex,ey,Instr.index,asIntOf,run_underlying hu,hb,hs,part,hag,hoff,hget]
def Kz(P:Program)(σ:St):Option Operand->Int->Prop
 |none,i=>i=0
 |some x,i=>∃TI k,P.underlying TI=some (.int k)∧Ev P σ x (.dat TI (.int i))
def WG(P:Program)(σ:St)(m:Nat):Option Operand->Int->Prop
 |none,i=>i=m
 |some x,i=>∃TI k,P.underlying TI=some (.int k)∧Ev P σ x (.dat TI (.int i))
theorem run_sliceBound(w:World){k:IntKind}{i:Int}{m:Nat}(c:BoundsCode)(h0:0<=i)(h:i<=m):(Instr.sliceBound (.int k i) m c).run P w= .ok i.toNat w:=by simp only[Instr.sliceBound,asIntOf,Sem.run_bind,Sem.run_pure,Result.andThen_ok];rw[if_pos ⟨h0,h⟩];rfl
theorem iH{ok0:OkX}{w0 w:World}{a:Act}{β:Nat->Option Value}(r:RelB P ok0 w0 n σ a w β){lo hi:Option Operand}{i j:Int}{len cap:Nat}(s:Bool)(hlo:Kz P σ lo i)(hhi:WG P σ len hi j)(h0:0<=i)(hij:i<=j)(hj:j<=len)(hc:len<=cap):
  (Instr.sliceBounds s len cap (lo.map a.eval) (hi.map a.eval) none).run P w= .ok (i.toNat,j.toNat,cap) w:=by
 cases hi with
 |none=>
  have e:j=len:=hhi;subst e;cases lo with
  |none=>have e:i=0:=hlo;subst e;simp[Instr.sliceBounds]
  |some x=>
   obtain⟨TI,k,hu,hx⟩:=hlo;obtain⟨_,e,_⟩:=RV.int hu (hx _ _ _ _ _ _ r);simp only[toInt]at e;simp[Instr.sliceBounds,e,run_sliceBound w _ h0 hij]
 |some y=>
  obtain⟨TJ,k',hu',hy⟩:=hhi;obtain⟨_,e',_⟩:=RV.int hu' (hy _ _ _ _ _ _ r);simp only[toInt]at e';have hjc:j<=(cap:Int):=by omega
  have hj0:0<=j:=by omega
  cases lo with
  |none=>have e:i=0:=hlo;subst e;simp[Instr.sliceBounds,e',run_sliceBound w _ hj0 hjc]
  |some x=>
   obtain⟨TI,k,hu,hx⟩:=hlo;obtain⟨_,e,_⟩:=RV.int hu (hx _ _ _ _ _ _ r);simp only[toInt]at e;have hij':i<=(j.toNat:Int):=by omega
   simp[Instr.sliceBounds,e,e',run_sliceBound w _ hj0 hjc,run_sliceBound w _ h0 hij']
theorem Il{d:Nat}{T3:TypeId}{lo hi:Option Operand}{i j:Int}{p:ByteArray}(ho:o.op= .slice T x lo hi none)(hd:o.dst=some d)(hn:d<n)(hu:P.underlying T=some .string)(hu3:P.underlying T3=some .string)(hx:Ev P σ x (.dat T3 (.str p)))
  (hlo:Kz P σ lo i)(hhi:WG P σ p.size hi j)(h0:0<=i)(hij:i<=j)(hj:j<=p.size):bD P n o σ (σ.put d (.dat T3 (.str (p.extract i.toNat j.toNat)))):=
 bf hd hn fun ok0 w0 a w β r=>by obtain⟨_,e1,b1⟩:=RV.str hu3 (hx _ _ _ _ _ _ r);simp only[toStr]at e1 b1;have hb:=iH (cap:=p.size) r false hlo hhi h0 hij hj (aL _);refine⟨.string (p.extract i.toNat j.toNat),?_,RV.mk_str hu3 (by rw[ByteArray.size_extract];omega)⟩;simp[execOp,ho,e1,Instr.sliceAt,Instr.slice,run_underlying hu,hb]
theorem Im{d:Nat}{T3 E:TypeId}{lo hi:Option Operand}{i j:Int}{es:List Dt}(ho:o.op= .slice T x lo hi none)(hd:o.dst=some d)(hn:d<n)(hu:P.underlying T=some (.slice E))(hu3:P.underlying T3=some (.slice E))(h0c:P.cellsOf E≠0)
  (hx:Ev P σ x (.dat T3 (.lst es)))(hlo:Kz P σ lo i)(hhi:WG P σ es.length hi j)(h0:0<=i)(hij:i<=j)(hj:j<=es.length):bD P n o σ (σ.put d (.dat T3 (.lst ((es.drop i.toNat).take (j.toNat-i.toNat))))):=
 bf hd hn fun ok0 w0 a w β r=>by
  have hrd:=(RV.dat_one (bQ hu3 rfl)).1 (hx _ _ _ _ _ _ r);obtain⟨_,ao,cap,ad,g,hcs,hlc,hm,ha,hg,hr⟩:=hrd.lst_inv hu3;simp only[toLst]at hcs hlc ha hg hr;have ex:a.eval x= .slice ao es.length cap:=by simpa using hcs
  have hb:=iH (cap:=cap) r true hlo hhi h0 hij hj hlc;cases hinf:P.info? E with
  |none=>simp[Program.cellsOf,hinf]at h0c
  |some inf=>
   have hs:inf.size=P.cellsOf E:=by simp[Program.cellsOf,hinf]
   refine⟨.slice (if cap=i.toNat then ao else ao.map (·.add (i.toNat*P.cellsOf E))) (j.toNat-i.toNat) (cap-i.toNat),?_,(RV.dat_one (bQ hu3 rfl)).2 ?_⟩;·simp[execOp,ho,ex,Instr.sliceAt,Instr.slice,run_underlying hu,hb,sizeOf,typeInfo,hinf,hs]
   ·    refine .lst (ad.add (i.toNat*P.cellsOf E)) (fun k=>g (i.toNat+k)) hu3 ?_ (by omega) (by omega) (fun hp=>?_) (fun k hk=>?_) (fun k d' hd'=>?_);·simp only[List.length_take,List.length_drop];omega
        ·obtain⟨h1,h2⟩:=ha (by omega);rw[if_neg (by omega),h1,block_add];exact⟨rfl,h2⟩
        ·obtain⟨h1,h2,h3⟩:=hg (i.toNat+k) (by omega);refine⟨h1,h2,fun q u hq=>?_⟩;rw[add_add];have:=h3 q u hq;rw[Nat.add_mul]at this;rw[←Nat.add_assoc];exact this
        ·rw[List.getElem?_take]at hd';split at hd'
         ·rw[List.getElem?_drop]at hd';exact hr _ _ hd'
         ·cases hd'
end
end Go.Am
namespace Go.Am
open Go.RowKit
def CW(P:Program)(n:Nat)(c:Code)(σ:St)(Y:Exit->St->Prop):Prop:=
 ∀(ok0:OkX)(w0:World)(a:Act)(w:World),Rel P ok0 w0 n σ a w->∀Q:Exit->Act->World->Prop,(∀e σ' a' w',Y e σ'->Rel P ok0 w0 n σ' a' w'->Q e a' w')->c.wp P Q a w
def CR(P:Program)(n:Nat)(c:Code)(k:Nat)(σ:St)(Y:Exit->St->Prop):Prop:=
 ∀(ok0:OkX)(w0:World)(a:Act)(w:World),Rel P ok0 w0 n σ a w->∀Q:Exit->Act->World->Prop,(∀e σ' a' w',Y e σ'->Rel P ok0 w0 n σ' a' w'->Q e a' w')->Code.rounds P c Q k a w
def Imp(P:Program)(n:Nat)(σ σ':St):Prop:=∀(ok0:OkX)(w0:World)(a:Act)(w:World),Rel P ok0 w0 n σ a w->Rel P ok0 w0 n σ' a w
def auP(K:St->Prop)(Y:Exit->St->Prop):Exit->St->Prop
 | .normal,τ=>K τ
 |e,τ=>Y e τ
def amA(id:Nat)(Y:Exit->St->Prop):Exit->St->Prop
 | .exit id',τ=>bif Nat.beq id' id then Y .normal τ else Y (.exit id') τ
 |e,τ=>Y e τ
section
variable{P:Program}{n:Nat}{c c1 c2:Code}{σ τ:St}{Y Y':Exit->St->Prop}{x y:Operand}{v:AV}{T:TypeId}{o:Oper}
theorem CW.skip(h:Y .normal σ):CW P n .skip σ Y:=fun _ _ _ _ r _ hQ=>wp_skip (hQ _ _ _ _ h r)
theorem CW.label{l:Nat}(h:Y .normal σ):CW P n (.label l) σ Y:=fun _ _ _ _ r _ hQ=>wp_label (hQ _ _ _ _ h r)
theorem CW.ret(h:Y .ret σ):CW P n .ret σ Y:=fun _ _ _ _ r _ hQ=>wp_ret (hQ _ _ _ _ h r)
theorem CW.exit{id:Nat}(h:Y (.exit id) σ):CW P n (.exit id) σ Y:=fun _ _ _ _ r _ hQ=>wp_exit (hQ _ _ _ _ h r)
theorem CW.mono(h:CW P n c σ Y)(hp:∀e τ,Y e τ->Y' e τ):CW P n c σ Y':=fun ok0 w0 a w r Q hQ=>h ok0 w0 a w r Q fun e s a' w' hs=>hQ e s a' w' (hp e s hs)
theorem CW.imp(hi:Imp P n σ τ)(h:CW P n c τ Y):CW P n c σ Y:=fun ok0 w0 a w r Q hQ=>h ok0 w0 a w (hi ok0 w0 a w r) Q hQ
theorem CW.seq(h:CW P n c1 σ (auP (fun τ=>CW P n c2 τ Y) Y)):CW P n (.seq c1 c2) σ Y:=fun ok0 w0 a w r Q hQ=>wp_seq (h ok0 w0 a w r _ fun e s a' w' hs r'=>by
 cases e with
 |normal=>exact hs ok0 w0 a' w' r' Q hQ
 |exit id=>exact hQ _ _ _ _ hs r'
 |goto l=>exact hQ _ _ _ _ hs r'
 |ret=>exact hQ _ _ _ _ hs r'
 |panic ch=>exact hQ _ _ _ _ hs r'
 |outgrown=>exact hQ _ _ _ _ hs r')
theorem CW.condT{TB:TypeId}{b:Bool}(hu:P.underlying TB=some .bool)(hx:Ev P σ x (.dat TB (.bool b)))(hb:b=true)(h:CW P n c1 σ Y):CW P n (.cond x c1 c2) σ Y:=fun ok0 w0 a w r Q hQ=>by obtain⟨β,r'⟩:=r;have e:=(RV.bool hu (hx _ _ _ _ _ _ r')).2;simp only[Dt.toBool,hb]at e;exact wp_cond_true e (h ok0 w0 a w ⟨β,r'⟩ Q hQ)
theorem CW.condF{TB:TypeId}{b:Bool}(hu:P.underlying TB=some .bool)(hx:Ev P σ x (.dat TB (.bool b)))(hb:b=false)(h:CW P n c2 σ Y):CW P n (.cond x c1 c2) σ Y:=fun ok0 w0 a w r Q hQ=>by obtain⟨β,r'⟩:=r;have e:=(RV.bool hu (hx _ _ _ _ _ _ r')).2;simp only[Dt.toBool,hb]at e;exact wp_cond_false e (h ok0 w0 a w ⟨β,r'⟩ Q hQ)
theorem CW.block{id:Nat}(h:CW P n c σ (amA id Y)):CW P n (.block id c) σ Y:=fun ok0 w0 a w r Q hQ=>wp_block (h ok0 w0 a w r _ fun e s a' w' hs r'=>by
 cases e with
 |normal=>exact hQ _ _ _ _ hs r'
 |exit id'=>
  simp only[amA]at hs;simp only[Exit.inBlock];cases hb:Nat.beq id' id with
  |true=>
   have:=aQ hb;rw[hb]at hs;rw[if_pos this];exact hQ _ _ _ _ hs r'
  |false=>
   rw[hb]at hs;rw[if_neg (fun e=>by subst e;simp at hb)];exact hQ _ _ _ _ hs r'
 |goto l=>exact hQ _ _ _ _ hs r'
 |ret=>exact hQ _ _ _ _ hs r'
 |panic ch=>exact hQ _ _ _ _ hs r'
 |outgrown=>exact hQ _ _ _ _ hs r')
theorem CR.step{k:Nat}(h:CW P n c σ (auP (fun τ=>CR P n c k τ Y) Y)):CR P n c (k+1) σ Y:=fun ok0 w0 a w r Q hQ=>by
 rw[rounds_succ];exact h ok0 w0 a w r _ fun e s a' w' hs r'=>by
  cases e with
  |normal=>exact hs ok0 w0 a' w' r' Q hQ
  |exit id=>exact hQ _ _ _ _ hs r'
  |goto l=>exact hQ _ _ _ _ hs r'
  |ret=>exact hQ _ _ _ _ hs r'
  |panic ch=>exact hQ _ _ _ _ hs r'
  |outgrown=>exact hQ _ _ _ _ hs r'
theorem CW.loop{k:Nat}(h:CR P n c k σ Y):CW P n (.loop c) σ Y:=fun ok0 w0 a w r Q hQ=>wp_loop_rounds k (h ok0 w0 a w r Q hQ)
theorem CW.scope(h:CW P n c σ Y)(hg:∀l τ,¬Y (.goto l) τ):CW P n (.scope c) σ Y:=fun ok0 w0 a w r Q hQ=>wp_scope_straight (h ok0 w0 a w r _ fun e s a' w' hs r'=>by
 cases e with
 |goto l=>exact absurd hs (hg l s)
 |normal=>exact hQ _ _ _ _ hs r'
 |exit id=>exact hQ _ _ _ _ hs r'
 |ret=>exact hQ _ _ _ _ hs r'
 |panic ch=>exact hQ _ _ _ _ hs r'
 |outgrown=>exact hQ _ _ _ _ hs r')
theorem KA(hg:o.guard=none)(f:Nat->Option Bool):Region.wanted o f=true:=by simp[Region.wanted,hg]
theorem lJ{ops:Array Oper}{oj:Oper}{j dj:Nat}{want b:Bool}{TB:TypeId}(hg:o.guard=some (j,want))(hj:ops[j]? =some oj)(hdj:oj.dst=some dj)(hu:P.underlying TB=some .bool)(ht:tk σ.ts dj= .dat TB (.bool b))
  {ok0:OkX}{w0 w:World}{a:Act}{β:Nat->Option Value}(r:RelB P ok0 w0 n σ a w β):Region.wanted o (yielded ops a.tmps)=(b==want):=by
 have h:=r.ts dj;rw[ht]at h;have e:=(RV.bool hu h).2;simp only[Dt.toBool]at e;have hlt:dj<a.tmps.size:=by
  rcases Nat.lt_or_ge dj a.tmps.size with h1|h1;·exact h1
  ·rw[Array.getD_eq_getD_getElem?,Array.getElem?_eq_none h1]at e;simp[undef]at e
 have e2:a.tmps[dj]? =some (.bool b):=by rw[Array.getD_eq_getD_getElem?,Array.getElem?_eq_getElem hlt]at e;rw[Array.getElem?_eq_getElem hlt];simpa using e
 simp only[Region.wanted,hg,yielded,hj,ah,hdj,e2];cases b<;>cases want<;>rfl
def StepOK(P:Program)(n:Nat)(ops:Array Oper)(o:Oper)(σ σ':St):Prop:=
 ∀(ok0:OkX)(w0:World)(a:Act)(w:World),Rel P ok0 w0 n σ a w->∀(K:Act->World->Prop)(Q:Exit->Act->World->Prop),
    (∀a' w',Rel P ok0 w0 n σ' a' w'->K a' w')->if Region.wanted o (yielded ops a.tmps)then o.wp P a w K Q else K (a.put o.dst undef) w
theorem StepOK.plain{ops:Array Oper}{σ':St}(hg:o.guard=none)(h:bD P n o σ σ'):StepOK P n ops o σ σ':=fun ok0 w0 a w r K Q hK=>by rw[if_pos (KA hg _)];exact h ok0 w0 a w r K Q hK
theorem StepOK.run{ops:Array Oper}{σ':St}{oj:Oper}{j dj:Nat}{want b:Bool}{TB:TypeId}(hg:o.guard=some (j,want))(hj:ops[j]? =some oj)(hdj:oj.dst=some dj)(hu:P.underlying TB=some .bool)(ht:tk σ.ts dj= .dat TB (.bool b))(hb:b=want)
  (h:bD P n o σ σ'):StepOK P n ops o σ σ':=fun ok0 w0 a w r K Q hK=>by
 obtain⟨β,r'⟩:=r;rw[if_pos (by rw[lJ hg hj hdj hu ht r'];simp[hb])];exact h ok0 w0 a w ⟨β,r'⟩ K Q hK
theorem StepOK.skip{ops:Array Oper}{oj:Oper}{d j dj:Nat}{want b:Bool}{TB:TypeId}(hg:o.guard=some (j,want))(hj:ops[j]? =some oj)(hdj:oj.dst=some dj)(hu:P.underlying TB=some .bool)(ht:tk σ.ts dj= .dat TB (.bool b))(hb:b=!want)
  (hd:o.dst=some d)(hn:d<n):StepOK P n ops o σ (σ.put d (.tup [])):=fun ok0 w0 a w r K Q hK=>by
 obtain⟨β,r'⟩:=r;rw[if_neg (by rw[lJ hg hj hdj hu ht r'];cases want<;>simp[hb]),hd];exact hK _ _ ⟨β,r'.put hn ⟨#[],rfl,rfl,fun i av hv=>by simp at hv⟩⟩
theorem r9{ops:Array Oper}{oj:Oper}{j dj:Nat}{want:Bool}(hg:o.guard=some (j,want))(hj:ops[j]? =some oj)(hdj:oj.dst=some dj)(ht:tk σ.ts dj= .tup [])
  {ok0:OkX}{w0 w:World}{a:Act}{β:Nat->Option Value}(r:RelB P ok0 w0 n σ a w β):Region.wanted o (yielded ops a.tmps)=false:=by
 have h:=r.ts dj;rw[ht]at h;obtain⟨arr,e,hs,_⟩:=h;have e2:yielded ops a.tmps j=none:=by
  simp only[yielded,hj,ah,hdj];rcases Nat.lt_or_ge dj a.tmps.size with h1|h1
  ·rw[Array.getD_eq_getD_getElem?,Array.getElem?_eq_getElem h1]at e;rw[Array.getElem?_eq_getElem h1];simp only[Option.getD_some]at e;rw[e]
  ·rw[Array.getElem?_eq_none h1]
 simp only[Region.wanted,hg,e2];rfl
theorem StepOK.skipU{ops:Array Oper}{oj:Oper}{d j dj:Nat}{want:Bool}(hg:o.guard=some (j,want))(hj:ops[j]? =some oj)(hdj:oj.dst=some dj)(ht:tk σ.ts dj= .tup [])
  (hd:o.dst=some d)(hn:d<n):StepOK P n ops o σ (σ.put d (.tup [])):=fun ok0 w0 a w r K Q hK=>by
 obtain⟨β,r'⟩:=r;rw[if_neg (by rw[r9 hg hj hdj ht r'];simp),hd];exact hK _ _ ⟨β,r'.put hn ⟨#[],rfl,rfl,fun i av hv=>by simp at hv⟩⟩
theorem StepOK.skipU'{ops:Array Oper}{oj:Oper}{j dj:Nat}{want:Bool}(hg:o.guard=some (j,want))(hj:ops[j]? =some oj)(hdj:oj.dst=some dj)(ht:tk σ.ts dj= .tup [])
  (hd:o.dst=none):StepOK P n ops o σ σ:=fun ok0 w0 a w r K Q hK=>by
 obtain⟨β,r'⟩:=r;rw[if_neg (by rw[r9 hg hj hdj ht r'];simp),hd];exact hK _ _ ⟨β,r'⟩
theorem StepOK.skip'{ops:Array Oper}{oj:Oper}{j dj:Nat}{want b:Bool}{TB:TypeId}(hg:o.guard=some (j,want))(hj:ops[j]? =some oj)(hdj:oj.dst=some dj)(hu:P.underlying TB=some .bool)(ht:tk σ.ts dj= .dat TB (.bool b))(hb:b=!want)
  (hd:o.dst=none):StepOK P n ops o σ σ:=fun ok0 w0 a w r K Q hK=>by
 obtain⟨β,r'⟩:=r;rw[if_neg (by rw[lJ hg hj hdj hu ht r'];cases want<;>simp[hb]),hd];exact hK _ _ ⟨β,r'⟩
theorem Imp.refl:Imp P n σ σ:=fun _ _ _ _ r=>r
theorem Imp.trans{σ':St}(h:Imp P n σ τ)(k:Imp P n τ σ'):Imp P n σ σ':=fun _ _ _ _ r=>k _ _ _ _ (h _ _ _ _ r)
theorem bD.pre{σ':St}(hi:Imp P n σ τ)(h:bD P n o τ σ'):bD P n o σ σ':=fun ok0 w0 a w r K Q hK=>h ok0 w0 a w (hi _ _ _ _ r) K Q hK
theorem bD.post{σ':St}(h:bD P n o σ τ)(hi:Imp P n τ σ'):bD P n o σ σ':=fun ok0 w0 a w r K Q hK=>h ok0 w0 a w r K Q fun a' w' r'=>hK a' w' (hi _ _ _ _ r')
theorem StepOK.post{ops:Array Oper}{σ':St}(h:StepOK P n ops o σ τ)(hi:Imp P n τ σ'):StepOK P n ops o σ σ':=fun ok0 w0 a w r K Q hK=>h ok0 w0 a w r K Q fun a' w' r'=>hK a' w' (hi _ _ _ _ r')
theorem CR.imp{k:Nat}(hi:Imp P n σ τ)(h:CR P n c k τ Y):CR P n c k σ Y:=fun ok0 w0 a w r Q hQ=>h ok0 w0 a w (hi ok0 w0 a w r) Q hQ
theorem CR.mono{k:Nat}(h:CR P n c k σ Y)(hp:∀e τ,Y e τ->Y' e τ):CR P n c k σ Y':=fun ok0 w0 a w r Q hQ=>h ok0 w0 a w r Q fun e s a' w' hs=>hQ e s a' w' (hp e s hs)
def LW(P:Program)(n:Nat)(ops:Array Oper)(l:List Oper)(σ:St)(Y:St->Prop):Prop:=
 ∀(ok0:OkX)(w0:World)(a:Act)(w:World),Rel P ok0 w0 n σ a w->∀Q:Exit->Act->World->Prop,(∀τ a' w',Y τ->Rel P ok0 w0 n τ a' w'->Q .normal a' w')->wpList P ops Q l a w
theorem LW.nil{ops:Array Oper}{U:St->Prop}(h:U σ):LW P n ops [] σ U:=fun _ _ a w r Q hQ=>wpList_nil (hQ σ a w h r)
theorem LW.cons{ops:Array Oper}{l:List Oper}{U:St->Prop}(h:StepOK P n ops o σ τ)(r:LW P n ops l τ U):LW P n ops (o::l) σ U:=fun ok0 w0 a w r0 Q hQ=>
 wpList_step fun K hK=>h ok0 w0 a w r0 K Q fun a' w' r'=>hK a' w' (r ok0 w0 a' w' r' Q hQ)
theorem CW.region{id:Nat}{l:List Oper}{U:St->Prop}(h:LW P n l.toArray l σ U)(hp:∀τ,U τ->Y .normal τ):CW P n (.region id l.toArray false) σ Y:=fun ok0 w0 a w r Q hQ=>
 wp_region_lit (h ok0 w0 a w r Q fun τ a' w' h1 r'=>hQ _ _ _ _ (hp τ h1) r')
def DepsL(L:Nat->Bool):List Edge->Prop
 | []=>True
 |e::r=>(Region.binds .any e=true->L e.on=true)∧DepsL L r
def upL(L:Nat->Bool)(i:Nat):Nat->Bool:=fun k=>bif Nat.beq k i then true else L k
def Closed(ops:Array Oper)(L:Nat->Bool):Prop:=∀(j:Nat)(oj:Oper),ops[j]? =some oj->L j=true->DepsL L oj.after.toList
inductive DrawL (P:Program) (n:Nat) (ops:Array Oper) (S:(Nat->Bool)->St):Nat->List Oper->Prop where
 |nil {i:Nat}:DrawL P n ops S i []
 |cons {i:Nat} {o:Oper} {r:List Oper} (h:∀L:Nat->Bool,L i=false->DepsL L o.after.toList->Closed ops L->∃σ',StepOK P n ops o (S L) σ'∧Imp P n σ' (S (upL L i))) (hr:DrawL P n ops S (i+1) r):DrawL P n ops S i (o::r)
theorem DrawL.get{ops:Array Oper}{S:(Nat->Bool)->St}{k:Nat}{l:List Oper}(h:DrawL P n ops S k l):∀(j:Nat)(o:Oper),l[j]? =some o->∀L:Nat->Bool,L (k+j)=false->DepsL L o.after.toList->Closed ops L->∃σ',StepOK P n ops o (S L) σ'∧Imp P n σ' (S (upL L (k+j))):=by
 induction h with
 |nil=>intro j o h;simp at h
 | @cons i o r h _ ih=>
   intro j o' hj;cases j with
   |zero=>simp only[aO,aA]at hj;subst hj;exact h
   |succ j=>
    simp only[aR]at hj;have:=ih j o' hj;rw[show i+1+j=i+(j+1) by omega]at this;exact this
def gW:Nat->List Oper->Bool
 |_,[]=>true
 |i,o::r=>(o.after.toList.all fun e=>!Region.binds .any e||Nat.blt e.on i)&&gW (i+1) r
theorem qg:∀{l:List Oper}{k:Nat},gW k l=true->∀(j:Nat)(o:Oper),l[j]? =some o->∀e∈o.after.toList,Region.binds .any e=true->e.on<k+j
 | [],_,_,_,_,h=>by simp at h
 |o::r,k,h,0,o',hj=>by
  simp only[aO,aA]at hj;subst hj;simp only[gW,aJ,List.all_eq_true,Bool.or_eq_true,Bool.not_eq_true']at h;intro e he hb;rcases h.1 e he with h1|h1;·rw[hb]at h1;cases h1
  ·have:e.on<k:=by simp[Nat.blt]at h1;omega
   omega
 |o::r,k,h,j+1,o',hj=>by simp only[aR]at hj;simp only[gW,aJ]at h;intro e he hb;have:=qg h.2 j o' hj e he hb;omega
theorem DepsL.of{L:Nat->Bool}:∀{l:List Edge},(∀e∈l,Region.binds .any e=true->L e.on=true)->DepsL L l
 | [],_=>trivial
 |e::r,h=>⟨h e (by simp),DepsL.of fun e' he'=>h e' (by simp[he'])⟩
theorem DepsL.mem{L:Nat->Bool}:∀{l:List Edge},DepsL L l->∀e∈l,Region.binds .any e=true->L e.on=true
 | [],_,e,he=>by simp at he
 |e::r,h,e',he'=>by
  rcases List.mem_cons.1 he' with rfl|he';·exact h.1
  ·exact DepsL.mem h.2 e' he'
theorem mem_ready{ops:Array Oper}{listed:Array Bool}{i:Nat}:i∈Region.ready .any ops listed↔i<ops.size∧listed.getD i true=false∧∃o,ops[i]? =some o∧∀e∈o.after.toList,Region.binds .any e=true->listed.getD e.on false=true:=by
 unfold Region.ready;simp only[List.mem_filter,List.mem_range,aJ,Bool.not_eq_true'];constructor
 ·rintro⟨h1,h2,h3⟩;refine⟨h1,h2,ops[i],by simp[h1],?_⟩;rw[Array.getElem?_eq_getElem h1]at h3;simp only[Option.map_some,Option.getD_some,Array.all_eq_true_iff_forall_mem]at h3;intro e he hb;have:=h3 e (by simpa using he);simp only[Bool.or_eq_true,Bool.not_eq_true']at this;rcases this with h4|h4;·rw[hb]at h4;cases h4
  ·exact h4
 ·rintro⟨h1,h2,o,ho,h3⟩;refine⟨h1,h2,?_⟩;rw[ho];simp only[Option.map_some,Option.getD_some,Array.all_eq_true_iff_forall_mem];intro e he;simp only[Bool.or_eq_true,Bool.not_eq_true'];cases hb:Region.binds .any e with
  |false=>exact .inl rfl
  |true=>exact .inr (h3 e (by simpa using he) hb)
theorem abX{l:List Oper}{S:(Nat->Bool)->St}(hback:gW 0 l=true)(hd:DrawL P n l.toArray S 0 l){ok0:OkX}{w0:World}{Q:Exit->Act->World->Prop}
  (hfin:∀(L:Nat->Bool),(∀i,i<l.length->L i=true)->∀a w,Rel P ok0 w0 n (S L) a w->Q .normal a w):
  ∀(fuel:Nat)(listed:Array Bool)(a:Act)(w:World),listed.size=l.length->listed.toList.count false<=fuel->Closed l.toArray (fun j=>listed.getD j false)->Rel P ok0 w0 n (S fun j=>listed.getD j false) a w->wpAny P .any l.toArray Q fuel listed a w:=by
 have hall :∀listed:Array Bool,listed.size=l.length->Region.ready .any l.toArray listed=[]->∀i,i<l.length->listed.getD i false=true:=by
  intro listed hsz hr;intro i;induction i using Nat.strongRecOn with
  |_    i ih=>
   intro hi;cases hc:listed.getD i false with
   |true=>rfl
   |    false=>
        exfalso;have hne:i∈Region.ready .any l.toArray listed:=by
          refine mem_ready.2 ⟨by simpa using hi,?_,l[i],by simp[hi],fun e he hb=>?_⟩
          ·have hlt:i<listed.size:=by omega
           simp only[Array.getD,hlt,dif_pos]at hc ⊢
           exact hc
          ·have:=qg hback i l[i] (by simp[hi]) e he hb;exact ih e.on (by omega) (by omega)
        rw[hr]at hne;simp at hne
 intro fuel;induction fuel with
 |zero=>
  intro listed a w hsz hcnt hcl r;have hnil:Region.ready .any l.toArray listed=[]:=by
   rw[List.eq_nil_iff_forall_not_mem];intro i hi;obtain⟨h1,h2,_⟩:=mem_ready.1 hi;have hlt:i<listed.size:=by rw[hsz];simpa using h1
   have h3:listed[i]=false:=by simpa [Array.getD,hlt]using h2
   have h4:List.count false listed.toList=0:=by omega
   rw[List.count_eq_zero]at h4;exact h4 (by rw[←h3];simp)
  exact⟨hnil,hfin _ (hall listed hsz hnil) a w r⟩
 |succ fuel ih=>
  intro listed a w hsz hcnt hcl r;refine⟨fun hnil=>hfin _ (hall listed hsz hnil) a w r,fun i hi=>?_⟩;obtain⟨h1,h2,o,ho,h3⟩:=mem_ready.1 hi;have hil:i<l.length:=by simpa using h1
  have hlt:i<listed.size:=by omega
  have hLi:listed.getD i false=false:=by
   have h2':listed[i]=false:=by simpa [Array.getD,hlt]using h2
   simp[Array.getD,hlt,h2']
  have ho':l[i]? =some o:=by simpa using ho
  obtain⟨σ',hstep,himp⟩:=hd.get i o ho' (fun j=>listed.getD j false) (by rw[Nat.zero_add];exact hLi) (DepsL.of h3) hcl;rw[Nat.zero_add]at himp;have hL:(fun j=>(listed.setIfInBounds i true).getD j false)=upL (fun j=>listed.getD j false) i:=by
   funext j;rw[Bo _ _ _ _ _ hlt];simp only[upL];by_cases hj:j=i;·subst hj;simp
   ·    have:Nat.beq j i=false:=by
          cases hb:Nat.beq j i with
          |true=>exact absurd (aQ hb) hj
          |false=>rfl
        rw[if_neg hj,this];rfl
  have hcl':Closed l.toArray (fun j=>(listed.setIfInBounds i true).getD j false):=by
   rw[hL];intro j oj hoj hLj;simp only[upL]at hLj;refine DepsL.of fun e he hb=>?_;have hold:listed.getD e.on false=true:=by
        cases hb2:Nat.beq j i with
        | true=>
          have:=aQ hb2;subst this;have:oj=o:=by rw[ho]at hoj;cases hoj;rfl
          subst this;exact h3 e he hb
        | false=>
          rw[hb2]at hLj;exact(hcl j oj hoj hLj).mem e he hb
   simp only[upL];cases Nat.beq e.on i with
   |true=>rfl
   |false=>exact hold
  have hcnt':(listed.setIfInBounds i true).toList.count false<=fuel:=by
   have h5:listed.toList[i]? =some false:=by
        have h2':listed[i]=false:=by simpa [Array.getD,hlt]using h2
        simp[hlt,h2']
   have h6:(listed.setIfInBounds i true).toList=listed.toList.set i true:=by simp
   rw[h6];have h7:=List.count_set (a:=true) (b:=false) (l:=listed.toList) (i:=i) (by simpa using hlt);have h8:listed.toList[i]'(by simpa using hlt)=false:=by have:=ak.1 h5;exact this.2
   have hpos:0<listed.toList.count false:=List.count_pos_iff.2 (aM h5);rw[h7,h8];show (List.count false listed.toList-1)+0<=fuel;omega
  have hK:=fun a' w'(r':Rel P ok0 w0 n σ' a' w')=>ih (listed.setIfInBounds i true) a' w' (by simpa using hsz) hcnt' hcl' (by rw[hL];exact himp _ _ _ _ r');have:=hstep ok0 w0 a w r _ Q hK;unfold wpOp;rw[ho];simp only;split;·rename_i hw;rw[if_pos hw]at this;exact .inl this
  ·rename_i hw;rw[if_neg hw]at this;exact this
theorem Rel.drew{ok0:OkX}{w0 w:World}{a:Act}(r:Rel P ok0 w0 n σ a w):Rel P ok0 w0 n σ a {w with drawn:=w.drawn+1}:=by obtain⟨β,r⟩:=r;exact⟨β,(r.grow (w':={w with drawn:=w.drawn+1}) ⟨rfl,rfl,rfl,aL _,fun _ _=>rfl⟩).1⟩
theorem CW.draw{id:Nat}{l:List Oper}(S:(Nat->Bool)->St)(hm:P.follows .mixedOrders=true)(hback:gW 0 l=true)(h0:Imp P n σ (S fun _=>false))(hd:DrawL P n l.toArray S 0 l)
  (hfin:∀L:Nat->Bool,(∀i,i<l.length->L i=true)->Y .normal (S L)):CW P n (.region id l.toArray true) σ Y:=fun ok0 w0 a w r Q hQ=>by
 refine wp_region_any hm ?_;have hrep:∀j,(Array.replicate l.toArray.size false).getD j false=false:=by
  intro j;simp only[Array.getD];split;·simp
  ·rfl
 have hf:(fun j=>(Array.replicate l.toArray.size false).getD j false)=fun _=>false:=funext hrep;refine abX hback hd (fun L hL a' w' r'=>hQ _ _ _ _ (hfin L hL) r') _ _ a _ (by simp) ?_ ?_ ?_;·refine Nat.le_trans (List.count_le_length) (by simp)
 ·rw[hf];intro j oj _ hc;cases hc
 ·rw[hf];exact h0 _ _ _ _ r.drew
