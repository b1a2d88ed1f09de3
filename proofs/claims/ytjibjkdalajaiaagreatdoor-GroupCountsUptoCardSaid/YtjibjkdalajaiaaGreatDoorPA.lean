/- The abstract machine, part 21: from the kit's reading of arguments to plain data; what a law's contract says of every argument.
Data of the seat's types,taken apart.
Small facts on the primitive functions of the shallow texts.
How much the parts of a datum hold.
Values:well-formed data,and their sizes.
Values:their parts.
Values:how many values are within a value,and how many levels it has:the program's functions and the reference's,in plain Lean.
Names,in plain Lean.
UTF-8:the library's decoder and the reference's test agree,in plain Lean.
UTF-8:the reference's test is the library's.
Sets of strings as maps:what a map of 'true' holds is what was put in.
Valid and well-formed values:the program's test and the reference's,in plain Lean.
Values:how many levels a value has;valid and well-formed values:the program and the reference agree.
Total preorders by comparing functions,in plain Lean:products,lists,values.
Comparing values:the program's function,in plain Lean (parts numbered as since session 5).
Comparing values:the reference's function (parts numbered as since session 5).
Copies of values:the functions hand the parts back.
Copies of documents by reshape's own function.
Fields by name,numbers,the reference's Set (out of layer 4's texts).
A field of a document is set:the program's function and the reference's.
Equal lists of strings,in plain Lean.
Valid paths:the program's test and the reference's.
Expressions:the first error of a node by itself;the program's and the reference's.
Expressions:a node's first error,in stages;program and reference.
Expressions:the first error of a tree;the zero expression;program and reference. -/
import Derived.Test.YtjibjkdalajaiaaGreatDoorA2
import Derived.OpenShut
import Derived.Carry
import Derived.Test.YtjibjkdalajaiaaGreatDoorProg
import Derived.Test.YtjibjkdalajaiaaGreatDoorA4
import Derived.Test.YtjibjkdalajaiaaGreatDoorSh
import Derived.Lib.MapLaws
import Derived.Lib.ValidU
import Derived.Lib.Bytealg
import Derived.Test.YtjibjkdalajaiaaGreatDoorEF
set_option linter.all false
namespace Go.Am
open Go.RowKit Go.ChangeShapes Dt
def aw7(P:Program)(fs:List Field)(n:Nat):Bool:=(List.range n).all fun j=>fs.any fun f=>Nat.ble f.offset j&&Nat.blt j (f.offset+P.cellsOf f.type)
def alC(P:Program)(Ts:List TypeId):Bool:=Ts.all fun T=>match P.underlying T with
 |some (.int _)=>true
 |some .bool=>true
 |some .string=>true
 |some (.slice e)=>ny e Ts&&!Nat.beq (P.cellsOf e) 0
 |some (.struct fs)=>(fs.toList.all fun f=>ny f.type Ts)&&aw7 P fs.toList (P.cellsOf T)
 |_=>false
mutual
def Dt.bulk:Dt->Nat
 | .int _=>1
 | .bool _=>1
 | .str s=>s.size+1
 | .agg ds=>Dt.bulkL ds+1
 | .lst es=>Dt.bulkL es+1
def Dt.bulkL:List Dt->Nat
 | []=>0
 |d::r=>Dt.bulk d+Dt.bulkL r
end
structure BulkOK {H:Type} (B:DataW H->Nat) (BA:List (DataW H)->Nat):Prop where
 str:∀l,B (.lit (.string l))=l.length+1
 lit:∀l,1<=B (.lit l)
 nil:1<=B .nil
 slice:∀es sp,B (.slice es sp)=BA es+BA sp+1
 agg:∀ps,B (.agg ps)=BA ps+1
 none:BA []=0
 cons:∀d r,BA (d::r)=B d+BA r
theorem BulkOK.le{H:Type}{B:DataW H->Nat}{BA:List (DataW H)->Nat}(h:BulkOK B BA):∀{ds:List Dt}{Ds:List (DataW H)},ds.length=Ds.length->(∀(i:Nat)(d:Dt)(D:DataW H),ds[i]? =some d->Ds[i]? =some D->d.bulk<=B D)->bulkL ds<=BA Ds
 | [],[],_,_=>by simp[bulkL,h.none]
 |d::ds,D::Ds,hl,hp=>by have h1:=hp 0 d D rfl rfl;have h2:=BulkOK.le h (ds:=ds) (Ds:=Ds) (by simpa using hl) fun i d D h3 h4=>hp (i+1) d D (by simpa using h3) (by simpa using h4);rw[h.cons];simp only[bulkL];omega
 | [],_::_,hl,_=>by simp at hl
 |_::_,[],hl,_=>by simp at hl
def HasTy(P:Program)(T:TypeId)(d:Dt):Prop:=∃(ok:Nat->Prop)(w:World)(cs:List Value),RD P ok w T d cs
section
variable{H:Type}{enc:TypeId×Value->H}{P:Program}{w:World}{sp:Nat->Bool}{Ts:List TypeId}
theorem alD{k:IntKind}{n:Int}(h:(Lit.int k n).wf=true):k.min<=n∧n<=k.max:=by simpa [Lit.wf]using h
theorem Dm{A:Type}{Q:Nat->A->Prop}:∀(n:Nat),(∀i,i<n->∃d,Q i d)->∃ds:List A,ds.length=n∧∀i d,ds[i]? =some d->Q i d
 |0,_=>⟨[],rfl,fun i d h=>by simp at h⟩
 |n+    1,h=>by
  obtain⟨ds,h1,h2⟩:=Dm n fun i hi=>h i (Nat.lt_succ_of_lt hi);obtain⟨d,hd⟩:=h n (Nat.lt_succ_self n);refine⟨ds++[d],by simp[h1],fun i x hx=>?_⟩;by_cases hi:i<ds.length;·rw[List.getElem?_append_left hi]at hx;exact h2 i x hx
  ·rw[List.getElem?_append_right (by omega)]at hx;have h3:i-ds.length=0:=by have:=(aA.1 hx).1;simp at this;omega
   rw[h3]at hx;simp at hx;subst hx
   rwa [show i=n by omega]
theorem Uw{a:Addr}{n:Nat}{cs:List Value}(h:w.cells? 0 a n=some cs):cs.length=n∧∀j v,cs[j]? =some v->w.cell? (a.add j)=some v:=by
 unfold World.cells? at h;rw[if_pos (aC _)]at h;have hl:=mapM_some_length h;simp at hl;refine⟨hl,fun j v hv=>?_⟩;have hj:j<n:=by rw[←hl];exact(aA.1 hv).1
 have:=mapM_some_get h j j (by simp[hj]);rw[this];exact hv
theorem aoc{a:Addr}{v:Value}(h:w.cell? a=some v):a.block<w.heap.size:=by
 rcases Nat.lt_or_ge a.block w.heap.size with h1|h1;·exact h1
 ·unfold World.cell? at h;rw[Array.getElem?_eq_none h1]at h;simp at h
theorem adg{B:DataW H->Nat}{BA:List (DataW H)->Nat}(hB:BulkOK B BA)(hc:alC P Ts=true):∀(n:Nat)(t:TypeId)(cs:List Value)(x:DataW H×List MemPlace),t∈Ts->DataW.trod enc P w 0 sp true n t cs=some x->(∀c∈cs,c.oneCell'=true)∧∃d,RD P (fun b=>b<w.heap.size) w t d cs∧d.bulk<=B x.1:=by
 intro n;induction n with
 |zero=>intro t cs x _ h;simp[DataW.trod]at h
 |succ n ih=>
  intro t cs x ht h;have hT:=List.all_eq_true.1 hc t ht;split at hT
  ·rename_i k hu;obtain⟨m,rfl,rfl,hwf⟩:=DataW.trod_int hu h;exact⟨by simp[Value.oneCell'],.int m,.int hu (alD hwf).1 (alD hwf).2,by simpa [Dt.bulk]using hB.lit _⟩
  ·rename_i hu;obtain⟨b,rfl,rfl⟩:=DataW.trod_bool hu h;exact⟨by simp[Value.oneCell'],.bool b,.bool hu,by simpa [Dt.bulk]using hB.lit _⟩
  ·rename_i hu;obtain⟨s,rfl,rfl,hs⟩:=DataW.trod_string hu h;refine⟨by simp[Value.oneCell'],.str s,.str hu hs,?_⟩;rw[hB.str,Array.length_toList];exact ay _
  ·rename_i e hu;rw[aN]at hT;have he:e∈Ts:=zA.1 hT.1;have hz:P.cellsOf e≠0:=fun e0=>by rw[e0]at hT;simp at hT
   rcases DataW.trod_slice hu h with⟨rfl,rfl⟩| ⟨a,len,cap,elems,rest,m,hm,rfl,rfl,_,hlc,hcm,hel,hget,_,_⟩;·exact⟨by simp[Value.oneCell'],.lst [],RD.nil hu,by simpa [Dt.bulk,bulkL]using hB.nil⟩
   ·    obtain rfl:n=m:=by omega
        refine⟨by simp[Value.oneCell'],?_⟩;have hi:∀i,i<len->∃q:List Value×Dt,w.cells? 0 (a.add (i*P.cellsOf e)) (P.cellsOf e)=some q.1∧(∀c∈q.1,c.oneCell'=true)∧RD P (fun b=>b<w.heap.size) w e q.2 q.1∧∀D,elems[i]? =some D->q.2.bulk<=B D.1:=by intro i hi;have h1:=hget i hi;have hei:=au (show i<elems.length by omega);rw[hei]at h1;obtain⟨cs,h2,h3⟩:=ak.1 h1;obtain⟨h4,d,h5,h6⟩:=ih e cs _ he h3;exact⟨(cs,d),h2,h4,h5,fun D hD=>by rw[hei]at hD;cases hD;exact h6⟩
        obtain⟨qs,hql,hq⟩:=Dm len hi;refine⟨.lst (qs.map (·.2)),.lst a (fun i=>(qs.getD i ([],.int 0)).1) hu (by simp[hql]) hlc hcm (fun h0=>⟨rfl,?_⟩) (fun i hi=>?_) (fun i d hd=>?_),?_⟩
        ·have hq0:=hq 0 _ (au (by omega));obtain⟨h1,_,h3,_⟩:=hq0;obtain⟨h4,h5⟩:=Uw h1;have h6:0<(qs[0]'(by omega)).1.length:=by omega
         have:=aoc (h5 0 _ (au h6))
         rwa [add_add,block_add]at this
        ·have hq1:=hq i _ (au (by omega));obtain⟨h1,h2,_,_⟩:=hq1;obtain⟨h4,h5⟩:=Uw h1;have e1:(qs.getD i ([],.int 0))=qs[i]'(by omega):=by simp[List.getD,au (show i<qs.length by omega)]
         rw[e1];refine⟨h4,h2,fun j v hv=>?_⟩;have:=h5 j v hv
         rwa [add_add]at this
        ·rw[List.getElem?_map]at hd;obtain⟨q,hq1,rfl⟩:=aY.1 hd;obtain⟨_,_,h3,_⟩:=hq i q hq1;have e1:(qs.getD i ([],.int 0))=q:=by simp[List.getD,hq1]
         rw[e1];exact h3
        ·rw[hB.slice];have hle:=hB.le (ds:=qs.map (·.2)) (Ds:=elems.map (·.1)) (by simp[hql,hel]) fun i d D h1 h2=>by rw[List.getElem?_map]at h1 h2;obtain⟨q,hq1,rfl⟩:=aY.1 h1;obtain⟨y,hy1,rfl⟩:=aY.1 h2;exact(hq i q hq1).2.2.2 y hy1
         simp only[Dt.bulk];omega
  ·rename_i fs hu;obtain⟨xs,m,hm,rfl,hlen,hxl,hget⟩:=DataW.trod_struct hu h;obtain rfl:n=m:=by omega
   rw[aN]at hT;have hf:∀i,i<fs.size->∃d,∀f,fs[i]? =some f->(∀c∈(cs.drop f.offset).take (P.cellsOf f.type),c.oneCell'=true)∧RD P (fun b=>b<w.heap.size) w f.type d ((cs.drop f.offset).take (P.cellsOf f.type))∧∀D,xs[i]? =some D->d.bulk<=B D.1:=by intro i hi;have hfi:fs[i]? =some fs[i]:=Array.getElem?_eq_getElem hi;have h1:=hget i _ hfi;have hxi:=au (show i<xs.length by omega);rw[hxi]at h1;have hm:fs[i].type∈Ts:=zA.1 (List.all_eq_true.1 hT.1 fs[i] (by simp));obtain⟨h2,d,h3,h4⟩:=ih _ _ _ hm h1;exact⟨d,fun f hf=>by rw[hfi]at hf;cases hf;exact⟨h2,h3,fun D hD=>by rw[hxi]at hD;cases hD;exact h4⟩⟩
   obtain⟨ds,hdl,hd⟩:=Dm fs.size hf;have hone:∀c∈cs,c.oneCell'=true:=by intro c hcm;obtain⟨j,hj,rfl⟩:=List.getElem_of_mem hcm;have hcov:=List.all_eq_true.1 hT.2 j (List.mem_range.2 (by omega));obtain⟨f,hfm,hfj⟩:=List.any_eq_true.1 hcov;rw[aN]at hfj;have h1:=aL hfj.1;have h2:j<f.offset+P.cellsOf f.type:=aL hfj.2;obtain⟨i,hi⟩:=List.getElem?_of_mem hfm;rw[Array.getElem?_toList]at hi;have hil:i<fs.size:=(Array.getElem?_eq_some_iff.1 hi).1;have h3:=(hd i _ (au (by omega)) f hi).1;refine h3 _ (aU (i:=j-f.offset) ?_);rw[List.getElem?_take,if_pos (by omega),List.getElem?_drop,show f.offset+(j-f.offset)=j by omega,au hj]
   refine⟨hone,.agg ds,.agg hu hdl hlen hone fun i f d hf1 hd1=>(hd i d hd1 f hf1).2.1,?_⟩;rw[hB.agg];have hle:=hB.le (ds:=ds) (Ds:=xs.map (·.1)) (by simp[hdl,hxl]) fun i d D h1 h2=>by
        rw[List.getElem?_map]at h2;obtain⟨y,hy1,rfl⟩:=aY.1 h2;have hil:i<fs.size:=by rw[←hdl];exact(aA.1 h1).1
        exact(hd i d h1 _ (Array.getElem?_eq_getElem hil)).2.2 y hy1
   simp only[Dt.bulk];omega
  ·cases hT
theorem aod{base:Nat}{t:TypeId}{v:Value}(ht:dQ P t=false)(hs:(P.underlying t).isSome=true)(hv:Value.okWide P w .any base t v):v.cells= #[v]:=by
 cases v with
 |agg cs=>
  exfalso;unfold Value.okWide at hv;unfold dQ at ht;cases hu:P.underlying t with
  |none=>rw[hu]at hs;cases hs
  |some D=>rw[hu]at hv ht;cases D<;>simp_all [Cell.okWide,Cell.ok]
 |_=>rfl
theorem alE(hc:alC P Ts=true){t:TypeId}(ht:t∈Ts):(P.underlying t).isSome=true:=by have hT:=List.all_eq_true.1 hc t ht;split at hT<;>simp_all
theorem adh{B:DataW H->Nat}{BA:List (DataW H)->Nat}(hB:BulkOK B BA)(hc:alC P Ts=true){base:Nat}{t:TypeId}{v:Value}{D:DataW H}{p:List MemPlace}(ht:t∈Ts)(hv:Value.okWide P w .any base t v)(h:DataW.Trod enc P w 0 sp true t v D p):
  ∃d,RV P (fun b=>b<w.heap.size) w (fun _=>none) (.dat t d) v∧HasTy P t d∧d.bulk<=B D:=by
 obtain⟨n,hn⟩:=h;obtain⟨_,d,hd,hbk⟩:=adg hB hc n t _ _ ht hn;refine⟨d,?_,⟨_,_,_,hd⟩,hbk⟩;cases ha:dQ P t with
 |false=>
  rw[aod ha (alE hc ht) hv]at hd;exact(RV.dat_one ha).2 (by simpa using hd)
 |true=>
  refine(RV.dat_agg ha).2 ?_;unfold Value.okWide at hv;unfold dQ at ha;split at hv
  ·obtain⟨cs,rfl,_⟩:=hv;exact⟨cs.toList,by simp,hd⟩
  ·obtain⟨cs,rfl,_⟩:=hv;exact⟨cs.toList,by simp,hd⟩
  ·split at ha<;>simp_all
inductive HasTys (P:Program):List TypeId->List Dt->Prop where
 |nil:HasTys P [] []
 |cons {t:TypeId} {d:Dt} {ts:List TypeId} {ds:List Dt} (h:HasTy P t d) (r:HasTys P ts ds):HasTys P (t::ts) (d::ds)
def aoe:List TypeId->List Dt->List AV
 |t::ts,d::ds=> .dat t d::aoe ts ds
 |_,_=>[]
theorem LM{B:DataW H->Nat}{BA:List (DataW H)->Nat}(hB:BulkOK B BA)(hc:alC P Ts=true){base:Nat}:∀{ts:List TypeId}{vs:List Value}{Ds:List (DataW H)}{p:List MemPlace},(∀t∈ts,t∈Ts)->(∀(j:Nat) t v,ts[j]? =some t->vs[j]? =some v->Value.okWide P w .any base t v)->DataW.TrodAll enc P w 0 sp true ts vs Ds p->
   ∃ds,HasTys P ts ds∧bulkL ds<=BA Ds∧RVsX P (fun b=>b<w.heap.size) w (fun _=>none) (aoe ts ds) vs
 | [],vs,Ds,p,_,_,h=>by obtain⟨rfl,rfl,rfl⟩:=trodAll_nil h;exact⟨[],.nil,by simp[bulkL],.nil⟩
 | t::ts,vs,Ds,p,hm,hv,h=>by obtain⟨v,vs',d,ds',p',q',rfl,rfl,rfl,h1,h2⟩:=trodAll_cons h;obtain⟨x,hx,hty,hb1⟩:=adh hB hc (hm t (by simp)) (hv 0 t v rfl rfl) h1;obtain⟨xs,hty2,hb2,hxs⟩:=LM hB hc (fun t ht=>hm t (by simp[ht])) (fun j t v h3 h4=>hv (j+1) t v (by simpa using h3) (by simpa using h4)) h2;exact⟨x::xs,.cons hty hty2,by rw[hB.cons];simp only[bulkL];omega,.cons hx hxs⟩
theorem EP(hl:laidOutB P=true){W W':World}(hb:Below W.heap.size W W'):∀{ts:List TypeId}{vs:List Value}{Ds:List (DataW H)}{p:List MemPlace},(ts.all fun t=>P.readableRec t&&decide (t<P.types.size))=true->DataW.TrodAll enc P W 0 (fun _=>true) true ts vs Ds p->(∀x∈p,x.block<W.heap.size)->
   DataW.TrodAll enc P W' 0 (fun b=>decide (b<W.heap.size)) true ts vs Ds p
 | [],vs,Ds,p,_,h,_=>by obtain⟨rfl,rfl,rfl⟩:=trodAll_nil h;rfl
 | t::ts,vs,Ds,p,hr,h,hlt=>by obtain⟨v,vs',d,ds',p',q',rfl,rfl,rfl,h1,h2⟩:=trodAll_cons h;simp only[List.all_cons,aN,decide_eq_true_eq]at hr;exact trodAll_cons_mk (Below.trod hl hr.1.1 hr.1.2 h1 hb fun x hx=>hlt x (by simp[hx])) (EP hl hb (by simpa using hr.2) h2 fun x hx=>hlt x (by simp[hx]))
theorem LP{base:Nat}{held:Bool}:∀{ts:List TypeId}{vs:List Value}{Ds:List (DataW H)}{p:List MemPlace},DataW.TrodAll enc P w base sp held ts vs Ds p->Ds.length=ts.length
 | [],vs,Ds,p,h=>by obtain⟨_,rfl,_⟩:=trodAll_nil h;rfl
 |t::ts,vs,Ds,p,h=>by obtain⟨v,vs',d,ds',p',q',rfl,rfl,rfl,h1,h2⟩:=trodAll_cons h;simp[LP h2]
theorem alF{B:DataW H->Nat}{BA:List (DataW H)->Nat}(hB:BulkOK B BA){N:Nat}{f:FuncId}{fn:Func}{s:ChangeSpec}{TB:TypeId}(hl:laidOutB P=true)(hc:alC P Ts=true)(hsub:(fn.params.toList.all fun t=>ny t Ts)=true)(hread:(fn.params.toList.all fun t=>P.readableRec t&&decide (t<P.types.size))=true)
  (hu:P.underlying TB=some .bool)(hrt:fn.resultTypes= #[TB])(hvars:s.vars=[])(hspec:∀Ds:List (DataW H),Ds.length=fn.params.toList.length->s.fn H Ds={results:=[.lit (.bool true)],args:=Ds})
  (hfx:∀ds,HasTys P fn.params.toList ds->bulkL ds<=N->FX P f (aoe fn.params.toList ds) [] (.dat TB (.bool true)) [])
  {W:World}{base:Nat}{args:Array Value}{Ds gs:List (DataW H)}{before:List MemPlace}
  (hval:∀(j:Nat) t v,fn.params[j]? =some t->args[j]? =some v->Value.okWide P W .any base t v)
  (htab:TabOK (fun b=>b<W.heap.size) W)(hN:BA Ds<=N)(hW:DataW.Whole enc P fn.params.toList s.vars false W args.toList Ds gs before):
  Calls P f args W fun e W'=>∃v,e= .returned v∧s.post enc P fn false true false false W args v W':=by
 have hW':=hW;obtain⟨p,q,hA,hV,rfl,hfz,hnd⟩:=hW;rw[hvars]at hV;obtain⟨rfl,rfl⟩:=trodVars_none hV;obtain⟨ds,hty,hbk,hrv⟩:=LM hB hc (ts:=fn.params.toList) (fun t ht=>zA.1 (List.all_eq_true.1 hsub t ht)) (fun j t v h1 h2=>hval j t v (by simpa using h1) (by simpa using h2)) hA;have no:∀(β:Nat->Option Value) l b,¬owns [] β l b:=fun β l b h=>by obtain⟨h1,_⟩:=h;cases l<;>cases h1
 have walk:=hfx ds hty (Nat.le_trans hbk hN) (fun b=>b<W.heap.size) W (fun _=>none) args.toList (fun b hb=>⟨hb,fun⟨l,hx⟩=>no _ _ _ hx⟩) (fun l=>by cases l<;>rfl) (fun l l' b h1=>(no _ _ _ h1).elim) hrv htab;rw[show args.toList.toArray=args by simp]at walk;refine walk.mono ?_;rintro e W' ⟨v,β',rfl,fin,hr⟩;have hbel:Below W.heap.size W W':=⟨fin.below.os,fin.below.tape,fin.below.output,fin.below.size,fun b hb=>fin.below.block b hb (fun⟨l,hx⟩=>no _ _ _ hx)⟩;obtain⟨_,rfl⟩:=RV.bool hu hr;have hlt:∀x∈p,x.block<W.heap.size:=fun x hx=>hW'.lt x (by simp[hx]);have hlen:=LP hA;refine⟨_,rfl,Ds,[],p++[],[],p,[],hW',?_,?_,?_,hbel.frame _,fun h=>by cases h⟩
 ·rw[List.append_nil,hspec Ds hlen,hrt];exact trodAll_mk1 (shut_bool hu _)
 ·rw[List.append_nil,hspec Ds hlen];exact EP hl hbel hread hA hlt
 ·rw[List.append_nil,hspec Ds hlen,hvars];rfl
end
end Go.Am
namespace Go.Proofs.YtjibjkdalajaiaaGreatDoor
open Go.Am
theorem alG{T E:TypeId}{P:Program}{d:Dt}(hu:P.underlying T=some (.slice E))(h:HasTy P T d):d= .lst d.toLst∧d.toLst.length<=maxLen∧∀e∈d.toLst,HasTy P E e:=by obtain⟨ok,w,_,h⟩:=h;obtain⟨h1,a,cap,ad,g,_,h2,h3,_,_,h4⟩:=h.lst_inv hu;refine⟨h1,Nat.le_trans h2 h3,fun e he=>?_⟩;obtain⟨i,hi⟩:=List.getElem?_of_mem he;exact⟨ok,w,_,h4 i e hi⟩
theorem asn{T:TypeId}{fs:Array Field}{P:Program}{d:Dt}(hu:P.underlying T=some (.struct fs))(h:HasTy P T d):(∃ds,d= .agg ds∧ds.length=fs.size)∧∀i f,fs[i]? =some f->HasTy P f.type (d.fld i):=by obtain⟨ok,w,_,h⟩:=h;obtain⟨h1,_,_,h2⟩:=h.agg_inv hu;exact⟨h1,fun i f hf=>⟨ok,w,_,h2 i f hf⟩⟩
end Go.Proofs.YtjibjkdalajaiaaGreatDoor
namespace Go.Am
theorem wrap64{n:Int}(h1: -9223372036854775808<=n)(h2:n<=9223372036854775807):IntKind.wrap IntKind.i64 n=n:=by unfold IntKind.wrap;simp only[IntKind.bits,IntKind.signed,Bool.true_and,Nat.add_one_sub_one];split<;>rename_i h<;>simp only[ge_iff_le,decide_eq_true_eq]at h<;>omega
theorem bR{i:Nat}(h:i<9223372036854775807):IntKind.wrap IntKind.i64 ((i:Int)+1)=((i+1:Nat):Int):=by rw[wrap64 (by omega) (by omega)];omega
theorem bE{l:List Dt}{i:Nat}(h:i<l.length):idx l (i:Int)=some l[i]:=by unfold idx;rw[if_pos (by omega)];simp[h]
theorem qc{s:ByteArray}{i:Nat}(h:i<s.size):idxS s (i:Int)=some ((s[i]).toNat:Int):=by unfold idxS;rw[if_pos (by omega)];simp[h]
theorem alH{l:List Dt}{i j:Nat}(h1:i<=j)(h2:j<=l.length):cutL l (i:Int) (j:Int)=some ((l.drop i).take (j-i)):=by unfold cutL;rw[if_pos (by omega)];simp
theorem Pm{s:ByteArray}{i j:Nat}(h1:i<=j)(h2:j<=s.size):cutS s (i:Int) (j:Int)=some (s.extract i j):=by unfold cutS;rw[if_pos (by omega)];simp
theorem mU{l r:List Dt}(h:l.length+r.length<=137438953472):app l r=some (l++r):=by unfold app;rw[if_pos h]
theorem dlt{i j:Nat}:decide ((i:Int)<(j:Int))=decide (i<j):=by simp
theorem dle{i j:Nat}:decide ((i:Int)<=(j:Int))=decide (i<=j):=by simp
theorem ieq{i j:Nat}:(((i:Int)==(j:Int)):Bool)=(i==j):=by rw[Bool.eq_iff_iff];simp;omega
end Go.Am
namespace Go.Proofs.YtjibjkdalajaiaaGreatDoor
open Go.Am Dt
theorem qd(d:Dt):1<=d.bulk:=by cases d<;>simp[Dt.bulk]
theorem KM{e:Dt}:∀{l:List Dt},e∈l->e.bulk<=bulkL l
 |a::r,h=>by
  simp only[bulkL];rcases List.mem_cons.1 h with rfl|h;·omega
  ·have:=KM h;omega
theorem rF:∀l:List Dt,l.length<=bulkL l
 | []=>by simp[bulkL]
 |a::r=>by have:=rF r;have:=qd a;simp only[bulkL,List.length_cons];omega
theorem pI(d:Dt)(i:Nat):(fld d i).bulk<=d.bulk:=by
 cases d with
 |agg ds=>
  simp only[fld,Dt.bulk,List.getD];cases h:ds[i]? with
  |none=>simp[Dt.bulk]
  |some e=>have:=KM (aU h);simp;omega
 |_=>simp only[fld,Dt.bulk];omega
theorem F4(d:Dt)(i:Nat):bulkL (L d i)<d.bulk:=by
 have h:=pI d i;unfold L;cases e:fld d i with
 |lst es=>rw[e]at h;simp only[Dt.bulk]at h;simp only[toLst];omega
 |_=>have:=qd d;simp only[toLst,bulkL];omega
theorem qj{d e:Dt}{i:Nat}(h:e∈L d i):e.bulk<d.bulk:=by have:=F4 d i;have:=KM h;omega
theorem iQ(d:Dt)(i:Nat):(L d i).length<d.bulk:=by have:=F4 d i;have:=rF (L d i);omega
theorem vo(d:Dt)(i:Nat):(S d i).size<d.bulk:=by
 have h:=pI d i;unfold S;cases e:fld d i with
 |str s=>rw[e]at h;simp only[Dt.bulk]at h;simp only[toStr];omega
 |_=>have:=qd d;simp only[toStr];exact Nat.lt_of_lt_of_le (by decide) this
mutual
inductive WV:Dt->Prop where
 |mk {k i:Int} {t:ByteArray} {l ds:List Dt} (hl:∀e∈l,WV e) (hd:∀f∈ds,WF f):WV (.agg [.int k,.int i,.str t,.lst l,.lst ds])
inductive WF:Dt->Prop where
 |mk {s:ByteArray} {v:Dt} (h:WV v):WF (.agg [.str s,v])
end
theorem avf{A:Type}{l:List A}(h:l.length=2):∃a b,l=[a,b]:=by
 match l,h with
 | [a,b],_=>exact⟨a,b,rfl⟩
theorem aso{A:Type}{l:List A}(h:l.length=5):∃a b c d e,l=[a,b,c,d,e]:=by
 match l,h with
 | [a,b,c,d,e],_=>exact⟨a,b,c,d,e,rfl⟩
structure TQ (T:TypeId) (d:Dt):Prop where
 i:T=3->∃n,d= .int n
 s:T=9->∃s,d= .str s
 v:T=26->WV d
 f:T=44->WF d
 l:T=23->∃l,d= .lst l∧∀e∈l,WV e
 d:T=24->∃l,d= .lst l∧∀e∈l,WF e
theorem avg{ok:Nat->Prop}{w:World}{T:TypeId}{d:Dt}{cs:List Value}(h:RD Tryz.prog ok w T d cs):TQ T d:=by
 induction h with
 | @int T k n hu _ _=>
   refine⟨fun _=>⟨n,rfl⟩,?_,?_,?_,?_,?_⟩<;>rintro rfl;·have:=hu.symm.trans Tryz.underlying9;cases this
   ·have:=hu.symm.trans Tryz.underlying26;cases this
   ·have:=hu.symm.trans Tryz.underlying44;cases this
   ·have:=hu.symm.trans Tryz.underlying23;cases this
   ·have:=hu.symm.trans Tryz.underlying24;cases this
 | @bool T b hu=>
   refine⟨?_,?_,?_,?_,?_,?_⟩<;>rintro rfl;·have:=hu.symm.trans Tryz.underlying3;cases this
   ·have:=hu.symm.trans Tryz.underlying9;cases this
   ·have:=hu.symm.trans Tryz.underlying26;cases this
   ·have:=hu.symm.trans Tryz.underlying44;cases this
   ·have:=hu.symm.trans Tryz.underlying23;cases this
   ·have:=hu.symm.trans Tryz.underlying24;cases this
 | @str T s hu _=>
   refine⟨?_,fun _=>⟨s,rfl⟩,?_,?_,?_,?_⟩<;>rintro rfl;·have:=hu.symm.trans Tryz.underlying3;cases this
   ·have:=hu.symm.trans Tryz.underlying26;cases this
   ·have:=hu.symm.trans Tryz.underlying44;cases this
   ·have:=hu.symm.trans Tryz.underlying23;cases this
   ·have:=hu.symm.trans Tryz.underlying24;cases this
 | @agg T fs ds cs hu hl _ _ _ ih=>
   refine⟨?_,?_,?_,?_,?_,?_⟩<;>rintro rfl;·have:=hu.symm.trans Tryz.underlying3;cases this
   ·have:=hu.symm.trans Tryz.underlying9;cases this
   ·have e:=hu.symm.trans Tryz.underlying26;simp only[aD,TypeDesc.struct.injEq]at e;subst e;obtain⟨a,b,c,d,e,rfl⟩:=aso hl;obtain⟨n0,rfl⟩:=(ih 0 _ a rfl rfl).i rfl;obtain⟨n1,rfl⟩:=(ih 1 _ b rfl rfl).i rfl;obtain⟨n2,rfl⟩:=(ih 2 _ c rfl rfl).s rfl;obtain⟨l,rfl,hl'⟩:=(ih 3 _ d rfl rfl).l rfl;obtain⟨ds,rfl,hd'⟩:=(ih 4 _ e rfl rfl).d rfl;exact .mk hl' hd'
   ·have e:=hu.symm.trans Tryz.underlying44;simp only[aD,TypeDesc.struct.injEq]at e;subst e;obtain⟨a,b,rfl⟩:=avf hl;obtain⟨s,rfl⟩:=(ih 0 _ a rfl rfl).s rfl;exact .mk ((ih 1 _ b rfl rfl).v rfl)
   ·have:=hu.symm.trans Tryz.underlying23;cases this
   ·have:=hu.symm.trans Tryz.underlying24;cases this
 | @lst T E es a len cap ad g hu _ _ _ _ _ _ ih=>
   refine⟨?_,?_,?_,?_,?_,?_⟩<;>rintro rfl;·have:=hu.symm.trans Tryz.underlying3;cases this
   ·have:=hu.symm.trans Tryz.underlying9;cases this
   ·have:=hu.symm.trans Tryz.underlying26;cases this
   ·have:=hu.symm.trans Tryz.underlying44;cases this
   ·have e:=hu.symm.trans Tryz.underlying23;simp only[aD,TypeDesc.slice.injEq]at e;subst e;refine⟨es,rfl,fun e he=>?_⟩;obtain⟨i,hi⟩:=List.getElem?_of_mem he;exact(ih i e hi).v rfl
   ·have e:=hu.symm.trans Tryz.underlying24;simp only[aD,TypeDesc.slice.injEq]at e;subst e;refine⟨es,rfl,fun e he=>?_⟩;obtain⟨i,hi⟩:=List.getElem?_of_mem he;exact(ih i e hi).f rfl
 | @arr T E q es cs hu _ _ _ _ ih=>
   refine⟨?_,?_,?_,?_,?_,?_⟩<;>rintro rfl;·have:=hu.symm.trans Tryz.underlying3;cases this
   ·have:=hu.symm.trans Tryz.underlying9;cases this
   ·have:=hu.symm.trans Tryz.underlying26;cases this
   ·have:=hu.symm.trans Tryz.underlying44;cases this
   ·have:=hu.symm.trans Tryz.underlying23;cases this
   ·have:=hu.symm.trans Tryz.underlying24;cases this
 | @nilp T E hu=>
   refine⟨?_,?_,?_,?_,?_,?_⟩<;>rintro rfl;·have:=hu.symm.trans Tryz.underlying3;cases this
   ·have:=hu.symm.trans Tryz.underlying9;cases this
   ·have:=hu.symm.trans Tryz.underlying26;cases this
   ·have:=hu.symm.trans Tryz.underlying44;cases this
   ·have:=hu.symm.trans Tryz.underlying23;cases this
   ·have:=hu.symm.trans Tryz.underlying24;cases this
 | @ptr T E d cs ad hu _ _ _ _ _=>
   refine⟨?_,?_,?_,?_,?_,?_⟩<;>rintro rfl;·have:=hu.symm.trans Tryz.underlying3;cases this
   ·have:=hu.symm.trans Tryz.underlying9;cases this
   ·have:=hu.symm.trans Tryz.underlying26;cases this
   ·have:=hu.symm.trans Tryz.underlying44;cases this
   ·have:=hu.symm.trans Tryz.underlying23;cases this
   ·have:=hu.symm.trans Tryz.underlying24;cases this
theorem ap1{d:Dt}(h:HasTy Tryz.prog 26 d):WV d:=by obtain⟨_,_,_,h⟩:=h;exact(avg h).v rfl
theorem gX(d:Dt):1<=d.bulk:=by cases d<;>simp[Dt.bulk]
theorem nW{e:Dt}:∀{l:List Dt},e∈l->e.bulk<=bulkL l
 |a::r,h=>by
  simp only[bulkL];rcases List.mem_cons.1 h with rfl|h;·omega
  ·have:=nW h;omega
theorem kZ:∀l:List Dt,l.length<=bulkL l
 | []=>by simp[bulkL]
 |a::r=>by have:=kZ r;have:=gX a;simp only[bulkL,List.length_cons];omega
theorem nX{k i:Int}{t:ByteArray}{l ds:List Dt}:Dt.bulk (.agg [.int k,.int i,.str t,.lst l,.lst ds])=bulkL l+bulkL ds+(t.size+6):=by simp only[Dt.bulk,bulkL];omega
theorem xk{s:ByteArray}{v:Dt}:Dt.bulk (.agg [.str s,v])=v.bulk+s.size+2:=by simp only[Dt.bulk,bulkL];omega
theorem Dn{A:Type}(l:List A)(z:A)(i:Nat)(h:i<l.length):(l.take i++List.replicate (l.length-i) z).set i l[i]=l.take (i+1)++List.replicate (l.length-(i+1)) z:=by
 rw[List.set_append_right _ _ (by simp;omega)];have h1:i-(l.take i).length=0:=by simp;omega
 rw[h1,show l.length-i=(l.length-(i+1))+1 by omega,List.replicate_succ,List.set_cons_zero,List.take_succ_eq_append_getElem h,List.append_assoc];rfl
theorem Ij{A:Type}(l:List A)(z:A)(i:Nat)(h:i<=l.length):(l.take i++List.replicate (l.length-i) z).length=l.length:=by simp;omega
theorem xq{l:List Dt}{i:Nat}(h:i<l.length):inL l (i:Int)=some ():=by unfold inL;rw[if_pos (by omega)]
theorem AZ{n:Nat}{z:Dt}(h:n<=137438953472):mkL (n:Int) (n:Int) z=some (List.replicate n z):=by unfold mkL;rw[if_pos (by omega)];simp
theorem Dp{d:Dt}(hw:WV d):(L d 3).length<=d.bulk∧(L d 4).length<=d.bulk∧(∀e∈L d 3,WV e∧e.bulk<d.bulk)∧(∀f∈L d 4,WV (fld f 1)∧(fld f 1).bulk<d.bulk):=by
 cases hw with
 | @mk  k i t l ds hl hd=>
   rw[nX];have h3:=kZ l;have h4:=kZ ds;refine⟨by show l.length<=_;omega,by show ds.length<=_;omega,fun e he=>⟨hl e he,?_⟩,fun f hf=>?_⟩;·have:=nW (show e∈l from he);omega
   ·have hb:=nW (show f∈ds from hf);cases hd f hf with
    |   @mk s v hv=>
        rw[xk]at hb;exact⟨hv,by show v.bulk<_;omega⟩
def rO(d:Dt):List Dt:=bif I d 0==6 then L d 3 else bif I d 0==5 then(L d 4).map (·.fld 1)else[]
theorem ZA(m:Nat)(d:Dt)(hl:(L d 4).length<=137438953472):∀(M i:Nat),i<=(L d 4).length->(L d 4).length-i<M->mh m M (i:Int) d (((L d 4).map (·.fld 1)).take i)=some ((L d 4).map (·.fld 1))
 |0,i,_,h=>by omega
 |M+    1,i,hi,h=>by
  simp only[mh,dlt];by_cases hlt:i<(L d 4).length
  ·have happ:app (((L d 4).map (·.fld 1)).take i) [(L d 4)[i].fld 1]=some (((L d 4).map (·.fld 1)).take (i+1)):=by rw[mU (by simp;omega),List.take_succ_eq_append_getElem (by simpa using hlt)];simp
   simp only[hlt,decide_true,cond_true,bE hlt,ah,happ,bR (show i<9223372036854775807 by omega)];exact ZA m d hl M (i+1) (by omega) (by omega)
  ·have e:i=(L d 4).length:=by omega
   simp only[hlt,decide_false,cond_false];rw[List.take_of_length_le (by simp;omega)]
theorem ZB(m:Nat)(d:Dt)(hl:(L d 3).length<=137438953472):∀(M i:Nat),i<=(L d 3).length->(L d 3).length-i<M->mq m M (i:Int) d ((L d 3).take i)=mo m d (L d 3)
 |0,i,_,h=>by omega
 |M+    1,i,hi,h=>by
  simp only[mq,dlt];by_cases hlt:i<(L d 3).length
  ·have happ:app ((L d 3).take i) [(L d 3)[i]]=some ((L d 3).take (i+1)):=by rw[mU (by simp;omega),List.take_succ_eq_append_getElem hlt]
   simp only[hlt,decide_true,cond_true,bE hlt,ah,happ,bR (show i<9223372036854775807 by omega)];exact ZB m d hl M (i+1) (by omega) (by omega)
  ·simp only[hlt,decide_false,cond_false];rw[List.take_of_length_le (by omega)]
theorem parts_eq(d:Dt)(hw:WV d)(m:Nat)(hm:d.bulk<=m)(hb:d.bulk<=137438953472):kJ (m+1) d=some (rO d):=by
 have hl3:(L d 3).length<=d.bulk:=by
  cases hw with
  | @mk k i t l ds hl hd=>rw[nX];have:=kZ l;show l.length<=_;omega
 have hl4:(L d 4).length<=d.bulk:=by
  cases hw with
  | @mk k i t l ds hl hd=>rw[nX];have:=kZ ds;show ds.length<=_;omega
 have h6:=ZA m d (by omega) (m+1) 0 (aC _) (by omega);have h1:=ZB m d (by omega) (m+1) 0 (aC _) (by omega);rw[List.take_zero]at h6 h1;have h6':mh m (Nat.succ m) 0 d []=_:=h6;have h1':mq m (Nat.succ m) 0 d []=_:=h1;unfold rO;simp only[kJ,h1'];cases h:(I d 0==6)
 ·simp only[cond_false,mo,h6'];cases (I d 0==5)<;>rfl
 ·have e:I d 0=6:=by simpa using h
  simp only[cond_true,mo,e];rfl
theorem DZ{d:Dt}(hw:WV d):∀e∈rO d,WV e∧e.bulk<d.bulk:=by
 cases hw with
 | @mk  k i t l ds hl hd=>
   intro e he;rw[nX];unfold rO at he;have e1:I (.agg [.int k,.int i,.str t,.lst l,.lst ds]) 0=k:=rfl;have e2:L (.agg [.int k,.int i,.str t,.lst l,.lst ds]) 3=l:=rfl;have e3:L (.agg [.int k,.int i,.str t,.lst l,.lst ds]) 4=ds:=rfl;rw[e1,e2,e3]at he;cases h6:(k==6)
   ·rw[   h6]at he;simp only[cond_false]at he;cases h5:(k==5);·rw[h5]at he;simp at he
    ·   rw[h5]at he;simp only[cond_true,List.mem_map]at he;obtain⟨f,hf,rfl⟩:=he;have hb:=nW hf;cases hd f hf with
        | @mk s v hv=>
          rw[xk]at hb;exact⟨hv,by show v.bulk<_;omega⟩
   ·rw[h6]at he;simp only[cond_true]at he;have hb:=nW he;exact⟨hl e he,by omega⟩
theorem ZC{d:Dt}(hw:WV d):(rO d).length<=d.bulk:=by
 cases hw with
 | @mk k i t l ds hl hd=>
   rw[nX];have h3:=kZ l;have h4:=kZ ds;unfold rO;cases (I (.agg [.int k,.int i,.str t,.lst l,.lst ds]) 0==6)<;>cases (I (.agg [.int k,.int i,.str t,.lst l,.lst ds]) 0==5)<;>simp[L,fld,toLst]<;>omega
def adi:Nat->Dt->Nat
 |0,_=>1
 |n+1,d=>1+((rO d).map (adi n)).sum
theorem Ux:∀(n n':Nat)(d:Dt),WV d->d.bulk<=n->d.bulk<=n'->adi n d=adi n' d
 |0,_,d,_,h,_=>by have:=gX d;omega
 |_+1,0,d,_,_,h=>by have:=gX d;omega
 |n+1,n'+1,d,hw,h,h'=>by simp only[adi];congr 2;refine List.map_congr_left fun e he=>?_;have:=DZ hw e he;exact Ux n n' e this.1 (by omega) (by omega)
def nds(d:Dt):Nat:=adi d.bulk d
theorem F5{d:Dt}(hw:WV d):nds d=1+((rO d).map nds).sum:=by obtain⟨k,hk⟩:∃k,d.bulk=k+1:=⟨d.bulk-1,by have:=gX d;omega⟩;unfold nds;rw[hk];simp only[adi];congr 2;refine List.map_congr_left fun e he=>?_;have:=DZ hw e he;exact Ux _ _ e this.1 (by omega) (ay _)
theorem aof{d:Dt}(hw:WV d):1<=nds d:=by rw[F5 hw];omega
theorem sum_cons(f:Dt->Nat){L:List Dt}{i:Nat}(h:i<L.length):((L.drop i).map f).sum=f L[i]+((L.drop (i+1)).map f).sum:=by rw[aH h,List.map_cons,List.sum_cons]
theorem ZE(m:Nat)(self:Dt->Int->Option Int)(L:List Dt)(hl:L.length<9223372036854775807)(most:Nat)(hb:most<1000000)(hs:∀e∈L,∀k:Nat,1<=k->k<=most->self e (k:Int)=some ((min (nds e) k:Nat):Int)):∀(M i acc:Nat),i<=L.length->L.length-i<M->acc<=most->
  oQ m self M (most:Int) (acc:Int) L (i:Int)=some ((min (acc+((L.drop i).map nds).sum) most:Nat):Int)
 |0,i,_,_,h,_=>by omega
 |M+    1,i,acc,hi,h,ha=>by
  simp only[oQ,dlt];by_cases hlt:i<L.length
  ·simp only[hlt,decide_true,cond_true];by_cases hm:acc<most
   ·    have hw:IntKind.wrap IntKind.i64 ((most:Int)-(acc:Int))=((most-acc:Nat):Int):=by rw[wrap64 (by omega) (by omega)];omega
        have hr:=hs _ (aI hlt) (most-acc) (by omega) (by omega);have hw2:IntKind.wrap IntKind.i64 ((acc:Int)+((min (nds L[i]) (most-acc):Nat):Int))=((acc+min (nds L[i]) (most-acc):Nat):Int):=by rw[wrap64 (by omega) (by omega)];omega
        simp only[hm,decide_true,cond_true,bE hlt,ah,hw,hr,hw2,bR (show i<9223372036854775807 by omega),ZE m self L hl most hb hs M (i+1) (acc+min (nds L[i]) (most-acc)) (by omega) (by omega) (by omega),sum_cons nds hlt];congr 2;omega
   ·    have:acc=most:=by omega
        subst this;simp only[hm,decide_false,cond_false];first|(simp only[];congr 2;omega)|(congr 2;omega)
  ·rw[List.drop_eq_nil_of_le (by omega)];simp only[hlt,decide_false,cond_false,List.map_nil,List.sum_nil];first|(simp only[];congr 2;omega)|(congr 2;omega)
theorem count_eq:∀(N:Nat)(d:Dt),d.bulk<=N->N<=137438953472->WV d->∀m,N<=m->∀most:Nat,1<=most->most<1000000->iN (m+2) d (most:Int)=some ((min (nds d) most:Nat):Int)
 |0,d,h,_,_,_,_,_,_,_=>by have:=gX d;omega
 |N+1,d,h,hN,hw,m,hm,most,h1,h2=>by
  obtain⟨m,rfl⟩:∃q,m=q+1:=⟨m-1,by omega⟩;simp only[iN,parts_eq d hw (m+1) (by omega) (by omega),ah];have hl:=ZC hw;have:=ZE (m+2) (iN (m+2)) (rO d) (by omega) most h2 (fun e he k hk1 hk2=>by obtain⟨hwe,hbe⟩:=DZ hw e he;exact count_eq N e (by omega) (by omega) hwe m (by omega) k hk1 (by omega)) (m+3) 0 1 (aC _) (by omega) h1
  rw[aF,←F5 hw]at this;exact this
theorem ahf{d:Dt}(hw:WV d)(hb:d.bulk<=137438953472)(m:Nat)(hm:d.bulk<=m):mX (m+3) d=some ((min (nds d) 1025:Nat):Int):=by simp only[mX];rw[show ((1025:Int))=((1025:Nat):Int)from rfl,count_eq d.bulk d (ay _) hb hw m hm 1025 (by omega) (by omega)];rfl
theorem afa(m:Nat)(self:Dt->Int->Int->Option (Bool×Int×Int))(L:List Dt)(hl:L.length<9223372036854775807)(most:Nat)(hs:∀e∈L,∀k:Nat,k<most->self e (k:Int) (most:Int)=some (decide (((min (k+nds e) most:Nat):Int)<(most:Int)),((min (k+nds e) most:Nat):Int),(most:Int))):∀(M i acc:Nat),i<=L.length->L.length-i<M->acc<most->
  DT m self M L (L.length:Int) (i:Int) (acc:Int) (most:Int)=some (((min (acc+((L.drop i).map nds).sum) most:Nat):Int),(most:Int))
 |0,i,_,_,h,_=>by omega
 |M+    1,i,acc,hi,h,ha=>by
  simp only[DT,dlt];by_cases hlt:i<L.length
  ·have hr:=hs _ (aI hlt) acc ha;simp only[hlt,decide_true,cond_true,bE hlt,ah,hr,dlt,bR (show i<9223372036854775807 by omega),sum_cons nds hlt];by_cases hm:min (acc+nds L[i]) most<most
   ·    simp only[hm,decide_true,Bool.not_true,cond_false,afa m self L hl most hs M (i+1) (min (acc+nds L[i]) most) (by omega) (by omega) hm];congr 3;omega
   ·    simp only[hm,decide_false,Bool.not_false,cond_true];congr 3;omega
  ·rw[List.drop_eq_nil_of_le (by omega)];simp only[hlt,decide_false,cond_false,List.map_nil,List.sum_nil];congr 3;omega
theorem afb(m:Nat)(self:Dt->Int->Int->Option (Bool×Int×Int))(L:List Dt)(hl:L.length<9223372036854775807)(most:Nat)(hs:∀e∈L,∀k:Nat,k<most->self (fld e 1) (k:Int) (most:Int)=some (decide (((min (k+nds (fld e 1)) most:Nat):Int)<(most:Int)),((min (k+nds (fld e 1)) most:Nat):Int),(most:Int))):∀(M i acc:Nat),i<=L.length->L.length-i<M->acc<most->
  DU m self M L (L.length:Int) (i:Int) (acc:Int) (most:Int)=some (((min (acc+((L.drop i).map fun f=>nds (fld f 1)).sum) most:Nat):Int),(most:Int))
 |0,i,_,_,h,_=>by omega
 |M+    1,i,acc,hi,h,ha=>by
  simp only[DU,dlt];by_cases hlt:i<L.length
  ·have hr:=hs _ (aI hlt) acc ha;simp only[hlt,decide_true,cond_true,bE hlt,ah,hr,dlt,bR (show i<9223372036854775807 by omega),sum_cons (fun f=>nds (fld f 1)) hlt];by_cases hm:min (acc+nds (fld L[i] 1)) most<most
   ·    simp only[hm,decide_true,Bool.not_true,cond_false,afb m self L hl most hs M (i+1) (min (acc+nds (fld L[i] 1)) most) (by omega) (by omega) hm];congr 3;omega
   ·    simp only[hm,decide_false,Bool.not_false,cond_true];congr 3;omega
  ·rw[List.drop_eq_nil_of_le (by omega)];simp only[hlt,decide_false,cond_false,List.map_nil,List.sum_nil];congr 3;omega
theorem Uy:∀(N:Nat)(d:Dt),d.bulk<=N->N<=137438953472->WV d->∀m,3*N<=m->∀most:Nat,1<=most->most<1000000->kM (m+1) d (most:Int)=some ((min (nds d) most:Nat):Int)
 |0,d,h,_,_,_,_,_,_,_=>by have:=gX d;omega
 |N+    1,d,h,hN,hw,m,hm,most,h1,h2=>by
  obtain⟨m,rfl⟩:∃q,m=q+3:=⟨m-3,by omega⟩;simp only[kM];have hpos:=aof hw;by_cases e1:most=1
  ·subst e1;have:(((1:Int))==((1:Nat):Int))=true:=rfl;simp only[this,cond_true];congr 1;omega
  ·have e2:(((1:Int))==(most:Int))=false:=by rw[beq_eq_false_iff_ne];omega
   have hc:∀e:Dt,WV e->e.bulk<=N->∀k:Nat,k<most->Fe (m+2) e (k:Int) (most:Int)=some (decide (((min (k+nds e) most:Nat):Int)<(most:Int)),((min (k+nds e) most:Nat):Int),(most:Int)):=fun e hwe hbe k hk=>by
        have hw1:IntKind.wrap IntKind.i64 ((most:Int)-(k:Int))=((most-k:Nat):Int):=by rw[wrap64 (by omega) (by omega)];omega
        have hr:=Uy N e hbe (by omega) hwe m (by omega) (most-k) (by omega) (by omega);have hw2:IntKind.wrap IntKind.i64 ((k:Int)+((min (nds e) (most-k):Nat):Int))=((min (k+nds e) most:Nat):Int):=by rw[wrap64 (by omega) (by omega)];omega
        simp only[Fe,hw1,hr,ah,hw2]
   obtain⟨p1,p2,p3,p4⟩:=Dp hw;have k1:=afa (m+2) (Fe (m+2)) (L d 3) (by omega) most (fun e he=>hc e (p3 e he).1 (by have:=(p3 e he).2;omega)) (m+3) 0 1 (aC _) (by omega) (by omega);have k2:=afb (m+2) (Fe (m+2)) (L d 4) (by omega) most (fun e he=>hc _ (p4 e he).1 (by have:=(p4 e he).2;omega)) (m+3) 0 1 (aC _) (by omega) (by omega);rw[aF]at k1 k2;have hn:=F5 hw;unfold rO at hn;simp only[e2,cond_false,i127];cases h6:(I d 0==6)
   ·    rw[h6]at hn;cases h5:(I d 0==5)
        ·rw[h5]at hn;simp only[cond_false,List.map_nil,List.sum_nil]at hn;simp only[cond_false,ah,hn];congr 1;omega
        ·rw[h5]at hn;simp only[cond_false,cond_true,List.map_map]at hn;have hn':nds d=1+((L d 4).map fun f=>nds (fld f 1)).sum:=hn;have k2':DU (m+2) (Fe (m+2)) (Nat.succ (m+2)) (L d 4) ((L d 4).length:Int) 0 1 (most:Int)=_:=k2;simp only[cond_false,cond_true,k2',ah,hn']
   ·    rw[h6]at hn;simp only[cond_true]at hn;have k1':DT (m+2) (Fe (m+2)) (Nat.succ (m+2)) (L d 3) ((L d 3).length:Int) 0 1 (most:Int)=_:=k1;simp only[cond_true,k1',ah,hn]
theorem ahg{d:Dt}(hw:WV d)(hb:d.bulk<=137438953472)(m:Nat)(hm:3*d.bulk<=m):ng (m+2) d=some ((min (nds d) 1025:Nat):Int):=by simp only[ng];rw[show ((1025:Int))=((1025:Nat):Int)from rfl,Uy d.bulk d (ay _) hb hw m hm 1025 (by omega) (by omega)];rfl
end Go.Proofs.YtjibjkdalajaiaaGreatDoor
namespace Go.Proofs.YtjibjkdalajaiaaGreatDoor
open Go.Am
def okB(c:UInt8):Bool:=!(decide ((c.toNat:Int)<33)||decide ((126:Int)<c.toNat)||((c.toNat:Int)==46))
def nmL(l:List UInt8):Bool:=match l with
 | []=>false
 |c::r=>decide (r.length<32)&&!((c.toNat:Int)==36)&&(c::r).all okB
def nm(s:ByteArray):Bool:=nmL s.data.toList
theorem WS(s:ByteArray)(i:Nat)(h:i<s.size):s.data.toList.drop i=s[i]::s.data.toList.drop (i+1):=by rw[aH (show i<s.data.toList.length by simpa using h)];rfl
theorem KN(s:ByteArray):s.data.toList.length=s.size:=by rw[Array.length_toList];rfl
theorem Uz(m:Nat)(s:ByteArray)(hs:s.size<9223372036854775807):∀(M i:Nat),i<=s.size->s.size-i<M->iF m M s (i:Int)=some ((s.data.toList.drop i).all okB)
 |0,i,_,h=>by omega
 |M+1,i,hi,h=>by
  simp only[iF,dlt];by_cases hlt:i<s.size
  ·rw[WS s i hlt];simp only[hlt,decide_true,cond_true,iE,iG,qc hlt,ah,bR (show i<9223372036854775807 by omega),Uz m s hs M (i+1) (by omega) (by omega),List.all_cons,okB];cases decide (((s[i]).toNat:Int)<33)<;>cases decide ((126:Int)<((s[i]).toNat:Int))<;>cases (((s[i]).toNat:Int)==46)<;>rfl
  ·have:i=s.size:=by omega
   subst this;rw[List.drop_eq_nil_of_le (by rw[KN];omega)];simp[iE,iG]
theorem Pn(s:ByteArray)(h1:1<=s.size)(h2:s.size<=32):nm s=(!(((s[0]).toNat:Int)==36)&&s.data.toList.all okB):=by
 have e:=WS s 0 (by omega);have hl:(s.data.toList.drop 1).length<32:=by rw[List.length_drop,KN];omega
 rw[aF]at e;unfold nm;rw[e];simp only[Nat.zero_add]at hl ⊢
 unfold nmL;simp only[hl,decide_true,Bool.true_and]
theorem Po(s:ByteArray)(h:s.size<1):nm s=false:=by unfold nm;have:s.data.toList=[]:=List.eq_nil_of_length_eq_zero (by rw[KN];omega);rw[this];rfl
theorem Nc(s:ByteArray)(h:32<s.size):nm s=false:=by
 have e:=WS s 0 (by omega);have hl:¬(s.data.toList.drop 1).length<32:=by rw[List.length_drop,KN];omega
 rw[aF]at e;unfold nm;rw[e];simp only[Nat.zero_add];unfold nmL;simp only[hl,decide_false,Bool.false_and]
theorem Nf(m:Nat)(hm:33<=m)(s:ByteArray):ig (m+1) s=some (nm s):=by
 simp only[ig];by_cases h1:s.size<1
 ·have:decide ((s.size:Int)<1)=true:=by simp;omega
  simp only[this,cond_true,iE,iG,Po s h1]
 have e1:decide ((s.size:Int)<1)=false:=by simp;omega
 by_cases h2:32<s.size
 ·have:decide ((32:Int)<(s.size:Int))=true:=by simp;omega
  simp only[e1,this,cond_true,cond_false,iE,iG,Nc s h2]
 have e2:decide ((32:Int)<(s.size:Int))=false:=by simp;omega
 have hx:=qc (s:=s) (i:=0) (by omega);have hl:=Uz m s (by omega) (m+1) 0 (by omega) (by omega);rw[aF]at hl;have hl':iF m (Nat.succ m) s 0=some (s.data.toList.all okB):=hl;simp only[e1,e2,cond_false,show idxS s 0=_ from hx,ah,iE,iG,hl',Pn s (by omega) (by omega)];cases (((s[0]).toNat:Int)==36)<;>rfl
def UA(b:UInt8):Bool:=decide (128<=b.toNat)&&decide (b.toNat<=191)
def tlU(n:Nat)(r:List UInt8):Bool:=decide (n<=r.length)&&(r.take n).all UA
def hdN(r:List UInt8):Nat:=(r.getD 0 0).toNat
def okU(b:Nat)(r:List UInt8):Option Nat:=
 if b<128 then some 0
 else if 194<=b∧b<=223 then(if tlU 1 r=true then some 1 else none)
 else if 224<=b∧b<=239 then(if tlU 2 r=true∧¬(b=224∧hdN r<160)∧¬(b=237∧159<hdN r)then some 2 else none)
 else if 240<=b∧b<=244 then(if tlU 3 r=true∧¬(b=240∧hdN r<144)∧¬(b=244∧143<hdN r)then some 3 else none)
 else none
theorem tl1(r:List UInt8):tlU 1 r=true↔1<=r.length∧128<=(r.getD 0 0).toNat∧(r.getD 0 0).toNat<=191:=by
 unfold tlU UA;match r with
 | []=>simp
 |a::r=>simp
theorem tl2(r:List UInt8):tlU 2 r=true↔2<=r.length∧(128<=(r.getD 0 0).toNat∧(r.getD 0 0).toNat<=191)∧128<=(r.getD 1 0).toNat∧(r.getD 1 0).toNat<=191:=by
 unfold tlU UA;match r with
 | []=>simp
 | [a]=>simp
 |a::b::r=>simp
theorem tl3(r:List UInt8):tlU 3 r=true↔3<=r.length∧(128<=(r.getD 0 0).toNat∧(r.getD 0 0).toNat<=191)∧(128<=(r.getD 1 0).toNat∧(r.getD 1 0).toNat<=191)∧128<=(r.getD 2 0).toNat∧(r.getD 2 0).toNat<=191:=by
 unfold tlU UA;match r with
 | []=>simp
 | [a]=>simp
 | [a,b]=>simp
 |a::b::c::r=>simp
theorem aog(n b0 b1 b2 b3:Nat)(k0:b0<256)(k1:b1<256)(k2:b2<256)(k3:b3<256)(k:Nat)(h:(b0<128∧k=0)∨(194<=b0∧b0<=223∧1<n∧128<=b1∧b1<=191∧k=1)∨(224<=b0∧b0<=239∧2<n∧(128<=b1∧b1<=191)∧(128<=b2∧b2<=191)∧¬(b0=224∧b1<160)∧¬(b0=237∧159<b1)∧k=2)∨(240<=b0∧b0<=244∧3<n∧(128<=b1∧b1<=191)∧(128<=b2∧b2<=191)∧(128<=b3∧b3<=191)∧¬(b0=240∧b1<144)∧¬(b0=244∧143<b1)∧k=3)):
  ¬((Lib.decodeN n b0 b1 b2 b3).1=65533∧(Lib.decodeN n b0 b1 b2 b3).2=1)∧(Lib.decodeN n b0 b1 b2 b3).2=k+1:=by
 rcases h with⟨h1,rfl⟩| ⟨h1,h2,h3,h4,h5,rfl⟩| ⟨h1,h2,h3,h4,h5,h6,h7,rfl⟩| ⟨h1,h2,h3,h4,h5,h6,h7,h8,rfl⟩
 ·unfold Lib.decodeN;rw[if_pos h1];exact⟨fun h=>by have:=h.1;dsimp only at this;omega,rfl⟩
 ·unfold Lib.decodeN;rw[if_neg (by omega),if_pos (by omega),if_pos (by omega)];exact⟨fun h=>by have:=h.2;dsimp only at this;omega,rfl⟩
 ·unfold Lib.decodeN;rw[if_neg (by omega),if_neg (by omega),if_pos (by omega),if_pos (by omega)];exact⟨fun h=>by have:=h.2;dsimp only at this;omega,rfl⟩
 ·unfold Lib.decodeN;rw[if_neg (by omega),if_neg (by omega),if_neg (by omega),if_pos (by omega),if_pos (by omega)];exact⟨fun h=>by have:=h.2;dsimp only at this;omega,rfl⟩
theorem aoh(n b0 b1 b2 b3:Nat)(k0:b0<256)(k1:b1<256)(k2:b2<256)(k3:b3<256)(h1:¬b0<128)(h2:¬(194<=b0∧b0<=223∧1<n∧128<=b1∧b1<=191))(h3:¬(224<=b0∧b0<=239∧2<n∧(128<=b1∧b1<=191)∧(128<=b2∧b2<=191)∧¬(b0=224∧b1<160)∧¬(b0=237∧159<b1)))(h4:¬(240<=b0∧b0<=244∧3<n∧(128<=b1∧b1<=191)∧(128<=b2∧b2<=191)∧(128<=b3∧b3<=191)∧¬(b0=240∧b1<144)∧¬(b0=244∧143<b1))):
  Lib.decodeN n b0 b1 b2 b3=(65533,1):=by
 unfold Lib.decodeN;rw[if_neg h1];split;·rw[if_neg (by omega)]
 ·split;·rw[if_neg (by omega)]
  ·split;·rw[if_neg (by omega)]
   ·rfl
theorem alI(b:UInt8)(r:List UInt8):(∀n,okU b.toNat r=some n->¬((Lib.decodeL (b::r)).1=65533∧(Lib.decodeL (b::r)).2=1)∧(Lib.decodeL (b::r)).2=n+1)∧(okU b.toNat r=none->(Lib.decodeL (b::r)).1=65533∧(Lib.decodeL (b::r)).2=1):=by
 rw[Lib.decodeL_N];have k0:=b.toNat_lt;have k1:=(r.getD 0 0).toNat_lt;have k2:=(r.getD 1 0).toNat_lt;have k3:=(r.getD 2 0).toNat_lt;have e0:((b::r).getD 0 0)=b:=rfl;have e1:((b::r).getD 1 0)=r.getD 0 0:=rfl;have e2:((b::r).getD 2 0)=r.getD 1 0:=rfl;have e3:((b::r).getD 3 0)=r.getD 2 0:=rfl;rw[e0,e1,e2,e3,List.length_cons];have t1:=tl1 r;have t2:=tl2 r;have t3:=tl3 r;unfold okU hdN;generalize tlU 1 r=u1 at*
 generalize tlU 2 r=u2 at*
 generalize tlU 3 r=u3 at*
 generalize (r.getD 0 0).toNat=c1 at*
 generalize (r.getD 1 0).toNat=c2 at*
 generalize (r.getD 2 0).toNat=c3 at*
 generalize b.toNat=c0 at*
 refine⟨fun n hn=>?_,fun hn=>?_⟩
 ·refine aog _ _ _ _ _ k0 k1 k2 k3 n ?_;split at hn;·simp only[aD]at hn;omega
  ·split  at hn
   ·    split at hn;·rename_i h;have:=t1.1 h;simp only[aD]at hn;omega
        ·cases hn
   ·    split at hn
        ·split at hn;·rename_i h;have:=t2.1 h.1;simp only[aD]at hn;omega
         ·cases hn
        ·split at hn
         ·split at hn;·rename_i h;have:=t3.1 h.1;simp only[aD]at hn;omega
          ·cases hn
         ·cases hn
 ·have key:Lib.decodeN (r.length+1) c0 c1 c2 c3=(65533,1):=by
   refine aoh _ _ _ _ _ k0 k1 k2 k3 ?_ ?_ ?_ ?_<;>intro h;·rw[if_pos h]at hn;cases hn
   ·rw[if_neg (by omega),if_pos (by omega),if_pos (t1.2 (by omega))]at hn;cases hn
   ·rw[if_neg (by omega),if_neg (by omega),if_pos (by omega),if_pos ⟨t2.2 (by omega),by omega,by omega⟩]at hn;cases hn
   ·rw[if_neg (by omega),if_neg (by omega),if_neg (by omega),if_pos (by omega),if_pos ⟨t3.2 (by omega),by omega,by omega⟩]at hn;cases hn
  rw[key];exact⟨rfl,rfl⟩
theorem WT(k:Nat)(b:UInt8)(r:List UInt8):Lib.validGoD (k+1) (b::r)=match okU b.toNat r with
  |some n=>Lib.validGoD k (r.drop n)
  |none=>false:=by
 obtain⟨h1,h2⟩:=alI b r;have hd:Lib.validGoD (k+1) (b::r)=if(b::r:List UInt8)=[]then true else if(Lib.decodeL (b::r)).1=65533∧(Lib.decodeL (b::r)).2=1 then false else Lib.validGoD k ((b::r).drop (Lib.decodeL (b::r)).2):=rfl;rw[hd,if_neg (by simp)];cases e:okU b.toNat r with
 |none=>
  rw[if_pos (h2 e)]
 |some n=>
  obtain⟨h3,h4⟩:=h1 n e;rw[if_neg h3,h4,List.drop_succ_cons]
theorem ZF:∀k,Lib.validGoD k []=true
 |0=>rfl
 |k+1=>by unfold Lib.validGoD;rw[if_pos rfl]
theorem UC(m:Nat)(s:ByteArray)(i n:Nat)(hin:i+n<=s.size)(hs:s.size<4611686018427387904):∀(M k:Nat),k<=n->n-k<M->om m M s (i:Int) (n:Int) (k:Int)=some (((s.data.toList.drop (i+k)).take (n-k)).all UA)
 |0,k,_,h=>by omega
 |M+    1,k,hk,h=>by
  simp only[om,dlt];by_cases hlt:k<n
  ·have w1:IntKind.wrap IntKind.i64 ((i:Int)+(k:Int))=((i+k:Nat):Int):=by rw[wrap64 (by omega) (by omega)];omega
   rw[WS s (i+k) (by omega),show n-k=(n-(k+1))+1 by omega,List.take_succ_cons,List.all_cons];simp only[hlt,decide_true,cond_true,ug,oh,uh,uj,um,uo,w1,qc (show i+k<s.size by omega),ah,bR (show k<9223372036854775807 by omega),UC m s i n hin hs M (k+1) (by omega) (by omega),UA];rw[show i+k+1=i+(k+1) by omega];generalize (s[i+k]).toNat=b;by_cases h1:b<128
   ·    have e1:decide ((b:Int)<128)=true:=by simp;omega
        have e2:decide (128<=b)=false:=by simp;omega
        simp only[e1,e2,cond_true,Bool.false_and]
   ·    have e1:decide ((b:Int)<128)=false:=by simp;omega
        have e2:decide (128<=b)=true:=by simp;omega
        by_cases h2:191<b
        ·have e3:decide ((191:Int)<(b:Int))=true:=by simp;omega
         have e4:decide (b<=191)=false:=by simp;omega
         simp only[e1,e2,e3,e4,cond_true,cond_false,Bool.true_and,Bool.false_and]
        ·have e3:decide ((191:Int)<(b:Int))=false:=by simp;omega
         have e4:decide (b<=191)=true:=by simp;omega
         simp only[e1,e2,e3,e4,cond_true,cond_false,Bool.true_and]
  ·have:k=n:=by omega
   subst this;simp[ug,oh,uh,uj,um,uo]
theorem aoi(m:Nat)(hm:4<=m)(s:ByteArray)(hs:s.size<4611686018427387904)(i n:Nat)(hn:n<=3)(hi:i<=s.size):qN (m+1) s (i:Int) (n:Int)=some (tlU n (s.data.toList.drop i)):=by
 have w1:IntKind.wrap IntKind.i64 ((i:Int)+(n:Int))=((i+n:Nat):Int):=by rw[wrap64 (by omega) (by omega)];omega
 have hl:(s.data.toList.drop i).length=s.size-i:=by rw[List.length_drop,KN]
 simp only[qN,w1,dlt,tlU,hl];by_cases h:s.size<i+n
 ·have e:decide (n<=s.size-i)=false:=by simp;omega
  simp only[h,e,decide_true,cond_true,Bool.false_and]
 ·have e:decide (n<=s.size-i)=true:=by simp;omega
  have:=UC m s i n (by omega) hs (m+1) 0 (by omega) (by omega);rw[Nat.add_zero,Nat.sub_zero]at this;simp only[h,e,decide_false,cond_false,Bool.true_and,ug,oh,uh,uj,um,uo];exact this
theorem asq(s:ByteArray)(i:Nat)(h:i<s.size):idxS s (i:Int)=some ((hdN (s.data.toList.drop i):Nat):Int):=by rw[qc h,WS s i h];rfl
theorem bN(b k:Nat):(((b:Nat):Int)==((k:Nat):Int))=decide (b=k):=by rw[Bool.eq_iff_iff];simp;omega
def WU(b h:Nat):Bool:=(decide (b=224)&&decide (h<160))||(decide (b=237)&&decide (159<h))||(decide (b=240)&&decide (h<144))||(decide (b=244)&&decide (143<h))
theorem asr(m:Nat)(rec1:ByteArray->Int->Option Bool)(s:ByteArray)(hs:s.size<4611686018427387904)(i b n:Nat)(hn:n<=3)(hi:i<s.size)(hb:b<128∨i+1<s.size):yY m rec1 s (i:Int) (b:Int) (n:Int)=bif WU b (hdN (s.data.toList.drop (i+1)))then some false else rec1 s ((i+n+1:Nat):Int):=by
 have q1:(((b:Nat):Int)==224)=decide (b=224):=bN b 224;have q2:(((b:Nat):Int)==237)=decide (b=237):=bN b 237;have q3:(((b:Nat):Int)==240)=decide (b=240):=bN b 240;have q4:(((b:Nat):Int)==244)=decide (b=244):=bN b 244;have w0:IntKind.wrap IntKind.i64 ((IntKind.wrap IntKind.i64 ((i:Int)+(n:Int)))+1)=((i+n+1:Nat):Int):=by
  have wa:IntKind.wrap IntKind.i64 ((i:Int)+(n:Int))=((i+n:Nat):Int):=by rw[wrap64 (by omega) (by omega)];omega
  rw[wa,bR (by omega)]
 have w1:IntKind.wrap IntKind.i64 ((i:Int)+1)=((i+1:Nat):Int):=bR (by omega);simp only[yY,bL,EG,q1,q2,q3,q4,w0,w1,WU];by_cases hlt:i+1<s.size
 ·rw[asq s (i+1) hlt];generalize hdN (s.data.toList.drop (i+1))=h;have d1:decide (((h:Nat):Int)<160)=decide (h<160):=dlt (j:=160);have d2:decide ((159:Int)<((h:Nat):Int))=decide (159<h):=dlt (i:=159);have d3:decide (((h:Nat):Int)<144)=decide (h<144):=dlt (j:=144);have d4:decide ((143:Int)<((h:Nat):Int))=decide (143<h):=dlt (i:=143);simp only[ah,d1,d2,d3,d4];cases decide (b=224)<;>cases decide (b=237)<;>cases decide (b=240)<;>cases decide (b=244)<;>cases decide (h<160)<;>cases decide (159<h)<;>cases decide (h<144)<;>cases decide (143<h)<;>rfl
 ·have hb':b<128:=by omega
  have c1:decide (b=224)=false:=by simp;omega
  have c2:decide (b=237)=false:=by simp;omega
  have c3:decide (b=240)=false:=by simp;omega
  have c4:decide (b=244)=false:=by simp;omega
  simp only[c1,c2,c3,c4,cond_false,Bool.false_and,Bool.or_false]
theorem asu(m:Nat)(hm:4<=m)(rec1:ByteArray->Int->Option Bool)(s:ByteArray)(hs:s.size<4611686018427387904)(i b n:Nat)(hn:n<=3)(hi:i<s.size)(hb:b<128∨1<=n):lD (m+1) rec1 s (i:Int) (b:Int) (n:Int)=bif tlU n (s.data.toList.drop (i+1))then(bif WU b (hdN (s.data.toList.drop (i+1)))then some false else rec1 s ((i+n+1:Nat):Int))else some false:=by
 have w1:IntKind.wrap IntKind.i64 ((i:Int)+1)=((i+1:Nat):Int):=bR (by omega);simp only[lD,w1,aoi m hm s hs (i+1) n hn (by omega),ah];cases ht:tlU n (s.data.toList.drop (i+1));·simp only[Bool.not_false,cond_true,cond_false]
 ·have h1:i+1+n<=s.size:=by unfold tlU at ht;have:=of_decide_eq_true (Bool.and_eq_true_iff.1 ht).1;rw[List.length_drop,KN]at this;omega
  simp only[Bool.not_true,cond_true,cond_false,asr (m+1) rec1 s hs i b n hn hi (by omega)]
theorem alJ(m:Nat)(hm:4<=m)(rec1:ByteArray->Int->Option Bool)(s:ByteArray)(hs:s.size<4611686018427387904)(i:Nat)(hi:i<s.size):yZ (m+1) rec1 s (i:Int)=match okU (s[i]).toNat (s.data.toList.drop (i+1))with
  |some n=>rec1 s ((i+n+1:Nat):Int)
  |none=>some false:=by
 have hlt:=(s[i]).toNat_lt;simp only[yZ,qc hi,ah];generalize (s[i]).toNat=b at hlt;have t0:tlU 0 (s.data.toList.drop (i+1))=true:=by simp[tlU]
 have r:=asu m hm rec1 s hs i b;have r0:=fun h=>r 0 (by omega) hi h;have r1:=fun h=>r 1 (by omega) hi h;have r2:=fun h=>r 2 (by omega) hi h;have r3:=fun h=>r 3 (by omega) hi h;rw[t0]at r0;have agN:decide (((b:Nat):Int)<128)=decide (b<128):=dlt (j:=128);have d194:decide ((194:Int)<=((b:Nat):Int))=decide (194<=b):=dle (i:=194);have d223:decide (((b:Nat):Int)<=223)=decide (b<=223):=dle (j:=223);have d224:decide ((224:Int)<=((b:Nat):Int))=decide (224<=b):=dle (i:=224);have d239:decide (((b:Nat):Int)<=239)=decide (b<=239):=dle (j:=239);have d240:decide ((240:Int)<=((b:Nat):Int))=decide (240<=b):=dle (i:=240);have d244:decide (((b:Nat):Int)<=244)=decide (b<=244):=dle (j:=244);simp only[agN,d194,d223,d224,d239,d240,d244];unfold okU;by_cases h1:b<128
 ·have hr:=r0 (.inl h1);have hbad:WU b (hdN (s.data.toList.drop (i+1)))=false:=by simp only[WU,show decide (b=224)=false by simp;omega,show decide (b=237)=false by simp;omega,show decide (b=240)=false by simp;omega,show decide (b=244)=false by simp;omega,Bool.false_and,Bool.or_false]
  rw[if_pos h1];simp only[h1,decide_true,cond_true];rw[show (0:Int)=((0:Nat):Int)from rfl,hr,hbad];rfl
 rw[if_neg h1];simp only[h1,decide_false,cond_false,uy,uw,uq,d224,d239,d240,d244];by_cases h2:194<=b∧b<=223
 ·have hr:=r1 (.inr (by omega));have hbad:WU b (hdN (s.data.toList.drop (i+1)))=false:=by simp only[WU,show decide (b=224)=false by simp;omega,show decide (b=237)=false by simp;omega,show decide (b=240)=false by simp;omega,show decide (b=244)=false by simp;omega,Bool.false_and,Bool.or_false]
  rw[if_pos h2];simp only[h2.1,h2.2,decide_true,cond_true];rw[show (1:Int)=((1:Nat):Int)from rfl,hr,hbad];cases tlU 1 (s.data.toList.drop (i+1))<;>rfl
 rw[if_neg h2];have e2:(bif decide (194<=b)then decide (b<=223)else false)=false:=by
  by_cases h:194<=b;·simp only[h,decide_true,cond_true];simp;omega
  ·simp[h]
 have k2:∀{X:Type}(f:Bool->X),(bif decide (194<=b)then f (decide (b<=223))else f false)=f false:=fun f=>by
  by_cases h:194<=b
  ·have:decide (b<=223)=false:=by simp;omega
   simp only[h,decide_true,cond_true,this]
  ·simp only[h,decide_false,cond_false]
 have k3:=fun{X:Type}(f:Bool->X)(h:¬(224<=b∧b<=239))=>show (bif decide (224<=b)then f (decide (b<=239))else f false)=f false by
  by_cases h':224<=b
  ·have:decide (b<=239)=false:=by simp;omega
   simp only[h',decide_true,cond_true,this]
  ·simp only[h',decide_false,cond_false]
 have k4:=fun{X:Type}(f:Bool->X)(h:¬(240<=b∧b<=244))=>show (bif decide (240<=b)then f (decide (b<=244))else f false)=f false by
  by_cases h':240<=b
  ·have:decide (b<=244)=false:=by simp;omega
   simp only[h',decide_true,cond_true,this]
  ·simp only[h',decide_false,cond_false]
 by_cases h3:224<=b∧b<=239
 ·have hr:=r2 (.inr (by omega));have hg:decide (194<=b)=true:=by simp;omega
  have hg2:decide (b<=223)=false:=by simp;omega
  rw[if_pos h3];simp only[hg,hg2,h3.1,h3.2,decide_true,cond_true,cond_false];rw[show (2:Int)=((2:Nat):Int)from rfl,hr];simp only[WU,show decide (b=240)=false by simp;omega,show decide (b=244)=false by simp;omega,Bool.false_and,Bool.or_false];generalize hdN (s.data.toList.drop (i+1))=h;cases tlU 2 (s.data.toList.drop (i+1));·rw[if_neg (by simp)];rfl
  ·by_cases hb1:b=224∧h<160
   ·    rw[if_neg (by simp;omega)];simp only[hb1.1,hb1.2,decide_true,Bool.true_and,Bool.true_or,cond_true]
   ·    by_cases hb2:b=237∧159<h
        ·rw[if_neg (by simp;omega)];simp only[hb2.1,hb2.2,decide_true,Bool.true_and,Bool.or_true,cond_true]
        ·rw[if_pos ⟨rfl,hb1,hb2⟩];have e1:(decide (b=224)&&decide (h<160))=false:=by rw[Bool.and_eq_false_iff];simp;omega
         have e3:(decide (b=237)&&decide (159<h))=false:=by rw[Bool.and_eq_false_iff];simp;omega
         simp only[e1,e3,Bool.or_false,cond_true,cond_false]
 rw[if_neg h3];by_cases h4:240<=b∧b<=244
 ·have hr:=r3 (.inr (by omega));have hg:decide (194<=b)=true:=by simp;omega
  have hg2:decide (b<=223)=false:=by simp;omega
  have hg3:decide (224<=b)=true:=by simp;omega
  have hg4:decide (b<=239)=false:=by simp;omega
  rw[if_pos h4];simp only[hg,hg2,hg3,hg4,h4.1,h4.2,decide_true,cond_true,cond_false];rw[show (3:Int)=((3:Nat):Int)from rfl,hr];simp only[WU,show decide (b=224)=false by simp;omega,show decide (b=237)=false by simp;omega,Bool.false_and,Bool.false_or];generalize hdN (s.data.toList.drop (i+1))=h;cases tlU 3 (s.data.toList.drop (i+1));·rw[if_neg (by simp)];rfl
  ·by_cases hb1:b=240∧h<144
   ·    rw[if_neg (by simp;omega)];simp only[hb1.1,hb1.2,decide_true,Bool.true_and,Bool.true_or,cond_true]
   ·    by_cases hb2:b=244∧143<h
        ·rw[if_neg (by simp;omega)];simp only[hb2.1,hb2.2,decide_true,Bool.true_and,Bool.or_true,cond_true]
        ·rw[if_pos ⟨rfl,hb1,hb2⟩];have e1:(decide (b=240)&&decide (h<144))=false:=by rw[Bool.and_eq_false_iff];simp;omega
         have e3:(decide (b=244)&&decide (143<h))=false:=by rw[Bool.and_eq_false_iff];simp;omega
         simp only[e1,e3,Bool.or_false,cond_true,cond_false]
 rw[if_neg h4];by_cases g1:194<=b<;>by_cases g2:224<=b<;>by_cases g3:240<=b;all_goals by_cases g4:b<=223<;>by_cases g5:b<=239<;>by_cases g6:b<=244
 all_goals first|(exfalso;omega)|(simp only[g1,g2,g3,g4,g5,g6,decide_true,decide_false,cond_true,cond_false])
theorem ZG(     m:Nat)(hm:4<=m)(s:ByteArray)(hs:s.size<4611686018427387904):∀(M i k:Nat),i<=s.size->s.size-i<M->s.size-i<=k->jw (m+1) M s (i:Int)=some (Lib.validGoD k (s.data.toList.drop i))
 |0,i,_,_,h,_=>by omega
 |M+    1,i,k,hi,h,hk=>by
  simp only[jw,dlt];by_cases hlt:i<s.size
  ·obtain⟨  k,rfl⟩:∃q,k=q+1:=⟨k-1,by omega⟩;simp only[hlt,decide_true,cond_true];rw[alJ m hm _ s hs i hlt,WS s i hlt,WT];cases e:okU (s[i]).toNat (s.data.toList.drop (i+1))with
   |none=>rfl
   |    some n=>
        have hn:n<=(s.data.toList.drop (i+1)).length:=by
         unfold okU at e;split at e;·simp only[aD]at e;omega
         ·split at e
          · split at e;·rename_i h;have:=(tl1 _).1 h;simp only[aD]at e;omega
            ·cases e
          · split at e
            ·  split at e;·rename_i h;have:=(tl2 _).1 h.1;simp only[aD]at e;omega
               ·cases e
            ·  split at e
               ·split at e;·rename_i h;have:=(tl3 _).1 h.1;simp only[aD]at e;omega
                ·cases e
               ·cases e
        rw[List.length_drop,KN]at hn;show jw (m+1) M s ((i+n+1:Nat):Int)=_;rw[ZG m hm s hs M (i+n+1) k (by omega) (by omega) (by omega)];show _=some (Lib.validGoD k (List.drop n (List.drop (i+1) s.data.toList)));rw[List.drop_drop,show i+1+n=i+n+1 by omega]
  ·rw[List.drop_eq_nil_of_le (by rw[KN];omega),ZF];simp only[hlt,decide_false,cond_false];simp[CK]
theorem asv(m:Nat)(s:ByteArray)(hs:s.size<4611686018427387904)(hm:s.size+5<=m):qO (m+1) s=some (Lib.validD s.data.toList):=by obtain⟨m,rfl⟩:∃q,m=q+1:=⟨m-1,by omega⟩;have:=ZG m (by omega) s hs (m+2) 0 s.size (by omega) (by omega) (by omega);rw[aF]at this;unfold Lib.validD;rw[KN];exact this
def eqb(a b:ByteArray):Bool:=a.toList==b.toList
theorem WW(a b:ByteArray):eqb a b=true↔a=b:=by
 unfold eqb;rw[ByteArray.toList_eq,ByteArray.toList_eq,beq_iff_eq];refine⟨fun h=>?_,fun h=>by rw[h]⟩;cases a with|mk x=>cases b with|mk y=>
 have:x=y:=Array.ext' h;rw[this]
theorem Ik(a b:ByteArray):eqb a b=eqb b a:=by rw[Bool.eq_iff_iff,WW,WW];exact eq_comm
theorem asw(a b:ByteArray):eqb a b=(a==b):=by rw[Bool.eq_iff_iff,WW,vU]
theorem ZH(s t:ByteArray)(v:Dt):∀es:List Dt,mget (mput es s v) t=bif s==t then some v else mget es t
 | []=>by simp only[mput,mget];rfl
 | e::r=>by
   simp only[mput];cases h:(e.S 0)==s
   ·simp only[cond_false,mget,ZH s t v r];cases h2:(e.S 0)==t;·rfl
    ·   have:(s==t)=false:=IV fun e1=>by subst e1;rw[h]at h2;cases h2
        rw[this];rfl
   ·have e1:=(vU _ _).1 h;simp only[cond_true,mget,e1];show (bif s==t then some v else mget r t)=bif s==t then some v else(bif s==t then some (e.fld 1)else mget r t);cases (s==t)<;>rfl
def alK(mp:List Dt)(seen:List ByteArray):Prop:=∀s,(mgetD mp s (.bool false)).toBool=seen.any (eqb s)
theorem ZI:alK [] []:=fun s=>rfl
theorem ZJ{mp:List Dt}{seen:List ByteArray}(h:alK mp seen)(s:ByteArray):alK (mput mp s (.bool true)) (seen++[s]):=fun t=>by
 have:=h t;unfold mgetD at this ⊢
 rw[ZH,List.any_append,←this];simp only[List.any_cons,List.any_nil,Bool.or_false];rw[Ik t s,asw];cases (s==t);·simp
 ·simp[Dt.toBool]
def ZK(p:ByteArray->Bool):List ByteArray->List ByteArray->Bool
 |_,[]=>true
 |seen,s::r=>p s&&!(seen.any (eqb s))&&ZK p (seen++[s]) r
end Go.Proofs.YtjibjkdalajaiaaGreatDoor
namespace Go.Proofs.YtjibjkdalajaiaaGreatDoor
open Go.Am Dt
def shp(d:Dt):Bool:=
 (I d 0==3||I d 0==9||I d 0==10||I d 1==0)&&(I d 0==4||I d 0==7||I d 0==8||(S d 2).toList==[])&&
 (I d 0==6||!(decide ((0:Int)<((L d 3).length:Int))))&&(I d 0==5||!(decide ((0:Int)<((L d 4).length:Int))))
def fl(p:ByteArray->Bool)(self:Dt->Bool):List ByteArray->List Dt->Bool
 |_,[]=>true
 |seen,f::r=>p (S f 0)&&!(seen.any (eqb (S f 0)))&&self (fld f 1)&&fl p self (seen++[S f 0]) r
def sndF(p:ByteArray->Bool):Nat->Dt->Bool
 |0,_=>false
 |  n+1,d=>shp d&&(bif I d 0==9 then(I d 1==0||I d 1==1)else bif I d 0==10 then decide ((0:Int)<=I d 1)else bif I d 0==4 then(decide (((S d 2).size:Int)<=4096)&&Lib.validD (S d 2).data.toList)else
    bif I d 0==7 then decide (((S d 2).size:Int)<=4096)else bif I d 0==8 then(((S d 2).size:Int)==12)else bif I d 0==6 then(L d 3).all (sndF p n)else bif I d 0==5 then fl p (sndF p n) [] (L d 4)else(decide (1<=I d 0)&&decide (I d 0<=11)))
theorem ap2(k:Int):k=1∨k=2∨k=3∨k=4∨k=5∨k=6∨k=7∨k=8∨k=9∨k=10∨k=11∨(k<1∨11<k):=by omega
theorem kno{k:Int}(h:k<1∨11<k):(k==1)=false∧(k==2)=false∧(k==3)=false∧(k==4)=false∧(k==5)=false∧(k==6)=false∧(k==7)=false∧(k==8)=false∧(k==9)=false∧(k==10)=false∧(k==11)=false:=by refine⟨?_,?_,?_,?_,?_,?_,?_,?_,?_,?_,?_⟩<;>rw[beq_eq_false_iff_ne]<;>omega
theorem Aj(m:Nat)(s:ByteArray)(hs:s.size<9223372036854775807):∀(M i:Nat),i<=s.size->s.size-i<M->fM m M s (s.size:Int) (i:Int)=some ((s.data.toList.drop i).all okB)
 |0,i,_,h=>by omega
 |M+1,i,hi,h=>by
  simp only[fM,dlt];by_cases hlt:i<s.size
  ·rw[WS s i hlt];simp only[hlt,decide_true,cond_true,fK,fO,qc hlt,ah,bR (show i<9223372036854775807 by omega),Aj m s hs M (i+1) (by omega) (by omega),List.all_cons,okB];cases decide (((s[i]).toNat:Int)<33)<;>cases decide ((126:Int)<((s[i]).toNat:Int))<;>cases (((s[i]).toNat:Int)==46)<;>rfl
  ·have:i=s.size:=by omega
   subst this;rw[List.drop_eq_nil_of_le (by rw[KN];omega)];simp[fK,fO]
theorem Mt(m:Nat)(hm:33<=m)(s:ByteArray):nJ (m+1) s=some (nm s):=by
 simp only[nJ];by_cases h1:s.size<1
 ·have:decide ((s.size:Int)<1)=true:=by simp;omega
  simp only[this,cond_true,fK,fO,Po s h1]
 have e1:decide ((s.size:Int)<1)=false:=by simp;omega
 by_cases h2:32<s.size
 ·have:decide ((32:Int)<(s.size:Int))=true:=by simp;omega
  simp only[e1,this,cond_true,cond_false,fK,fO,Nc s h2]
 have e2:decide ((32:Int)<(s.size:Int))=false:=by simp;omega
 have hx:=qc (s:=s) (i:=0) (by omega);have hl:=Aj m s (by omega) (m+1) 0 (by omega) (by omega);rw[aF]at hl;have hl':fM m (Nat.succ m) s (s.size:Int) 0=some (s.data.toList.all okB):=hl;simp only[e1,e2,cond_false,show idxS s 0=_ from hx,ah,fK,fO,hl',Pn s (by omega) (by omega)];cases (((s[0]).toNat:Int)==36)<;>rfl
def okW(c:UInt8):Bool:=!(decide ((c.toNat:Int)<32)||decide ((126:Int)<c.toNat))
def wd(s:ByteArray):Bool:=decide (1<=s.size)&&decide (s.size<=128)&&s.data.toList.all okW
theorem UD(m:Nat)(s:ByteArray)(hs:s.size<9223372036854775807):∀(M i:Nat),i<=s.size->s.size-i<M->jA m M s (i:Int)=some ((s.data.toList.drop i).all okW)
 |0,i,_,h=>by omega
 |M+1,i,hi,h=>by
  simp only[jA,dlt];by_cases hlt:i<s.size
  ·rw[WS s i hlt];simp only[hlt,decide_true,cond_true,jy,jB,qc hlt,ah,bR (show i<9223372036854775807 by omega),UD m s hs M (i+1) (by omega) (by omega),List.all_cons,okW];cases decide (((s[i]).toNat:Int)<32)<;>cases decide ((126:Int)<((s[i]).toNat:Int))<;>rfl
  ·have:i=s.size:=by omega
   subst this;rw[List.drop_eq_nil_of_le (by rw[KN];omega)];simp[jy,jB]
theorem aoj(m:Nat)(hm:129<=m)(s:ByteArray):nD (m+1) s=some (wd s):=by
 simp only[nD,wd];by_cases h1:s.size<1
 ·have:decide ((s.size:Int)<1)=true:=by simp;omega
  have e:decide (1<=s.size)=false:=decide_eq_false (by omega);simp only[this,cond_true,jy,jB,e,Bool.false_and]
 have e1:decide ((s.size:Int)<1)=false:=by simp;omega
 have f1:decide (1<=s.size)=true:=by simp;omega
 by_cases h2:128<s.size
 ·have:decide ((128:Int)<(s.size:Int))=true:=by simp;omega
  have e:decide (s.size<=128)=false:=by simp;omega
  simp only[e1,f1,this,cond_true,cond_false,jy,jB,e,Bool.false_and,Bool.and_false]
 have e2:decide ((128:Int)<(s.size:Int))=false:=by simp;omega
 have f2:decide (s.size<=128)=true:=by simp;omega
 have hl:=UD m s (by omega) (m+1) 0 (by omega) (by omega);rw[aF]at hl;have hl':jA m (Nat.succ m) s 0=some (s.data.toList.all okW):=hl;simp only[e1,e2,f1,f2,cond_false,jy,jB,hl',Bool.true_and]
theorem afc(m:Nat)(hm:34<=m)(self:Dt->Option Bool)(g:Dt->Bool)(L:List Dt)(hl:L.length<9223372036854775807)(hs:∀f∈L,self (fld f 1)=some (g (fld f 1))):∀(M i:Nat)(mp:List Dt),i<=L.length->L.length-i<M->alK mp ((L.take i).map fun f=>S f 0)->
  dW m self M L (L.length:Int) (i:Int) mp=some (fl nm g ((L.take i).map fun f=>S f 0) (L.drop i))
 |0,i,_,_,h,_=>by omega
 |M+    1,i,mp,hi,h,hmp=>by
  obtain⟨m,rfl⟩:∃q,m=q+1:=⟨m-1,by omega⟩;simp only[dW,dlt];by_cases hlt:i<L.length
  ·have hr:=hs _ (aI hlt);have hp:=hmp (S L[i] 0);have hmp':=ZJ hmp (S L[i] 0);have et:(L.take (i+1)).map (fun f=>S f 0)=((L.take i).map fun f=>S f 0)++[S L[i] 0]:=by rw[List.take_succ_eq_append_getElem hlt,List.map_append];rfl
   rw[←et]at hmp';have ih:=afc (m+1) hm self g L hl hs M (i+1) _ (by omega) (by omega) hmp';rw[aH hlt,fl,←et];simp only[hlt,decide_true,cond_true,eU,bE hlt,ah,hr,hp,Mt m (by omega),bR (show i<9223372036854775807 by omega),ih];cases nm (S L[i] 0)<;>cases ((L.take i).map fun f=>S f 0).any (eqb (S L[i] 0))<;>cases g (fld L[i] 1)<;>rfl
  ·have:i=L.length:=by omega
   subst this;simp[eU,fl]
theorem afd(m:Nat)(self:Dt->Option Bool)(self2:List Dt->Option Bool)(g:Dt->Bool)(L:List Dt)(hl:L.length<9223372036854775807)(hs:∀e∈L,self e=some (g e)):∀(M i:Nat),i<=L.length->L.length-i<M->
  mP m self self2 M L (L.length:Int) (i:Int)=some ((L.drop i).all g)
 |0,i,_,h=>by omega
 |M+1,i,hi,h=>by
  simp only[mP,dlt];by_cases hlt:i<L.length
  ·have hr:=hs _ (aI hlt);have ih:=afd m self self2 g L hl hs M (i+1) (by omega) (by omega);rw[aH hlt,List.all_cons];simp only[hlt,decide_true,cond_true,su,fH,mQ,gJ,mR,gK,gL,gM,bE hlt,ah,hr,bR (show i<9223372036854775807 by omega),ih];cases g L[i]<;>rfl
  ·have:i=L.length:=by omega
   subst this;simp[su,fH,mQ,gJ,mR,gK,gL,gM]
theorem asx(m:Nat)(d:Dt):bJ (m+1) d=bif shp d then fH m (bJ m) (bH m) (I d 0) (I d 0==1||I d 0==2||I d 0==11||I d 0==3) d else some false:=by
 have e5:∀s1 s2,mQ m s1 s2 d=fH m s1 s2 (I d 0) (I d 0==1||I d 0==2||I d 0==11||I d 0==3) d:=fun s1 s2=>by simp only[mQ];cases (I d 0==1)<;>cases (I d 0==2)<;>cases (I d 0==11)<;>rfl
 have e3:∀s1 s2,mR m s1 s2 d=bif (I d 0==6||!(decide ((0:Int)<((L d 3).length:Int))))&&(I d 0==5||!(decide ((0:Int)<((L d 4).length:Int))))then mQ m s1 s2 d else some false:=fun s1 s2=>by simp only[mR,gJ,bne];cases (I d 0==6)<;>cases (I d 0==5)<;>cases decide ((0:Int)<((L d 3).length:Int))<;>cases decide ((0:Int)<((L d 4).length:Int))<;>rfl
 have e1:∀s1 s2 x0 x1,gL m s1 s2 x0 x1 d=bif (x0||I d 1==0)&&(x1||(S d 2).toList==[])then mR m s1 s2 d else some false:=fun s1 s2 x0 x1=>by simp only[gL,gK,bne];cases x0<;>cases x1<;>cases (I d 1==0)<;>cases ((S d 2).toList==[])<;>rfl
 have e0:∀s1 s2 x0,gM m s1 s2 x0 d=gL m s1 s2 x0 (I d 0==4||I d 0==7||I d 0==8) d:=fun s1 s2 x0=>by simp only[gM];cases (I d 0==4)<;>cases (I d 0==7)<;>rfl
 have e:bJ (m+1) d=gM m (bJ m) (bH m) (I d 0==3||I d 0==9||I d 0==10) d:=by simp only[bJ];cases (I d 0==3)<;>cases (I d 0==9)<;>rfl
 rw[e,e0,e1,e3,e5];unfold shp;cases (I d 0==3||I d 0==9||I d 0==10||I d 1==0)<;>cases (I d 0==4||I d 0==7||I d 0==8||(S d 2).toList==[])<;>cases (I d 0==6||!(decide ((0:Int)<((L d 3).length:Int))))<;>cases (I d 0==5||!(decide ((0:Int)<((L d 4).length:Int))))<;>rfl
theorem UE:∀(N:Nat)(d:Dt),d.bulk<=N->N<=137438953472->WV d->∀m,2*N+40<=m->bJ (m+1) d=some (sndF nm N d)
 |0,d,h,_,_,_,_=>by have:=gX d;omega
 |N+1,d,h,hN,hw,m,hm=>by
  obtain⟨m,rfl⟩:∃q,m=q+2:=⟨m-2,by omega⟩;obtain⟨p1,p2,p3,p4⟩:=Dp hw;have ih:∀e:Dt,WV e->e.bulk<=N->∀q,2*N+40<=q->bJ (q+1) e=some (sndF nm N e):=fun e hwe hbe q hq=>UE N e hbe (by omega) hwe q hq;have k1:=afd (m+2) (bJ (m+2)) (bH (m+2)) (sndF nm N) (L d 3) (by omega) (fun e he=>ih e (p3 e he).1 (by have:=(p3 e he).2;omega) (m+1) (by omega)) (m+3) 0 (aC _) (by omega);have k2:=afc (m+1) (by omega) (bJ (m+1)) (sndF nm N) (L d 4) (by omega) (fun f hf=>ih _ (p4 f hf).1 (by have:=(p4 f hf).2;omega) m (by omega)) (m+2) 0 [] (aC _) (by omega) ZI;rw[aF]at k1 k2;have k1':mP (m+2) (bJ (m+2)) (bH (m+2)) (Nat.succ (m+2)) (L d 3) ((L d 3).length:Int) 0=some ((L d 3).all (sndF nm N)):=k1;have k2':bH (m+2) (L d 4)=some (fl nm (sndF nm N) [] (L d 4)):=by simp only[bH,eU];exact k2
  rw[asx];have hj:su (m+2) (bJ (m+2)) (bH (m+2)) (L d 3) ((L d 3).length:Int) 0=some ((L d 3).all (sndF nm N)):=k1';simp only[fH,hj,k2',ah,utf8_ValidString,sndF];cases shp d;·rfl
  simp only[cond_true,Bool.true_and];generalize (L d 3).all (sndF nm N)=a1;generalize fl nm (sndF nm N) [] (L d 4)=a2;generalize Lib.validD (S d 2).data.toList=a3;generalize I d 0=k;generalize ((S d 2).size:Int)=sz;generalize I d 1=n;rcases ap2 k with rfl|rfl|rfl|rfl|rfl|rfl|rfl|rfl|rfl|rfl|rfl|hk
  case inr.inr.inr.inr.inr.inr.inr.inr.inr.inr.inr=>
   obtain⟨q1,q2,q3,q4,q5,q6,q7,q8,q9,q10,q11⟩:=kno hk;simp only[q1,q2,q3,q4,q5,q6,q7,q8,q9,q10,q11,Bool.or_self,cond_false];have:(decide (1<=k)&&decide (k<=11))=false:=by rw[Bool.and_eq_false_iff];simp;omega
   rw[this]
  all_goals first|rfl|(cases (n==0)<;>rfl)|(show (bif decide (sz<=4096)then some a3 else some false)=some (decide (sz<=4096)&&a3);cases decide (sz<=4096)<;>rfl)
def nmP(names:Bool)(s:ByteArray):Bool:=bif names then nm s else wd s
theorem ap3(m:Nat)(self:Dt->Bool->Option Bool)(names:Bool)(rec1:Bool->Int->Dt->Option Bool)(d f:Dt)(i:Nat)(hi:i<(L d 4).length)(hl:(L d 4).length<9223372036854775807):∀(M k:Nat),k<=i->i-k<M->
  kr m self rec1 M names (i:Int) (k:Int) d f=bif ((((L d 4).take i).drop k).map fun e=>S e 0).any (eqb (S f 0))then some false else rec1 names ((i+1:Nat):Int) d
 |0,k,_,h=>by omega
 |M+1,k,hk,h=>by
  simp only[kr,dlt];by_cases hlt:k<i
  ·have hk2:k<((L d 4).take i).length:=by rw[List.length_take];omega
   have ih:=ap3 m self names rec1 d f i hi hl M (k+1) (by omega) (by omega);rw[aH hk2,List.map_cons,List.any_cons,List.getElem_take];simp only[hlt,decide_true,cond_true,dN,bE (show k<(L d 4).length by omega),ah,bR (show k<9223372036854775807 by omega),ih];rw[Ik (S f 0)];unfold eqb;cases ((S (L d 4)[k] 0).toList==(S f 0).toList)<;>rfl
  ·have:k=i:=by omega
   subst this;rw[List.drop_eq_nil_of_le (by rw[List.length_take];omega)];simp only[hlt,decide_false,cond_false,dN,bR (show k<9223372036854775807 by omega)];rfl
theorem afe(m:Nat)(hm:140<=m)(self:Dt->Bool->Option Bool)(g:Dt->Bool)(names:Bool)(d:Dt)(hl:(L d 4).length<m)(hl2:m<9223372036854775807)(hs:∀f∈L d 4,self (fld f 1) names=some (g (fld f 1))):∀(M i:Nat),i<=(L d 4).length->(L d 4).length-i<M->
  dB m self M names (i:Int) d=some (fl (nmP names) g (((L d 4).take i).map fun f=>S f 0) ((L d 4).drop i))
 |0,i,_,h=>by omega
 |M+    1,i,hi,h=>by
  obtain⟨m,rfl⟩:∃q,m=q+1:=⟨m-1,by omega⟩;simp only[dB,dlt];by_cases hlt:i<(L d 4).length
  ·have hr:=hs _ (aI hlt);have et:((L d 4).take (i+1)).map (fun f=>S f 0)=(((L d 4).take i).map fun f=>S f 0)++[S (L d 4)[i] 0]:=by rw[List.take_succ_eq_append_getElem hlt,List.map_append];rfl
   have ih:=afe (m+1) hm self g names d hl hl2 hs M (i+1) (by omega) (by omega);have hin:=ap3 (m+1) self names (dB (m+1) self M) d (L d 4)[i] i hlt (by omega) (m+2) 0 (by omega) (by omega);rw[aF,ih]at hin;have hin':kr (m+1) self (dB (m+1) self M) (Nat.succ (m+1)) names (i:Int) 0 d (L d 4)[i]=_:=hin;rw[aH hlt,fl,←et];simp only[hlt,decide_true,cond_true,dN,bE hlt,ah,Nf m (by omega),aoj m (by omega),hr,hin',nmP];cases names<;>cases nm (S (L d 4)[i] 0)<;>cases wd (S (L d 4)[i] 0)<;>cases (((L d 4).take i).map fun f=>S f 0).any (eqb (S (L d 4)[i] 0))<;>cases g (fld (L d 4)[i] 1)<;>rfl
  ·have:i=(L d 4).length:=by omega
   subst this;simp[dN,fl]
theorem ZL(m:Nat)(self self2:Dt->Bool->Option Bool)(g:Dt->Bool)(names:Bool)(d:Dt)(hl:(L d 3).length<9223372036854775807)(hs:∀e∈L d 3,self e names=some (g e))(r:Bool)(hr:self2 d names=some r):∀(M i:Nat),i<=(L d 3).length->(L d 3).length-i<M->
  nM m self self2 M names (i:Int) d=some (((L d 3).drop i).all g&&r)
 |0,i,_,h=>by omega
 |M+1,i,hi,h=>by
  simp only[nM,dlt];by_cases hlt:i<(L d 3).length
  ·have hr2:=hs _ (aI hlt);have ih:=ZL m self self2 g names d hl hs r hr M (i+1) (by omega) (by omega);rw[aH hlt,List.all_cons];simp only[hlt,decide_true,cond_true,bE hlt,ah,hr2,bR (show i<9223372036854775807 by omega),ih];cases g (L d 3)[i]<;>rfl
  ·have:i=(L d 3).length:=by omega
   subst this;simp[hr]
theorem asy(m:Nat)(d:Dt)(names:Bool):bC (m+1) d names=bif shp d&&(decide (1<=I d 0)&&decide (I d 0<=11))then qH m (bC m) (dz m) names d else some false:=by
 have e3:∀s1 s2 x1 x2,iW m s1 s2 names x1 x2 d=bif (x1||(S d 2).toList==[])&&(x2||I d 1==0)&&(!(decide (I d 0<1))&&!(decide (11<I d 0)))then qH m s1 s2 names d else some false:=fun s1 s2 x1 x2=>by simp only[iW,dG,bne];cases x1<;>cases x2<;>cases (I d 1==0)<;>cases ((S d 2).toList==[])<;>cases decide (I d 0<1)<;>cases decide (11<I d 0)<;>rfl
 have e2:∀s1 s2 x1,iX m s1 s2 names x1 d=iW m s1 s2 names x1 (I d 0==3||I d 0==9||I d 0==10) d:=fun s1 s2 x1=>by simp only[iX];cases (I d 0==3)<;>cases (I d 0==9)<;>rfl
 have e1:∀s1 s2,qI m s1 s2 names d=iX m s1 s2 names (I d 0==4||I d 0==7||I d 0==8) d:=fun s1 s2=>by simp only[qI];cases (I d 0==4)<;>cases (I d 0==7)<;>rfl
 have e:bC (m+1) d names=bif (I d 0==6||!(decide ((0:Int)<((L d 3).length:Int))))&&(I d 0==5||!(decide ((0:Int)<((L d 4).length:Int))))then qI m (bC m) (dz m) names d else some false:=by simp only[bC,iY,bne];cases (I d 0==6)<;>cases (I d 0==5)<;>cases decide ((0:Int)<((L d 3).length:Int))<;>cases decide ((0:Int)<((L d 4).length:Int))<;>rfl
 have d1:(!(decide (I d 0<1)))=decide (1<=I d 0):=by rw[Bool.eq_iff_iff];simp
 have d2:(!(decide (11<I d 0)))=decide (I d 0<=11):=by rw[Bool.eq_iff_iff];simp
 rw[e,e1,e2,e3,d1,d2];unfold shp;cases (I d 0==3||I d 0==9||I d 0==10||I d 1==0)<;>cases (I d 0==4||I d 0==7||I d 0==8||(S d 2).toList==[])<;>cases (I d 0==6||!(decide ((0:Int)<((L d 3).length:Int))))<;>cases (I d 0==5||!(decide ((0:Int)<((L d 4).length:Int))))<;>rfl
theorem avh{l:List Dt}(h:(!(decide ((0:Int)<(l.length:Int))))=true):l=[]:=by
 refine List.eq_nil_of_length_eq_zero ?_;have:decide ((0:Int)<(l.length:Int))=false:=by simpa using h
 have:=of_decide_eq_false this;omega
theorem Pp(names:Bool):∀(N:Nat)(d:Dt),d.bulk<=N->N<=100000000000->WV d->∀m,2*N+200<=m->m<9223372036854775807->bC (m+1) d names=some (sndF (nmP names) N d)
 |0,d,h,_,_,_,_,_=>by have:=gX d;omega
 |N+1,d,h,hN,hw,m,hm,hm2=>by
  obtain⟨m,rfl⟩:∃q,m=q+2:=⟨m-2,by omega⟩;obtain⟨p1,p2,p3,p4⟩:=Dp hw;have ih:∀e:Dt,WV e->e.bulk<=N->∀q,2*N+200<=q->q<9223372036854775807->bC (q+1) e names=some (sndF (nmP names) N e):=fun e hwe hbe q hq hq2=>Pp names N e hbe (by omega) hwe q hq hq2;have k2:=afe (m+1) (by omega) (bC (m+1)) (sndF (nmP names) N) names d (by omega) (by omega) (fun f hf=>ih _ (p4 f hf).1 (by have:=(p4 f hf).2;omega) m (by omega) (by omega)) (m+2) 0 (aC _) (by omega);rw[aF]at k2;have k2':dz (m+2) d names=some (fl (nmP names) (sndF (nmP names) N) [] (L d 4)):=by simp only[dz];exact k2
  have k1:=ZL (m+2) (bC (m+2)) (dz (m+2)) (sndF (nmP names) N) names d (by omega) (fun e he=>ih e (p3 e he).1 (by have:=(p3 e he).2;omega) (m+1) (by omega) (by omega)) _ k2' (m+3) 0 (aC _) (by omega);rw[aF]at k1;have k1':Bp (m+2) (bC (m+2)) (dz (m+2)) names d=some ((L d 3).all (sndF (nmP names) N)&&fl (nmP names) (sndF (nmP names) N) [] (L d 4)):=k1;rw[asy];have hsz:(S d 2).size<=d.bulk:=by
   cases hw with
   | @mk k i t l ds hl hd=>rw[nX];show t.size<=_;omega
  have hu:qO (m+2) (S d 2)=some (Lib.validD (S d 2).data.toList):=asv (m+1) _ (by omega) (by omega);simp only[qH,k1',hu,ah,sndF];cases hsh:shp d;·simp only[Bool.false_and,cond_false]
  have hsp:=hsh;unfold shp at hsp;have s6:(I d 0==6||!(decide ((0:Int)<((L d 3).length:Int))))=true:=by rw[Bool.and_eq_true_iff,Bool.and_eq_true_iff]at hsp;exact hsp.1.2
  have s5:(I d 0==5||!(decide ((0:Int)<((L d 4).length:Int))))=true:=by rw[Bool.and_eq_true_iff]at hsp;exact hsp.2
  have n3:I d 0≠6->L d 3=[]:=fun hne=>by
   rcases Bool.or_eq_true_iff.1 s6 with h|h;·exact absurd (by simpa using h) hne
   ·exact avh h
  have n4:I d 0≠5->L d 4=[]:=fun hne=>by
   rcases Bool.or_eq_true_iff.1 s5 with h|h;·exact absurd (by simpa using h) hne
   ·exact avh h
  simp only[Bool.true_and];generalize L d 3=l3 at*
  generalize L d 4=l4 at*
  generalize Lib.validD (S d 2).data.toList=a3;generalize I d 0=k at*
  generalize ((S d 2).size:Int)=sz;generalize I d 1=n;rcases ap2 k with rfl|rfl|rfl|rfl|rfl|rfl|rfl|rfl|rfl|rfl|rfl|hk
  case inr.inr.inr.inr.inr.inr.inr.inr.inr.inr.inr=>
   obtain⟨q1,q2,q3,q4,q5,q6,q7,q8,q9,q10,q11⟩:=kno hk;have:(decide (1<=k)&&decide (k<=11))=false:=by rw[Bool.and_eq_false_iff];simp;omega
   simp only[q1,q2,q3,q4,q5,q6,q7,q8,q9,q10,q11,this,cond_false]
  all_goals first
   |(have e3:=n3 (by decide);have e4:=n4 (by decide);subst e3 e4;rfl)
   |(have e4:=n4 (by decide);subst e4;show some (l3.all (sndF (nmP names) N)&&true)=some (l3.all (sndF (nmP names) N));rw[Bool.and_true])
   |(have e3:=n3 (by decide);subst e3;rfl)
   |(cases (n==0)<;>rfl)
   |(show (bif decide (sz<=4096)then some a3 else some false)=some (decide (sz<=4096)&&a3);cases decide (sz<=4096)<;>rfl)
def mx(f:Dt->Nat):List Dt->Nat
 | []=>0
 |e::r=>max (f e) (mx f r)
theorem Pq{f g:Dt->Nat}:∀{L:List Dt},(∀e∈L,f e=g e)->mx f L=mx g L
 | [],_=>rfl
 |e::r,h=>by simp only[mx,h e (aO ..),Pq fun x hx=>h x (aT _ hx)]
theorem alL(f:Dt->Nat)(k:Dt->Dt):∀L:List Dt,mx f (L.map k)=mx (fun x=>f (k x)) L
 | []=>rfl
 |e::r=>by simp only[List.map_cons,mx,alL f k r]
theorem WX(f:Dt->Nat){L:List Dt}{i:Nat}(h:i<L.length):mx f (L.drop i)=max (f L[i]) (mx f (L.drop (i+1))):=by rw[aH h];rfl
def ahh:Nat->Dt->Nat
 |0,_=>1
 |n+1,d=>1+mx (ahh n) (rO d)
theorem UF:∀(n n':Nat)(d:Dt),WV d->d.bulk<=n->d.bulk<=n'->ahh n d=ahh n' d
 |0,_,d,_,h,_=>by have:=gX d;omega
 |_+1,0,d,_,_,h=>by have:=gX d;omega
 |n+1,n'+1,d,hw,h,h'=>by simp only[ahh];congr 1;refine Pq fun e he=>?_;have:=DZ hw e he;exact UF n n' e this.1 (by omega) (by omega)
def dpt(d:Dt):Nat:=ahh d.bulk d
theorem adj{d:Dt}(hw:WV d):dpt d=1+mx dpt (rO d):=by obtain⟨k,hk⟩:∃k,d.bulk=k+1:=⟨d.bulk-1,by have:=gX d;omega⟩;unfold dpt;rw[hk];simp only[ahh];congr 1;refine Pq fun e he=>?_;have:=DZ hw e he;exact UF _ _ e this.1 (by omega) (ay _)
theorem aff(a b:Nat):(bif decide ((a:Int)<(b:Int))then(b:Int)else(a:Int))=((max a b:Nat):Int):=by
 rw[dlt];by_cases h:a<b;·simp only[h,decide_true,cond_true];omega
 ·simp only[h,decide_false,cond_false];omega
theorem ZM(m:Nat)(self:Dt->Int->Option Int)(L:List Dt)(hl:L.length<9223372036854775807)(most:Nat)(h2:2<=most)(h3:most<1000000)(hs:∀e∈L,self e ((most-1:Nat):Int)=some ((min (dpt e) (most-1):Nat):Int)):∀(M i best:Nat),i<=L.length->L.length-i<M->best<=most->
  ko m self M (most:Int) L (best:Int) (i:Int)=some ((max best (min (mx dpt (L.drop i)) (most-1))+1:Nat):Int)
 |0,i,_,_,h,_=>by omega
 |M+1,i,best,hi,h,hb=>by
  simp only[ko,dlt];by_cases hlt:i<L.length
  ·have hr:=hs _ (aI hlt);have hw:IntKind.wrap IntKind.i64 ((most:Int)-1)=((most-1:Nat):Int):=by rw[wrap64 (by omega) (by omega)];omega
   simp only[hlt,decide_true,cond_true,gT,bE hlt,ah,hw,hr,aff,bR (show i<9223372036854775807 by omega),ZM m self L hl most h2 h3 hs M (i+1) (max best (min (dpt L[i]) (most-1))) (by omega) (by omega) (by omega),WX dpt hlt];congr 2;omega
  ·rw[List.drop_eq_nil_of_le (by omega)];simp only[hlt,decide_false,cond_false,gT,mx];rw[wrap64 (by omega) (by omega)];congr 1;omega
theorem UG:∀(N:Nat)(d:Dt),d.bulk<=N->N<=137438953472->WV d->∀m,N<=m->∀most:Nat,1<=most->most<1000000->eD (m+2) d (most:Int)=some ((min (dpt d) most:Nat):Int)
 |0,d,h,_,_,_,_,_,_,_=>by have:=gX d;omega
 |N+    1,d,h,hN,hw,m,hm,most,h1,h3=>by
  obtain⟨m,rfl⟩:∃q,m=q+1:=⟨m-1,by omega⟩;rw[eD,parts_eq d hw (m+1) (by omega) (by omega),ah];have hd:=adj hw;by_cases h2:most<2
  ·have:decide ((most:Int)<2)=true:=by simp;omega
   simp only[this,cond_true,gT];congr 1;omega
  ·have e2:decide ((most:Int)<2)=false:=by rw[decide_eq_false_iff_not];omega
   by_cases h0:(rO d).length=0
   ·    have e0:((((rO d).length:Nat):Int)==0)=true:=by simp;exact List.length_eq_zero_iff.1 h0
        rw[List.length_eq_zero_iff.1 h0]at hd;simp only[mx]at hd;simp only[e2,cond_false,e0,cond_true,gT];congr 1;omega
   ·    have e0:((((rO d).length:Nat):Int)==0)=false:=by rw[beq_eq_false_iff_ne];omega
        have hlen:=ZC hw;have:=ZM (m+2) (eD (m+2)) (rO d) (by omega) most (by omega) h3 (fun e he=>by obtain⟨hwe,hbe⟩:=DZ hw e he;exact UG N e (by omega) (by omega) hwe m (by omega) (most-1) (by omega) (by omega)) (m+3) 0 0 (aC _) (by omega) (by omega)
        rw[aF]at this;have h':ko (m+2) (eD (m+2)) (Nat.succ (m+2)) (most:Int) (rO d) 0 0=_:=this;have e9:max 0 (min (mx dpt (rO d)) (most-1))+1=min (dpt d) most:=by omega
        simp only[e2,cond_false,e0,gT,h',e9]
theorem ahi{d:Dt}(hw:WV d)(hb:d.bulk<=137438953472)(m:Nat)(hm:d.bulk<=m):mW (m+3) d=some ((min (dpt d) 17:Nat):Int):=by simp only[mW];rw[show ((17:Int))=((17:Nat):Int)from rfl,UG d.bulk d (ay _) hb hw m hm 17 (by omega) (by omega)];rfl
theorem afg(m:Nat)(self:Dt->Int->Int->Option (Bool×Int×Int))(L:List Dt)(hl:L.length<9223372036854775807)(most:Nat)(hs:∀e∈L,∀k:Nat,k<most-1->self e (k:Int) (most:Int)=some (decide (((max k (min (dpt e) (most-1)):Nat):Int)<((most-1:Nat):Int)),((max k (min (dpt e) (most-1)):Nat):Int),(most:Int))):∀(M i acc:Nat),i<=L.length->L.length-i<M->acc<most-1->
  DV m self M L (L.length:Int) (i:Int) (acc:Int) (most:Int)=some (((max acc (min (mx dpt (L.drop i)) (most-1)):Nat):Int),(most:Int))
 |0,i,_,_,h,_=>by omega
 |M+    1,i,acc,hi,h,ha=>by
  simp only[DV,dlt];by_cases hlt:i<L.length
  ·have hr:=hs _ (aI hlt) acc ha;simp only[hlt,decide_true,cond_true,bE hlt,ah,hr,dlt,bR (show i<9223372036854775807 by omega),WX dpt hlt];by_cases hm:max acc (min (dpt L[i]) (most-1))<most-1
   ·    simp only[hm,decide_true,Bool.not_true,cond_false,afg m self L hl most hs M (i+1) (max acc (min (dpt L[i]) (most-1))) (by omega) (by omega) hm];congr 3;omega
   ·    simp only[hm,decide_false,Bool.not_false,cond_true];congr 3;omega
  ·rw[List.drop_eq_nil_of_le (by omega)];simp only[hlt,decide_false,cond_false,mx];congr 3;omega
theorem afh(m:Nat)(self:Dt->Int->Int->Option (Bool×Int×Int))(L:List Dt)(hl:L.length<9223372036854775807)(most:Nat)(hs:∀e∈L,∀k:Nat,k<most-1->self (fld e 1) (k:Int) (most:Int)=some (decide (((max k (min (dpt (fld e 1)) (most-1)):Nat):Int)<((most-1:Nat):Int)),((max k (min (dpt (fld e 1)) (most-1)):Nat):Int),(most:Int))):∀(M i acc:Nat),i<=L.length->L.length-i<M->acc<most-1->
  DW m self M L (L.length:Int) (i:Int) (acc:Int) (most:Int)=some (((max acc (min (mx (fun f=>dpt (fld f 1)) (L.drop i)) (most-1)):Nat):Int),(most:Int))
 |0,i,_,_,h,_=>by omega
 |M+    1,i,acc,hi,h,ha=>by
  simp only[DW,dlt];by_cases hlt:i<L.length
  ·have hr:=hs _ (aI hlt) acc ha;simp only[hlt,decide_true,cond_true,bE hlt,ah,hr,dlt,bR (show i<9223372036854775807 by omega),WX (fun f=>dpt (fld f 1)) hlt];by_cases hm:max acc (min (dpt (fld L[i] 1)) (most-1))<most-1
   ·    simp only[hm,decide_true,Bool.not_true,cond_false,afh m self L hl most hs M (i+1) (max acc (min (dpt (fld L[i] 1)) (most-1))) (by omega) (by omega) hm];congr 3;omega
   ·    simp only[hm,decide_false,Bool.not_false,cond_true];congr 3;omega
  ·rw[List.drop_eq_nil_of_le (by omega)];simp only[hlt,decide_false,cond_false,mx];congr 3;omega
theorem UH:∀(N:Nat)(d:Dt),d.bulk<=N->N<=137438953472->WV d->∀m,3*N<=m->∀most:Nat,1<=most->most<1000000->kN (m+1) d (most:Int)=some ((min (dpt d) most:Nat):Int)
 |0,d,h,_,_,_,_,_,_,_=>by have:=gX d;omega
 |N+    1,d,h,hN,hw,m,hm,most,h1,h2=>by
  obtain⟨m,rfl⟩:∃q,m=q+3:=⟨m-3,by omega⟩;simp only[kN];have hd:=adj hw;by_cases e1:most=1
  ·subst e1;have:((((1:Nat):Int))==(1:Int))=true:=rfl;simp only[this,cond_true];congr 1;omega
  ·have e2:(((most:Int))==(1:Int))=false:=by rw[beq_eq_false_iff_ne];omega
   have hc:∀e:Dt,WV e->e.bulk<=N->∀k:Nat,k<most-1->i130 (m+2) e (k:Int) (most:Int)=some (decide (((max k (min (dpt e) (most-1)):Nat):Int)<((most-1:Nat):Int)),((max k (min (dpt e) (most-1)):Nat):Int),(most:Int)):=fun e hwe hbe k hk=>by
        have hw1:IntKind.wrap IntKind.i64 ((most:Int)-1)=((most-1:Nat):Int):=by rw[wrap64 (by omega) (by omega)];omega
        have hr:=UH N e hbe (by omega) hwe m (by omega) (most-1) (by omega) (by omega);simp only[i130,hw1,hr,ah,aff]
   obtain⟨p1,p2,p3,p4⟩:=Dp hw;have k1:=afg (m+2) (i130 (m+2)) (L d 3) (by omega) most (fun e he=>hc e (p3 e he).1 (by have:=(p3 e he).2;omega)) (m+3) 0 0 (aC _) (by omega) (by omega);have k2:=afh (m+2) (i130 (m+2)) (L d 4) (by omega) most (fun e he=>hc _ (p4 e he).1 (by have:=(p4 e he).2;omega)) (m+3) 0 0 (aC _) (by omega) (by omega);rw[aF]at k1 k2;unfold rO at hd;have fin:∀x:Nat,x<most->IntKind.wrap IntKind.i64 ((1:Int)+(x:Int))=((1+x:Nat):Int):=fun x hx=>by rw[wrap64 (by omega) (by omega)];omega
   simp only[e2,cond_false,agI];cases h6:(I d 0==6)
   ·    rw[h6]at hd;cases h5:(I d 0==5)
        ·rw[h5]at hd;simp only[cond_false,mx]at hd;simp only[cond_false,ah];rw[show ((0:Int))=((0:Nat):Int)from rfl,fin 0 (by omega),hd];congr 2;omega
        ·rw[h5]at hd;simp only[cond_false,cond_true,alL]at hd;have k2':DW (m+2) (i130 (m+2)) (Nat.succ (m+2)) (L d 4) ((L d 4).length:Int) 0 0 (most:Int)=_:=k2;simp only[cond_false,cond_true,k2',ah];rw[fin _ (by omega),hd];congr 2;omega
   ·    rw[h6]at hd;simp only[cond_true]at hd;have k1':DV (m+2) (i130 (m+2)) (Nat.succ (m+2)) (L d 3) ((L d 3).length:Int) 0 0 (most:Int)=_:=k1;simp only[cond_true,k1',ah];rw[fin _ (by omega),hd];congr 2;omega
theorem ahj{d:Dt}(hw:WV d)(hb:d.bulk<=137438953472)(m:Nat)(hm:3*d.bulk<=m):ni (m+2) d=some ((min (dpt d) 17:Nat):Int):=by simp only[ni];rw[show ((17:Int))=((17:Nat):Int)from rfl,UH d.bulk d (ay _) hb hw m hm 17 (by omega) (by omega)];rfl
def okV(d:Dt):Bool:=decide (nds d<=1024)&&decide (dpt d<=16)&&sndF nm d.bulk d
theorem lim(n k:Nat)(h:k<1000000):decide (((min n (k+1):Nat):Int)<=((k:Nat):Int))=decide (n<=k):=by rw[dle,Bool.eq_iff_iff];simp only[decide_eq_true_eq];omega
theorem UJ{d:Dt}(hw:WV d)(m:Nat)(hm:3*d.bulk+300<=m)(hb:d.bulk<=100000000000):kU (m+3) d=some (okV d):=by have h1:ng (m+2) d=some ((min (nds d) (1024+1):Nat):Int):=ahg hw (by omega) m (by omega);have h2:ni (m+2) d=some ((min (dpt d) (16+1):Nat):Int):=ahj hw (by omega) m (by omega);have h3:bJ (m+2) d=some (sndF nm d.bulk d):=UE d.bulk d (ay _) (by omega) hw (m+1) (by omega);have l1:decide (((min (nds d) (1024+1):Nat):Int)<=1024)=decide (nds d<=1024):=lim _ 1024 (by omega);have l2:decide (((min (dpt d) (16+1):Nat):Int)<=16)=decide (dpt d<=16):=lim _ 16 (by omega);simp only[kU,h1,h2,h3,ah,l1,l2,okV];cases decide (nds d<=1024)<;>cases decide (dpt d<=16)<;>rfl
theorem KO{d:Dt}(hw:WV d)(m:Nat)(hm:2*d.bulk+300<=m)(hm2:m<9223372036854775000)(hb:d.bulk<=100000000000):iO (m+4) d=some (okV d):=by have h1:mX (m+3) d=some ((min (nds d) (1024+1):Nat):Int):=ahf hw (by omega) m (by omega);have h2:mW (m+3) d=some ((min (dpt d) (16+1):Nat):Int):=ahi hw (by omega) m (by omega);have h3:bC (m+3) d true=some (sndF nm d.bulk d):=Pp true d.bulk d (ay _) (by omega) hw (m+2) (by omega) (by omega);have l1:decide (((min (nds d) (1024+1):Nat):Int)<=1024)=decide (nds d<=1024):=lim _ 1024 (by omega);have l2:decide (((min (dpt d) (16+1):Nat):Int)<=16)=decide (dpt d<=16):=lim _ 16 (by omega);simp only[iO,h1,h2,h3,ah,l1,l2,okV];cases decide (nds d<=1024)<;>cases decide (dpt d<=16)<;>rfl
end Go.Proofs.YtjibjkdalajaiaaGreatDoor
namespace Go.Am
open Dt
structure TPO {A:Type} (c:A->A->Int):Prop where
 rng:∀a b,c a b= -1∨c a b=0∨c a b=1
 anti:∀a b,c b a= -c a b
 tr:∀a b d,c a b<=0->c b d<=0->c a d<=0
theorem xu{X:Type}{x y:Int}{u v:X}(h:x≠y):(bif x !=y then u else v)=u:=by
 have:(x !=y)=true:=by simpa using h
 rw[this];rfl
theorem BD{X:Type}{x y:Int}{u v:X}(h:x=y):(bif x !=y then u else v)=v:=by subst h;simp
namespace TPO
variable{A B:Type}{c c':A->A->Int}
theorem refl(h:TPO c)(a:A):c a a=0:=by have:=h.anti a a;omega
theorem eql(h:TPO c){a b d:A}(e:c a b=0):c a d=c b d:=by have h1:=h.anti a b;have h2:=h.anti a d;have h3:=h.anti b d;have t1:=h.tr a b d;have t2:=h.tr b a d;have t3:=h.tr d a b;have t4:=h.tr d b a;have r1:=h.rng a d;have r2:=h.rng b d;omega
theorem eqr(h:TPO c){a b d:A}(e:c b d=0):c a b=c a d:=by have h1:=h.anti b a;have h2:=h.anti d a;have:=h.eql (d:=a) e;omega
theorem ltl(h:TPO c){a b d:A}(h1:c a b<0)(h2:c b d<=0):c a d<0:=by
 have t:=h.tr a b d (by omega) h2;have r:=h.rng a d;have e:c a d≠0:=fun e=>by have:=h.eql (d:=b) e;have:=h.anti b d;omega
 omega
theorem ltr(h:TPO c){a b d:A}(h1:c a b<=0)(h2:c b d<0):c a d<0:=by
 have t:=h.tr a b d h1 (by omega);have r:=h.rng a d;have e:c a d≠0:=fun e=>by have:=h.eqr (a:=b) e;have:=h.anti a b;omega
 omega
theorem zero:TPO (fun _ _:A=>0):=⟨fun _ _=> .inr (.inl rfl),fun _ _=>rfl,fun _ _ _ _ _=>Int.le_refl 0⟩
theorem key(h:TPO c)(k:B->A):TPO (fun a b=>c (k a) (k b)):=⟨fun _ _=>h.rng _ _,fun _ _=>h.anti _ _,fun _ _ _=>h.tr _ _ _⟩
theorem lex(h:TPO c)(h':TPO c'):TPO (fun a b=>bif c a b !=0 then c a b else c' a b):=by
 have ev:∀a b,(c a b=0∧(bif c a b !=0 then c a b else c' a b)=c' a b)∨(c a b≠0∧(bif c a b !=0 then c a b else c' a b)=c a b):=fun a b=>by
  by_cases e:c a b=0;·exact .inl ⟨e,BD e⟩
  ·exact .inr ⟨e,xu e⟩
 refine⟨fun a b=>?_,fun a b=>?_,fun a b d h1 h2=>?_⟩
 ·rcases ev a b with⟨_,e⟩| ⟨_,e⟩;·rw[e];exact h'.rng a b
  ·rw[e];exact h.rng a b
 ·have h1:=h.anti a b;have h2:=h'.anti a b;rcases ev a b with⟨e0,e⟩| ⟨e0,e⟩<;>rcases ev b a with⟨f0,f⟩| ⟨f0,f⟩<;>rw[e,f]<;>omega
 ·rcases ev a b with⟨e0,e⟩| ⟨e0,e⟩<;>rcases ev b d with⟨f0,f⟩| ⟨f0,f⟩<;>rw[e]at h1<;>rw[f]at h2
  ·have g:=h.eql (d:=d) e0;rcases ev a d with⟨g0,g'⟩| ⟨g0,g'⟩;·rw[g'];exact h'.tr a b d h1 h2
   ·omega
  ·have g:=h.eql (d:=d) e0;rcases ev a d with⟨g0,g'⟩| ⟨g0,g'⟩;·omega
   ·rw[g'];omega
  ·have g:=h.eqr (a:=a) f0;rcases ev a d with⟨g0,g'⟩| ⟨g0,g'⟩;·omega
   ·rw[g'];omega
  ·have g:=h.ltl (d:=d) (show c a b<0 by omega) h2;rcases ev a d with⟨g0,g'⟩| ⟨g0,g'⟩;·omega
   ·rw[g'];omega
theorem neg(h:TPO c):TPO (fun a b=> -c a b):=⟨fun a b=>by have:=h.rng a b;omega,fun a b=>by have:=h.anti a b;omega,fun a b d h1 h2=>by have a1:=h.anti a b;have a2:=h.anti b d;have a3:=h.anti a d;have:=h.tr d b a (by omega) (by omega);omega⟩
end TPO
def Ak(a b:Int):Int:=bif decide (a<b)then -1 else bif decide (b<a)then 1 else 0
theorem fU(a b:Int):(a<b∧Ak a b= -1)∨(a=b∧Ak a b=0)∨(b<a∧Ak a b=1):=by
 unfold Ak;by_cases h:a<b;·exact .inl ⟨h,by simp[h]⟩
 ·by_cases h2:b<a;·exact .inr (.inr ⟨h2,by simp[h,h2]⟩)
  ·exact .inr (.inl ⟨by omega,by simp[h,h2]⟩)
theorem alM:TPO Ak:=⟨fun a b=>by rcases fU a b with⟨_,h⟩| ⟨_,h⟩| ⟨_,h⟩<;>omega,fun a b=>by
 rcases fU a b with⟨h1,h⟩| ⟨h1,h⟩| ⟨h1,h⟩<;>rcases fU b a with⟨g1,g⟩| ⟨g1,g⟩| ⟨g1,g⟩<;>omega,fun a b d h1 h2=>by
 rcases fU a b with⟨p1,p⟩| ⟨p1,p⟩| ⟨p1,p⟩<;>rcases fU b d with⟨g1,g⟩| ⟨g1,g⟩| ⟨g1,g⟩<;>rcases fU a d with⟨q1,q⟩| ⟨q1,q⟩| ⟨q1,q⟩<;>omega⟩
def cmpL{A:Type}(c:A->A->Int):List A->List A->Int
 |a::r,b::s=>bif c a b !=0 then c a b else cmpL c r s
 | [],[]=>0
 | [],_::_=> -1
 |_::_,[]=>1
theorem asz{A:Type}{c:A->A->Int}(h:TPO c):TPO (cmpL c):=by
 have hd:∀(a b:A)(r s:List A),(c a b=0∧cmpL c (a::r) (b::s)=cmpL c r s)∨(c a b≠0∧cmpL c (a::r) (b::s)=c a b):=fun a b r s=>by
  by_cases e:c a b=0;·exact .inl ⟨e,BD e⟩
  ·exact .inr ⟨e,xu e⟩
 have hanti:∀a b,cmpL c b a= -cmpL c a b:=by
  intro a;induction a with
  |nil=>intro b;cases b<;>rfl
  |cons x a ih=>
   intro b;cases b with
   |nil=>rfl
   |    cons y b=>
        have:=ih b;have:=h.anti x y;rcases hd x y a b with⟨e0,e⟩| ⟨e0,e⟩<;>rcases hd y x b a with⟨f0,f⟩| ⟨f0,f⟩<;>rw[e,f]<;>omega
 refine⟨?_,hanti,?_⟩
 ·intro a;induction a with
  |nil=>intro b;cases b<;>simp[cmpL]
  |cons x a ih=>
   intro b;cases b with
   |nil=>simp[cmpL]
   |    cons y b=>
        rcases hd x y a b with⟨_,e⟩| ⟨_,e⟩;·rw[e];exact ih b
        ·rw[e];exact h.rng x y
 ·intro  a;induction a with
  |nil=>
   intro b d h1 h2;cases d with
   |nil=>exact Int.le_refl 0
   |cons z d=>simp[cmpL]
  |cons x a ih=>
   intro b d h1 h2;cases b with
   |nil=>simp[cmpL]at h1
   |    cons y b=>
        cases d with
        |nil=>simp[cmpL]at h2
        |cons z d=>
         rcases hd x y a b with⟨e0,e⟩| ⟨e0,e⟩<;>rcases hd y z b d with⟨f0,f⟩| ⟨f0,f⟩<;>rw[e]at h1<;>rw[f]at h2
         ·have g:=h.eql (d:=z) e0;rcases hd x z a d with⟨g0,g'⟩| ⟨g0,g'⟩;·rw[g'];exact ih b d h1 h2
          ·omega
         ·have g:=h.eql (d:=z) e0;rcases hd x z a d with⟨g0,g'⟩| ⟨g0,g'⟩;·omega
          ·rw[g'];omega
         ·have g:=h.eqr (a:=x) f0;rcases hd x z a d with⟨g0,g'⟩| ⟨g0,g'⟩;·omega
          ·rw[g'];omega
         ·have g:=h.ltl (d:=z) (show c x y<0 by omega) h2;rcases hd x z a d with⟨g0,g'⟩| ⟨g0,g'⟩;·omega
          ·rw[g'];omega
theorem F6{A:Type}{c c':A->A->Int}:∀{l r:List A},(∀a∈l,∀b∈r,c a b=c' a b)->cmpL c l r=cmpL c' l r
 | [],[],_=>rfl
 | [],_::_,_=>rfl
 |_::_,[],_=>rfl
 |a::l,b::r,h=>by simp only[cmpL,h a (by simp) b (by simp),F6 (l:=l) (r:=r) fun x hx y hy=>h x (by simp[hx]) y (by simp[hy])]
theorem asA{A:Type}(k:A->Int)(f:Int->A->A->Int)(h:∀i,TPO (f i)):TPO (fun a b=>bif k a !=k b then Ak (k a) (k b)else f (k a) a b):=by
 have ev:∀a b,(k a=k b∧(bif k a !=k b then Ak (k a) (k b)else f (k a) a b)=f (k a) a b)∨(k a≠k b∧(bif k a !=k b then Ak (k a) (k b)else f (k a) a b)=Ak (k a) (k b)):=fun a b=>by
  by_cases e:k a=k b;·exact .inl ⟨e,BD e⟩
  ·exact .inr ⟨e,xu e⟩
 refine⟨fun a b=>?_,fun a b=>?_,fun a b d h1 h2=>?_⟩
 ·rcases ev a b with⟨_,e⟩| ⟨_,e⟩;·rw[e];exact(h _).rng a b
  ·rw[e];exact alM.rng _ _
 ·rcases ev a b with⟨e0,e⟩| ⟨e0,e⟩<;>rcases ev b a with⟨f0,g⟩| ⟨f0,g⟩<;>rw[e,g];·rw[←e0];exact(h _).anti a b
  ·exact absurd e0.symm f0
  ·exact absurd f0.symm e0
  ·exact alM.anti _ _
 ·rcases ev a b with⟨e0,e⟩| ⟨e0,e⟩<;>rcases ev b d with⟨f0,g⟩| ⟨f0,g⟩<;>rcases ev a d with⟨g0,g'⟩| ⟨g0,g'⟩<;>rw[e]at h1<;>rw[g]at h2<;>rw[g'];·rw[←e0]at h2;exact(h _).tr a b d h1 h2
  ·exact absurd (e0.trans f0) g0
  ·exact absurd (e0.symm.trans g0) f0
  ·rw[e0];exact h2
  ·exact absurd (g0.trans f0.symm) e0
  ·rw[←f0];exact h1
  ·have c1:=fU (k a) (k b);have c2:=fU (k b) (k d);omega
  ·exact alM.tr _ _ _ h1 h2
def Pv(a b:UInt8):Int:=Ak (a.toNat:Int) (b.toNat:Int)
theorem WY:∀l r:List UInt8,Lib.compareBytes l r=cmpL Pv l r
 | [],[]=>rfl
 | [],_::_=>rfl
 |_::_,[]=>rfl
 |a::l,b::r=>by
  simp only[Lib.compareBytes,cmpL,WY l r];have hab:a<b↔a.toNat<b.toNat:=UInt8.lt_iff_toNat_lt;have hba:b<a↔b.toNat<a.toNat:=UInt8.lt_iff_toNat_lt;rcases fU (a.toNat:Int) (b.toNat:Int)with⟨h,e⟩| ⟨h,e⟩| ⟨h,e⟩
  ·have h1:a<b:=hab.2 (by omega);have e':Pv a b= -1:=e;simp[h1,e']
  ·have h1:¬a<b:=fun x=>by have:=hab.1 x;omega
   have h2:¬b<a:=fun x=>by have:=hba.1 x;omega
   have e':Pv a b=0:=e;simp[h1,h2,e']
  ·have h1:¬a<b:=fun x=>by have:=hab.1 x;omega
   have h2:b<a:=hba.2 (by omega);have e':Pv a b=1:=e;simp[h1,h2,e']
def Mw(a b:ByteArray):Int:=Lib.compareBytes a.data.toList b.data.toList
theorem avi:TPO Mw:=by
 have h:TPO (fun a b:ByteArray=>cmpL Pv a.data.toList b.data.toList):=(asz (alM.key fun u:UInt8=>(u.toNat:Int))).key (fun a:ByteArray=>a.data.toList);have e:Mw=fun a b:ByteArray=>cmpL Pv a.data.toList b.data.toList:=by funext a b;exact WY _ _
 rw[e];exact h
def Pw(c:Dt->Dt->Int)(f g:Dt):Int:=bif Mw (S f 0) (S g 0) !=0 then Mw (S f 0) (S g 0)else c (fld f 1) (fld g 1)
def ahk(c:Dt->Dt->Int)(k:Int)(a b:Dt):Int:=
 bif (k==3||k==9||k==10)then Ak (I a 1) (I b 1)
 else bif (k==4||k==7||k==8)then Mw (S a 2) (S b 2)
 else bif k==6 then cmpL c (L a 3) (L b 3)
 else bif k==5 then cmpL (Pw c) (L a 4) (L b 4)else 0
def xH:Nat->Dt->Dt->Int
 |0,_,_=>0
 |n+1,a,b=>bif (I a 0 !=I b 0)then Ak (I a 0) (I b 0)else ahk (xH n) (I a 0) a b
theorem aok:∀n,TPO (xH n)
 |0=>TPO.zero
 |n+    1=>by
  have ih:=aok n;have hF:TPO (Pw (xH n)):=(avi.key fun f=>S f 0).lex (ih.key fun f=>fld f 1);refine asA (fun a=>I a 0) (fun k=>ahk (xH n) k) fun k=>?_;unfold ahk;cases (k==3||k==9||k==10)
  ·cases (k==4||k==7||k==8)
   ·    cases k==6
        ·cases k==5;·exact TPO.zero
         ·exact(asz hF).key fun a=>L a 4
        ·exact(asz ih).key fun a=>L a 3
   ·exact avi.key fun a=>S a 2
  ·exact alM.key fun a=>I a 1
end Go.Am
namespace Go.Am.Srt
variable{A:Type}(lt:A->A->Bool)
structure SWO:Prop where
 irr:∀x,lt x x=false
 tr:∀x y z,lt x y=true->lt y z=true->lt x z=true
 ntr:∀x y z,lt x y=false->lt y z=false->lt x z=false
variable{lt}
end Go.Am.Srt
namespace Go.Proofs.YtjibjkdalajaiaaGreatDoor
open Go.Am Dt
theorem adk{c c':Dt->Dt->Int}{f g:Dt}(h:c (fld f 1) (fld g 1)=c' (fld f 1) (fld g 1)):Pw c f g=Pw c' f g:=by unfold Pw;rw[h]
theorem KP:∀(n n':Nat)(a b:Dt),a.bulk<=n->a.bulk<=n'->xH n a b=xH n' a b
 |0,_,a,_,h,_=>by have:=qd a;omega
 |_,0,a,_,_,h=>by have:=qd a;omega
 |n+1,n'+1,a,b,h,h'=>by
  simp only[xH];congr 1;unfold ahk;rw[F6 (l:=L a 3) (c:=xH n) (c':=xH n') fun x hx y _=>KP n n' x y (by have:=qj hx;omega) (by have:=qj hx;omega),
   F6 (l:=L a 4) (c:=Pw (xH n)) (c':=Pw (xH n')) fun x hx y _=>adk (KP n n' _ _ (by have:=qj hx;have:=pI x 1;omega) (by have:=qj hx;have:=pI x 1;omega))]
def cmpD(a b:Dt):Int:=xH (a.bulk+b.bulk) a b
theorem adl{n:Nat}{a b:Dt}(h:a.bulk<=n):xH n a b=cmpD a b:=KP _ _ _ _ h (by omega)
theorem Il:TPO cmpD:=by
 have e:∀(a b:Dt)(n:Nat),a.bulk<=n->cmpD a b=xH n a b:=fun a b n h=>(adl h).symm;refine⟨fun a b=>?_,fun a b=>?_,fun a b d h1 h2=>?_⟩;·exact(aok _).rng a b
 ·rw[e a b (a.bulk+b.bulk) (by omega),e b a (a.bulk+b.bulk) (by omega)];exact(aok _).anti a b
 ·rw[e a b (a.bulk+b.bulk+d.bulk) (by omega)]at h1;rw[e b d (a.bulk+b.bulk+d.bulk) (by omega)]at h2;rw[e a d (a.bulk+b.bulk+d.bulk) (by omega)];exact(aok _).tr a b d h1 h2
theorem WZ(m:Nat)(a b:Int):eG (m+2) a b=some (Ak a b):=by
 have e:∀x:Int,(x !=x)=false:=fun x=>by simp
 simp only[eG,qY,ah,e,cond_false,Ak];cases decide (a<b)<;>cases decide (b<a)<;>rfl
theorem asB{A:Type}{c:A->A->Int}:∀{l r:List A},(l=[]∨r=[])->cmpL c l r=Ak (l.length:Int) (r.length:Int)
 | [],[],_=>rfl
 | [],_::r,_=>by
   show (-1:Int)=_;rcases fU (([]:List A).length:Int) ((‹A› ::r).length:Int)with⟨_,e⟩| ⟨h,e⟩| ⟨h,e⟩;·rw[e]
   ·simp at h;omega
   ·simp at h;omega
 | _::l,[],_=>by
   show (1:Int)=_;rcases fU ((‹A› ::l).length:Int) (([]:List A).length:Int)with⟨h,e⟩| ⟨h,e⟩| ⟨_,e⟩;·simp at h;omega
   ·simp at h;omega
   ·rw[e]
 |_::_,_::_,h=>by simp at h
theorem adn(a b k:Int):Ak (a+k) (b+k)=Ak a b:=by rcases fU a b with⟨h,e⟩| ⟨h,e⟩| ⟨h,e⟩<;>rcases fU (a+k) (b+k)with⟨g,f⟩| ⟨g,f⟩| ⟨g,f⟩<;>omega
theorem yK{A:Type}{c:A->A->Int}{l r:List A}{i:Nat}(hl:i<=l.length)(hr:i<=r.length)(h:i=l.length∨i=r.length):cmpL c (l.drop i) (r.drop i)=Ak (l.length:Int) (r.length:Int):=by
 rw[asB];·rw[List.length_drop,List.length_drop,show ((l.length:Nat):Int)=((l.length-i:Nat):Int)+i by omega,show ((r.length:Nat):Int)=((r.length-i:Nat):Int)+i by omega,adn]
 ·rcases h with h|h;·exact .inl (List.drop_eq_nil_of_le (by omega))
  ·exact .inr (List.drop_eq_nil_of_le (by omega))
theorem afi(m:Nat)(self:Dt->Dt->Option Int)(c:Dt->Dt->Int)(a b:Dt)(hl:(L a 3).length<1000000000000)(hs:∀x∈L a 3,∀y,self x y=some (c x y)):∀(M i:Nat),i<=(L a 3).length->i<=(L b 3).length->min (L a 3).length (L b 3).length-i<M->
  lY (m+2) self M ((min (L a 3).length (L b 3).length:Nat):Int) (i:Int) a b=some (cmpL c ((L a 3).drop i) ((L b 3).drop i))
 |0,i,_,_,h=>by omega
 |M+1,i,hi,hi2,h=>by
  simp only[lY,dlt];by_cases h1:i<min (L a 3).length (L b 3).length
  ·have ha:i<(L a 3).length:=by omega
   have hb:i<(L b 3).length:=by omega
   simp only[h1,decide_true,cond_true,bE ha,bE hb,ah,hs _ (aI ha),bR (show i<9223372036854775807 by omega)];rw[afi m self c a b hl hs M (i+1) (by omega) (by omega) (by omega),aH ha,aH hb];simp only[cmpL];cases (c (L a 3)[i] (L b 3)[i] !=0)<;>rfl
  ·simp only[h1,decide_false,cond_false,WZ,ah];rw[yK hi hi2 (by omega)]
theorem afj(m:Nat)(self:Dt->Dt->Option Int)(c:Dt->Dt->Int)(a b:Dt)(hl:(L a 4).length<1000000000000)(hs:∀x∈L a 4,∀y,self (fld x 1) (fld y 1)=some (c (fld x 1) (fld y 1))):∀(M i:Nat),i<=(L a 4).length->i<=(L b 4).length->min (L a 4).length (L b 4).length-i<M->
  lZ (m+2) self M ((min (L a 4).length (L b 4).length:Nat):Int) (i:Int) a b=some (cmpL (Pw c) ((L a 4).drop i) ((L b 4).drop i))
 |0,i,_,_,h=>by omega
 |M+    1,i,hi,hi2,h=>by
  simp only[lZ,dlt];by_cases h1:i<min (L a 4).length (L b 4).length
  ·have ha:i<(L a 4).length:=by omega
   have hb:i<(L b 4).length:=by omega
   simp only[h1,decide_true,cond_true,bE ha,bE hb,ah,strings_Compare,hs _ (aI ha),bR (show i<9223372036854775807 by omega)];rw[afj m self c a b hl hs M (i+1) (by omega) (by omega) (by omega),aH ha,aH hb];simp only[cmpL,Pw,Mw];by_cases e1:Lib.compareBytes (S (L a 4)[i] 0).data.toList (S (L b 4)[i] 0).data.toList=0
   ·    rw[BD e1,BD e1];by_cases e2:c (fld (L a 4)[i] 1) (fld (L b 4)[i] 1)=0;·rw[BD e2,BD e2]
        ·rw[xu e2,xu e2]
   ·rw[xu e1,xu e1,xu e1]
  ·simp only[h1,decide_false,cond_false,WZ,ah];rw[yK hi hi2 (by omega)]
theorem aol(x y:Nat):(bif decide ((y:Int)<(x:Int))then(y:Int)else(x:Int))=((min x y:Nat):Int):=by
 rw[dlt];by_cases h:y<x;·simp only[h,decide_true,cond_true];omega
 ·simp only[h,decide_false,cond_false];omega
theorem aom(m:Nat)(self:Dt->Dt->Option Int)(a b:Dt):pU m self a b=
  bif (I a 0==3||I a 0==9||I a 0==10)then eG m (I a 1) (I b 1)
  else bif (I a 0==4||I a 0==7||I a 0==8)then strings_Compare (S a 2) (S b 2)
  else bif I a 0==6 then tF m self ((min (L a 3).length (L b 3).length:Nat):Int) 0 a b
  else bif I a 0==5 then tH m self ((min (L a 4).length (L b 4).length:Nat):Int) 0 a b else xW m self:=by
 have hb:∀x:Option Int,(x.bind fun r=>some r)=x:=fun x=>by cases x<;>rfl
 simp only[pU,l7,l5,aol,hb];cases (I a 0==3)<;>cases (I a 0==9)<;>cases (I a 0==10)<;>cases (I a 0==4)<;>cases (I a 0==7)<;>cases (I a 0==8)<;>rfl
theorem W9:∀(n:Nat)(a b:Dt),a.bulk<=n->n<1000000000000->∀m,n<=m->bg (m+3) a b=some (xH n a b)
 |0,a,_,h,_,_,_=>by have:=qd a;omega
 |n+    1,a,b,h,hn,m,hm=>by
  obtain⟨m,rfl⟩:∃k,m=k+1:=⟨m-1,by omega⟩;have h3:=iQ a 3;have h4:=iQ a 4;have e3:=afi (m+1) (bg (m+3)) (xH n) a b (by omega) (fun x hx y=>W9 n x y (by have:=qj hx;omega) (by omega) m (by omega)) (m+4) 0 (aC _) (aC _) (by omega);have e4:=afj (m+1) (bg (m+3)) (xH n) a b (by omega) (fun x hx y=>W9 n _ _ (by have:=qj hx;have:=pI x 1;omega) (by omega) m (by omega)) (m+4) 0 (aC _) (aC _) (by omega);rw[aF,aF]at e3 e4;have e3':tF (m+3) (bg (m+3)) ((min (L a 3).length (L b 3).length:Nat):Int) 0 a b=_:=e3;have e4':tH (m+3) (bg (m+3)) ((min (L a 4).length (L b 4).length:Nat):Int) 0 a b=_:=e4;show (bif (I a 0 !=I b 0)then(eG (m+3) (I a 0) (I b 0)).bind (fun r=>some r)else pU (m+3) (bg (m+3)) a b)=_;simp only[aom,show m+3=(m+1)+2 from rfl,WZ,xH,ah];cases (I a 0 !=I b 0)
  ·simp only[cond_false,ahk];cases (I a 0==3||I a 0==9||I a 0==10)
   ·    cases (I a 0==4||I a 0==7||I a 0==8)
        ·cases (I a 0==6)
         ·cases (I a 0==5);·rfl
          ·exact e4'
         ·exact e3'
        ·rfl
   ·rfl
  ·rfl
theorem A8(a b:Dt)(m:Nat)(hm:a.bulk<=m)(hm2:a.bulk<1000000000000):bg (m+3) a b=some (cmpD a b):=by rw[W9 a.bulk a b (ay _) hm2 m hm,adl (ay _)]
theorem yL(m:Nat)(a b:Int):dJ (m+1) a b=some (Ak a b):=by simp only[dJ,Ak];cases decide (a<b)<;>cases decide (b<a)<;>rfl
theorem Px(m:Nat)(a b:ByteArray)(ha:a.size<1000000000000):∀(M i:Nat),i<=a.size->i<=b.size->a.size-i<M->oM (m+1) M a b (i:Int)=some (cmpL Pv (a.data.toList.drop i) (b.data.toList.drop i))
 |0,i,_,_,h=>by omega
 |M+    1,i,hi,hi2,h=>by
  have la:a.data.toList.length=a.size:=by rw[Array.length_toList];rfl
  have lb:b.data.toList.length=b.size:=by rw[Array.length_toList];rfl
  simp only[oM,dlt];by_cases h1:i<a.size
  ·by_cases h2:i<b.size
   ·    have e1:a.data.toList.drop i=a[i]::a.data.toList.drop (i+1):=by rw[aH (by omega)];rfl
        have e2:b.data.toList.drop i=b[i]::b.data.toList.drop (i+1):=by rw[aH (by omega)];rfl
        have hwr:∀u:UInt8,IntKind.wrap IntKind.i64 (u.toNat:Int)=(u.toNat:Int):=fun u=>wrap64 (by omega) (by have:=u.toNat_lt;omega);simp only[h1,h2,decide_true,cond_true,qc h1,qc h2,ah,hwr,yL,bR (show i<9223372036854775807 by omega)];rw[Px m a b ha M (i+1) (by omega) (by omega) (by omega),e1,e2];simp only[cmpL];by_cases e:((a[i].toNat:Int))=(b[i].toNat:Int)
        ·have e3:Pv a[i] b[i]=0:=by
          rcases fU (a[i].toNat:Int) (b[i].toNat:Int)with⟨g,f⟩| ⟨g,f⟩| ⟨g,f⟩;·omega
          ·exact f
          ·omega
         rw[BD e,BD e3]
        ·have e3:Pv a[i] b[i]≠0:=by
          rcases fU (a[i].toNat:Int) (b[i].toNat:Int)with⟨g,f⟩| ⟨g,f⟩| ⟨g,f⟩;·intro x;rw[show Pv a[i] b[i]= -1 from f]at x;omega
          ·omega
          ·intro x;rw[show Pv a[i] b[i]=1 from f]at x;omega
         rw[xu e,xu e3];rfl
   ·    have:i=b.size:=by omega
        simp only[h1,h2,decide_true,decide_false,cond_true,cond_false,yL,ah];rw[yK (by omega) (by omega) (.inr (by omega)),la,lb]
  ·simp only[h1,decide_false,cond_false,yL,ah];rw[yK (by omega) (by omega) (.inl (by omega)),la,lb]
theorem ZN(m:Nat)(a b:ByteArray)(hm:a.size<=m)(hm2:m<1000000000000):jv (m+2) a b=some (Mw a b):=by have:=Px m a b (by omega) (m+2) 0 (by omega) (by omega) (by omega);rw[Mw,WY];exact this
theorem afk(m:Nat)(self:Dt->Dt->Option Int)(c:Dt->Dt->Int)(a b:Dt)(hl:(L a 3).length<1000000000000)(hs:∀x∈L a 3,∀y,self x y=some (c x y)):∀(M i:Nat),i<=(L a 3).length->i<=(L b 3).length->(L a 3).length-i<M->
  lS (m+1) self M (i:Int) a b=some (cmpL c ((L a 3).drop i) ((L b 3).drop i))
 |0,i,_,_,h=>by omega
 |M+    1,i,hi,hi2,h=>by
  simp only[lS,dlt];by_cases ha:i<(L a 3).length
  ·by_cases hb:i<(L b 3).length
   ·    simp only[ha,hb,decide_true,cond_true,bE ha,bE hb,ah,hs _ (aI ha),bR (show i<9223372036854775807 by omega)];rw[afk m self c a b hl hs M (i+1) (by omega) (by omega) (by omega),aH ha,aH hb];simp only[cmpL];cases (c (L a 3)[i] (L b 3)[i] !=0)<;>rfl
   ·    simp only[ha,hb,decide_true,decide_false,cond_true,cond_false,lQ,yL,ah];rw[yK hi hi2 (by omega)]
  ·simp only[ha,decide_false,cond_false,lQ,yL,ah];rw[yK hi hi2 (by omega)]
theorem afl(m:Nat)(hm:1<=m)(self:Dt->Dt->Option Int)(c:Dt->Dt->Int)(a b:Dt)(hl:(L a 4).length<1000000000000)(ht:∀x∈L a 4,∀y,jv (m+1) (S x 0) (S y 0)=some (Mw (S x 0) (S y 0)))(hs:∀x∈L a 4,∀y,self (fld x 1) (fld y 1)=some (c (fld x 1) (fld y 1))):∀(M i:Nat),i<=(L a 4).length->i<=(L b 4).length->(L a 4).length-i<M->
  gZ (m+1) self M (i:Int) a b=some (cmpL (Pw c) ((L a 4).drop i) ((L b 4).drop i))
 |0,i,_,_,h=>by omega
 |M+    1,i,hi,hi2,h=>by
  simp only[gZ,dlt];by_cases ha:i<(L a 4).length
  ·by_cases hb:i<(L b 4).length
   ·    simp only[ha,hb,decide_true,cond_true,oC,bE ha,bE hb,ah,ht _ (aI ha),hs _ (aI ha),bR (show i<9223372036854775807 by omega)];rw[afl m hm self c a b hl ht hs M (i+1) (by omega) (by omega) (by omega),aH ha,aH hb];simp only[cmpL,Pw];by_cases e:Mw (S (L a 4)[i] 0) (S (L b 4)[i] 0)=0
        ·have e1:(Mw (S (L a 4)[i] 0) (S (L b 4)[i] 0)==0)=true:=by simpa using e
         rw[e1];simp only[cond_true];rw[BD e];by_cases e2:c (fld (L a 4)[i] 1) (fld (L b 4)[i] 1)=0;·rw[BD e2,BD e2]
         ·rw[xu e2,xu e2]
        ·have e1:(Mw (S (L a 4)[i] 0) (S (L b 4)[i] 0)==0)=false:=by simpa using e
         rw[e1];simp only[cond_false];rw[xu e,xu e,xu e]
   ·    simp only[ha,hb,decide_true,decide_false,cond_true,cond_false,kI,yL,ah];rw[yK hi hi2 (by omega)]
  ·simp only[ha,decide_false,cond_false,kI,yL,ah];rw[yK hi hi2 (by omega)]
theorem aon(m:Nat)(self:Dt->Dt->Option Int)(a b:Dt):pR m self a b=
  bif (I a 0==3||I a 0==9||I a 0==10)then dJ m (I a 1) (I b 1)
  else bif (I a 0==4||I a 0==7||I a 0==8)then jv m (S a 2) (S b 2)
  else bif I a 0==6 then tu m self 0 a b
  else bif I a 0==5 then tC m self 0 a b else xV m self:=by
 have hb:∀x:Option Int,(x.bind fun r=>some r)=x:=fun x=>by cases x<;>rfl
 simp only[pR,lU,lT,hb];cases (I a 0==3)<;>cases (I a 0==9)<;>cases (I a 0==10)<;>cases (I a 0==4)<;>cases (I a 0==7)<;>cases (I a 0==8)<;>rfl
theorem Xa:∀(n:Nat)(a b:Dt),a.bulk<=n->n<900000000000->∀m,n<=m->m<900000000000->bB (m+3) a b=some (xH n a b)
 |0,a,_,h,_,_,_,_=>by have:=qd a;omega
 |n+    1,a,b,h,hn,m,hm,hm2=>by
  obtain⟨m,rfl⟩:∃k,m=k+1:=⟨m-1,by omega⟩;have h3:=iQ a 3;have h4:=iQ a 4;have e3:=afk (m+2) (bB (m+3)) (xH n) a b (by omega) (fun x hx y=>Xa n x y (by have:=qj hx;omega) (by omega) m (by omega) (by omega)) (m+4) 0 (aC _) (aC _) (by omega);have e4:=afl (m+2) (by omega) (bB (m+3)) (xH n) a b (by omega) (fun x hx y=>ZN (m+1) _ _ (by have:=qj hx;have:=vo x 0;omega) (by omega)) (fun x hx y=>Xa n _ _ (by have:=qj hx;have:=pI x 1;omega) (by omega) m (by omega) (by omega)) (m+4) 0 (aC _) (aC _) (by omega);rw[aF,aF]at e3 e4;have e3':tu (m+3) (bB (m+3)) 0 a b=_:=e3;have e4':tC (m+3) (bB (m+3)) 0 a b=_:=e4;show (bif (I a 0 !=I b 0)then(dJ (m+3) (I a 0) (I b 0)).bind (fun r=>some r)else pR (m+3) (bB (m+3)) a b)=_;simp only[aon,show m+3=(m+2)+1 from rfl,yL,xH,ah];cases (I a 0 !=I b 0)
  ·simp only[cond_false,ahk];cases (I a 0==3||I a 0==9||I a 0==10)
   ·    cases (I a 0==4||I a 0==7||I a 0==8)
        ·cases (I a 0==6)
         ·cases (I a 0==5);·rfl
          ·exact e4'
         ·exact e3'
        ·exact ZN (m+1) _ _ (by have:=vo a 2;omega) (by omega)
   ·rfl
  ·rfl
theorem A9(a b:Dt)(m:Nat)(hm:a.bulk<=m)(hm2:m<900000000000):bB (m+3) a b=some (cmpD a b):=by rw[Xa a.bulk a b (ay _) (by omega) m hm hm2,adl (ay _)]
def F7(d:Dt):Int×Int×ByteArray×List Dt×List Dt:=(I d 0,I d 1,S d 2,L d 3,L d 4)
def Py(d:Dt):Prop:=∃k i t l ds,d= .agg [.int k,.int i,.str t,.lst l,.lst ds]
theorem D5{d:Dt}(h:Py d):agg [.int (F7 d).1,.int (F7 d).2.1,.str (F7 d).2.2.1,.lst (F7 d).2.2.2.1,.lst (F7 d).2.2.2.2]=d:=by obtain⟨k,i,t,l,ds,rfl⟩:=h;rfl
theorem WV.isVal{d:Dt}(h:WV d):Py d:=by
 cases h with
 |mk hl hd=>exact⟨_,_,_,_,_,rfl⟩
theorem BF(m:Nat)(self:Dt->Option (Int×Int×ByteArray×List Dt×List Dt))(l:List Dt)(hl:l.length<9223372036854775807)(hs:∀e∈l,Py e∧self e=some (F7 e))(z x3 x4:Dt)(x5 x6:Int)(x7:ByteArray)(x9:List Dt):∀(M i:Nat),i<=l.length->l.length-i<M->
  mO m self M l (l.length:Int) (i:Int) x3 x4 x5 x6 x7 (l.take i++List.replicate (l.length-i) z) x9=jY m self x3 x4 x5 x6 x7 l x9
 |0,i,_,h=>by omega
 |M+1,i,hi,h=>by
  simp only[mO,dlt];by_cases hlt:i<l.length
  ·have hx:i<(l.take i++List.replicate (l.length-i) z).length:=by rw[Ij l z i hi];exact hlt
   obtain⟨e1,e2⟩:=hs _ (aI hlt);simp only[hlt,decide_true,cond_true,bE hlt,ah,e2,D5 e1,xq hx,Int.toNat_natCast,au hx,Dn l z i hlt,bR (show i<9223372036854775807 by omega)];exact BF m self l hl hs z x3 x4 x5 x6 x7 x9 M (i+1) (by omega) (by omega)
  ·have e:i=l.length:=by omega
   subst e;simp
theorem BG(m:Nat)(self:Dt->Option (Int×Int×ByteArray×List Dt×List Dt))(l:List Dt)(hl:l.length<9223372036854775807)(hf:∀f∈l,∃s v,f= .agg [.str s,v]∧Py v∧self v=some (F7 v))(z x3:Dt)(x4 x5:Int)(x6:ByteArray)(x7:List Dt):∀(M i:Nat),i<=l.length->l.length-i<M->
  pF m self M l (l.length:Int) (i:Int) x3 x4 x5 x6 x7 (l.take i++List.replicate (l.length-i) z)=some (x4,x5,x6,x7,l)
 |0,i,_,h=>by omega
 |M+1,i,hi,h=>by
  simp only[pF,dlt];by_cases hlt:i<l.length
  ·have hx:i<(l.take i++List.replicate (l.length-i) z).length:=by rw[Ij l z i hi];exact hlt
   obtain⟨s,v,e1,e2,e3⟩:=hf _ (aI hlt);have e5:agg [.str (S l[i] 0),v]=l[i]:=by rw[e1];rfl
   have e4:fld l[i] 1=v:=by rw[e1];rfl
   simp only[hlt,decide_true,cond_true,bE hlt,ah,e4,e3,D5 e2,e5,xq hx,Int.toNat_natCast,au hx,Dn l z i hlt,bR (show i<9223372036854775807 by omega)];exact BG m self l hl hf z x3 x4 x5 x6 x7 M (i+1) (by omega) (by omega)
  ·have e:i=l.length:=by omega
   subst e;simp[]
theorem Mx(m:Nat)(self:Dt->Option (Int×Int×ByteArray×List Dt×List Dt))(d x4:Dt)(x5 x6:Int)(x7:ByteArray)(x8:List Dt)(hm:(L d 4).length<=m)(hl:(L d 4).length<=137438953472)(hf:∀f∈L d 4,∃s v,f= .agg [.str s,v]∧Py v∧self v=some (F7 v)):
  jY m self d x4 x5 x6 x7 x8 []=some (x5,x6,x7,x8,L d 4):=by
 unfold jY;by_cases h0:0<(L d 4).length
 ·have e0:decide ((0:Int)<(((L d 4).length:Nat):Int))=true:=by simp;omega
  rw[e0];simp only[cond_true];rw[AZ hl,ah];have key:=fun z=>BG m self (L d 4) (by omega) hf z x4 x5 x6 x7 x8 (Nat.succ m) 0 (by omega) (by omega);simp only[List.take_zero,List.nil_append,Nat.sub_zero]at key;exact key _
 ·have e0:decide ((0:Int)<(((L d 4).length:Nat):Int))=false:=by rw[decide_eq_false_iff_not];omega
  have e1:L d 4=[]:=List.length_eq_zero_iff.1 (by omega);rw[e0,e1];rfl
theorem sJ:∀(N:Nat)(d:Dt),d.bulk<=N->N<=137438953472->WV d->∀m,N<=m->dw (m+1) d=some (F7 d)
 |0,d,h,_,_,_,_=>by have:=gX d;omega
 |N +   1,d,h,hN,hw,m,hm=>by
  cases hw with
  | @mk   k i t l ds hl hd=>
    rw[nX]at h;obtain⟨m,rfl⟩:∃q,m=q+1:=⟨m-1,by omega⟩;have hself:∀e∈l,Py e∧dw (m+1) e=some (F7 e):=fun e he=>⟨(hl e he).isVal,sJ N e (by have:=nW he;omega) (by omega) (hl e he) m (by omega)⟩;have hfld:∀f∈ds,∃s v,f= .agg [.str s,v]∧Py v∧dw (m+1) v=some (F7 v):=fun f hf=>by
        have hb:=nW hf;cases hd f hf with
        | @mk s v hv=>
          rw[xk]at hb;exact⟨s,v,rfl,hv.isVal,sJ N v (by omega) (by omega) hv m (by omega)⟩
    have hl1:=kZ l;have hd1:=kZ ds;have key4:=fun(x4:Dt)(x8:List Dt)=>Mx (m+1) (dw (m+1)) (.agg [.int k,.int i,.str t,.lst l,.lst ds]) x4 k i t x8 (show ds.length<=m+1 by omega) (show ds.length<=137438953472 by omega) hfld;show (bif (decide ((0:Int)<((l.length:Nat):Int)))then _ else _)=_;by_cases h0:0<l.length
    ·   have e0:decide ((0:Int)<((l.length:Nat):Int))=true:=by simp;omega
        have key:=fun(x3 x4:Dt)(z:Dt)=>BF (m+1) (dw (m+1)) l (by omega) hself z x3 x4 k i t [] (m+2) 0 (by omega) (by omega);simp only[List.take_zero,List.nil_append,Nat.sub_zero]at key;rw[e0];simp only[cond_true];show Option.bind (mkL ((l.length:Nat):Int) ((l.length:Nat):Int) _) _=_;rw[AZ (by omega),ah];show mO (m+1) (dw (m+1)) (m+2) l ((l.length:Nat):Int) ((0:Nat):Int) _ _ k i t _ _=_;rw[key,key4];rfl
    ·   have e0:decide ((0:Int)<((l.length:Nat):Int))=false:=by rw[decide_eq_false_iff_not];omega
        have e3:l=[]:=List.length_eq_zero_iff.1 (by omega);rw[e0];simp only[cond_false];show jY (m+1) (dw (m+1)) _ _ k i t [] []=_;rw[key4,e3];rfl
end Go.Proofs.YtjibjkdalajaiaaGreatDoor
namespace Go.Proofs.YtjibjkdalajaiaaGreatDoor
open Go.Am
theorem Ng{l:List Dt}{x:Dt}(h:l.length<137438953472):app l [x]=some (l++[x]):=by unfold app;rw[if_pos (by simp;omega)]
theorem UK{l:List Dt}{i:Nat}(h:i<l.length):l.take i++[l[i]]=l.take (i+1):=by rw[List.take_add_one,au h];rfl
theorem ZO(m:Nat)(self:Dt->Option Dt)(l:List Dt)(hl:l.length<=137438953472)(hs:∀e∈l,self e=some e)(x3 x4:Dt)(x5 x6:Int)(x7:ByteArray)(x9:List Dt):∀(M i:Nat),i<=l.length->l.length-i<M->
  gY m self M l (l.length:Int) (i:Int) x3 x4 x5 x6 x7 (l.take i) x9=wu m self x3 x4 x5 x6 x7 l x9
 |0,i,_,h=>by omega
 |M+1,i,hi,h=>by
  simp only[gY,dlt];by_cases hlt:i<l.length
  ·have hx:(l.take i).length<137438953472:=by rw[List.length_take];omega
   simp only[hlt,decide_true,cond_true,bE hlt,ah,hs _ (aI hlt),Ng hx,UK hlt,bR (show i<9223372036854775807 by omega)];exact ZO m self l hl hs x3 x4 x5 x6 x7 x9 M (i+1) (by omega) (by omega)
  ·have e:i=l.length:=by omega
   subst e;simp
theorem ZP(m:Nat)(self:Dt->Option Dt)(l:List Dt)(hl:l.length<=137438953472)(hf:∀f∈l,∃s v,f= .agg [.str s,v]∧self v=some v)(x3:Dt)(x4 x5:Int)(x6:ByteArray)(x7:List Dt):∀(M i:Nat),i<=l.length->l.length-i<M->
  jP m self M l (l.length:Int) (i:Int) x3 x4 x5 x6 x7 (l.take i)=some (.agg [.int x4,.int x5,.str x6,.lst x7,.lst l])
 |0,i,_,h=>by omega
 |M+1,i,hi,h=>by
  simp only[jP,dlt];by_cases hlt:i<l.length
  ·have hx:(l.take i).length<137438953472:=by rw[List.length_take];omega
   obtain⟨s,v,e1,e2⟩:=hf _ (aI hlt);have e5:Dt.agg [.str (Dt.S l[i] 0),v]=l[i]:=by rw[e1];rfl
   have e4:Dt.fld l[i] 1=v:=by rw[e1];rfl
   simp only[hlt,decide_true,cond_true,bE hlt,ah,e4,e2,e5,Ng hx,UK hlt,bR (show i<9223372036854775807 by omega)];exact ZP m self l hl hf x3 x4 x5 x6 x7 M (i+1) (by omega) (by omega)
  ·have e:i=l.length:=by omega
   subst e;simp[]
theorem Pz:∀(N:Nat)(d:Dt),d.bulk<=N->N<=137438953472->WV d->∀m,N<=m->bS (m+1) d=some d
 |0,d,h,_,_,_,_=>by have:=gX d;omega
 |N +   1,d,h,hN,hw,m,hm=>by
  cases hw with
  | @mk   k i t l ds hl hd=>
    rw[nX]at h;obtain⟨m,rfl⟩:∃q,m=q+1:=⟨m-1,by omega⟩;have hself:∀e∈l,bS (m+1) e=some e:=fun e he=>Pz N e (by have:=nW he;omega) (by omega) (hl e he) m (by omega);have hfld:∀f∈ds,∃s v,f= .agg [.str s,v]∧bS (m+1) v=some v:=fun f hf=>by
        have hb:=nW hf;cases hd f hf with
        | @mk s v hv=>
          rw[xk]at hb;exact⟨s,v,rfl,Pz N v (by omega) (by omega) hv m (by omega)⟩
    have hl1:=kZ l;have hd1:=kZ ds;have key:=fun(x3 x4:Dt)=>ZO (m+1) (bS (m+1)) l (by omega) hself x3 x4 k i t [] (m+2) 0 (by omega) (by omega);have key6:=fun(x3:Dt)(x7:List Dt)=>ZP (m+1) (bS (m+1)) ds (by omega) hfld x3 k i t x7 (m+2) 0 (by omega) (by omega);simp only[List.take_zero]at key key6;show gY (m+1) (bS (m+1)) (m+2) l ((l.length:Nat):Int) ((0:Nat):Int) _ _ k i t [] []=_;rw[key];exact key6 _ _
end Go.Proofs.YtjibjkdalajaiaaGreatDoor
namespace Go.Proofs.YtjibjkdalajaiaaGreatDoor
open Go.Am Dt
def fi(s:ByteArray):List Dt->Option Nat
 | []=>none
 |f::r=>bif ByteArray.toList (S f 0)==ByteArray.toList s then some 0 else(fi s r).map (· +1)
def oI(i:Nat):Option Nat->Int
 |some k=>((i+k:Nat):Int)
 |none=> -1
theorem alN(i:Nat)(o:Option Nat):oI i (o.map (· +1))=oI (i+1) o:=by cases o<;>simp[oI];omega
theorem afm{s:ByteArray}:∀{L:List Dt}{k:Nat},fi s L=some k->k<L.length
 | [],k,h=>by cases h
 |f::r,k,h=>by
  rw[fi]at h;cases hc:(ByteArray.toList (S f 0)==ByteArray.toList s)with
  |true=>rw[hc]at h;cases h;simp
  |false=>
   rw[hc,cond_false]at h;cases hr:fi s r with
   |none=>rw[hr]at h;cases h
   |some j=>rw[hr]at h;cases h;have:=afm hr;simp;omega
def mkV(v:Dt)(l fs:List Dt):Dt:= .agg [.int (I v 0),.int (I v 1),.str (S v 2),.lst l,.lst fs]
def chF(v:Dt)(k:Nat):Dt:=fld ((L v 4).getD k (.int 0)) 1
def ado(v:Dt)(k:Nat)(c:Dt):Dt:=mkV v (L v 3) ((L v 4).set k (.agg [.str (S ((L v 4).getD k (.int 0)) 0),c]))
def asC(v:Dt)(s:ByteArray)(c:Dt):Dt:=mkV v (L v 3) (L v 4++[.agg [.str s,c]])
theorem oI0(k:Nat):oI 0 (some k)=(k:Int):=by simp[oI]
theorem getD_lt{l:List Dt}{k:Nat}{z:Dt}(h:k<l.length):l.getD k z=l[k]:=by rw[List.getD,au h];rfl
theorem wv6{d:Dt}(hw:WV d):6<=d.bulk:=by cases hw with|mk hl hd=>rw[nX];omega
theorem aw8{v:Dt}(hw:WV v){k:Nat}(hk:k<(L v 4).length):chF v k=fld (L v 4)[k] 1∧WV (chF v k)∧(chF v k).bulk<v.bulk:=by
 have e:chF v k=fld (L v 4)[k] 1:=by unfold chF;rw[getD_lt hk]
 rw[e];exact⟨rfl,(Dp hw).2.2.2 _ (aI hk)⟩
theorem b5{k:Int}(h:k=5):(k==5)=true∧(k !=5)=false:=by subst h;exact⟨rfl,rfl⟩
theorem dn1:decide ((0:Int)<= -1)=false:=rfl
theorem dn2:decide ((-1:Int)<0)=true:=rfl
theorem dp1(k:Nat):decide ((0:Int)<=(k:Int))=true:=decide_eq_true (by omega)
theorem dp2(k:Nat):decide ((k:Int)<0)=false:=decide_eq_false (by omega)
theorem oIn:oI 0 none= -1:=rfl
theorem avj(m:Nat)(s:ByteArray)(v:Dt)(hl:(L v 4).length<9223372036854775807):∀(M i:Nat),i<=(L v 4).length->(L v 4).length-i<M->nk m M s (i:Int) v=some (oI i (fi s ((L v 4).drop i)))
 |0,i,_,h=>by omega
 |M+    1,i,hi,h=>by
  simp only[nk,dlt];by_cases hlt:i<(L v 4).length
  ·rw[aH hlt];simp only[hlt,decide_true,cond_true,bE hlt,ah,fi,bR (show i<9223372036854775807 by omega)];cases (ByteArray.toList (S (L v 4)[i] 0)==ByteArray.toList s)
   ·    simp only[cond_false];rw[avj m s v hl M (i+1) (by omega) (by omega),alN]
   ·simp[oI]
  ·have e:i=(L v 4).length:=by omega
   rw[e,List.drop_length];simp[fi,oI]
theorem at_eq(m:Nat)(s:ByteArray)(v:Dt)(h5:I v 0=5)(hm:(L v 4).length<=m)(hm2:m<9223372036854775807):mJ (m+1) v s=some (oI 0 (fi s (L v 4))):=by have h:=avj m s v (by omega) (m+1) 0 (aC _) (by omega);rw[aF]at h;rw[mJ,(b5 h5).2,cond_false];exact h
theorem adp{v:Dt}(hw:WV v):(∀e∈L v 3,WV e)∧(∀f∈L v 4,WF f)∧v.bulk=bulkL (L v 3)+bulkL (L v 4)+((S v 2).size+6):=by
 cases hw with
 |mk hl hd=>exact⟨hl,hd,nX⟩
theorem avk{v:Dt}(hw:WV v){k:Nat}(hk:k<(L v 4).length):(L v 4)[k]= .agg [.str (S (L v 4)[k] 0),chF v k]∧(L v 4)[k].bulk=(chF v k).bulk+(S (L v 4)[k] 0).size+2:=by
 have h:=(adp hw).2.1 _ (aI hk);have hc:=(aw8 hw hk).1;rw[hc];generalize (L v 4)[k]=f at h;cases h with
 |mk h=>exact⟨rfl,xk⟩
theorem alO(v:Dt){l fs:List Dt}(hl:∀e∈l,WV e)(hd:∀f∈fs,WF f):WV (mkV v l fs):= .mk hl hd
theorem ZQ(v:Dt)(l fs:List Dt):(mkV v l fs).bulk=bulkL l+bulkL fs+((S v 2).size+6):=nX
theorem UL:∀{l:List Dt}{k:Nat}(x:Dt)(h:k<l.length),bulkL (l.set k x)+l[k].bulk=bulkL l+x.bulk
 |a::r,0,x,h=>by simp only[List.set_cons_zero,bulkL,List.getElem_cons_zero];omega
 |a::r,k+1,x,h=>by have:=UL x (show k<r.length by simpa using h);simp only[List.set_cons_succ,bulkL,List.getElem_cons_succ];omega
theorem alP{l:List Dt}{k:Nat}{x e:Dt}{Q:Dt->Prop}(h:∀e∈l,Q e)(hx:Q x)(he:e∈l.set k x):Q e:=by
 rcases List.mem_or_eq_of_mem_set he with h'|rfl;·exact h _ h'
 ·exact hx
theorem aoo{v c:Dt}(hw:WV v)(hc:WV c)(k:Nat):WV (ado v k c):=alO v (adp hw).1 fun _ he=>alP (adp hw).2.1 (.mk hc) he
theorem ahl{v c:Dt}(hw:WV v){k:Nat}(hk:k<(L v 4).length):(ado v k c).bulk+(chF v k).bulk=v.bulk+c.bulk:=by have h1:=UL (agg [.str (S (L v 4)[k] 0),c]) hk;have h2:=(avk hw hk).2;rw[xk]at h1;rw[ado,ZQ,getD_lt hk,(adp hw).2.2];omega
theorem alQ(m:Nat)(s:ByteArray)(k:Nat)(v r z:Dt)(hl:(L v 4).length<=137438953472)(hk:k<(L v 4).length):∀(M i:Nat)(out:List Dt),i<=(L v 4).length->(L v 4).length-i<M->out.length<=i->
  kS m M s (k:Int) (i:Int) v r z out=some (mkV v (L v 3) (out++(if i<=k then((L v 4).drop i).set (k-i) (.agg [.str (S (L v 4)[k] 0),r])else(L v 4).drop i)))
 |0,i,_,_,h,_=>by omega
 |M+    1,i,out,hi,h,ho=>by
  simp only[kS,dlt];by_cases hlt:i<(L v 4).length
  ·rw[   aH hlt];have ha:∀e:Dt,app out [e]=some (out++[e]):=fun e=>mU (by simp;omega);simp only[hlt,decide_true,cond_true,bE hlt,ah,bR (show i<9223372036854775807 by omega),ha];by_cases hik:i=k
   ·    subst hik;rw[show ((i:Int)==(i:Int))=true by simp,cond_true,alQ m s i v r z hl hk M (i+1) _ (by omega) (by omega) (by simp;omega),if_neg (by omega),if_pos (ay _),Nat.sub_self,List.set_cons_zero];simp
   ·    rw[show ((i:Int)==(k:Int))=false by simp;omega,cond_false,alQ m s k v r z hl hk M (i+1) _ (by omega) (by omega) (by simp;omega)];by_cases hik':i<=k
        ·rw[if_pos hik',if_pos (by omega),show k-i=(k-(i+1))+1 by omega,List.set_cons_succ];simp
        ·rw[if_neg hik',if_neg (by omega)];simp
  ·have e:i=(L v 4).length:=by omega
   rw[e,List.drop_length];simp only[Nat.lt_irrefl,decide_false,cond_false,dp2,rY];split<;>simp[mkV]
theorem alR(m:Nat)(s:ByteArray)(v r z:Dt)(hl:(L v 4).length<137438953472):∀(M i:Nat)(out:List Dt),i<=(L v 4).length->(L v 4).length-i<M->out.length<=i->
  kS m M s (-1) (i:Int) v r z out=some (mkV v (L v 3) (out++(L v 4).drop i++[.agg [.str s,r]]))
 |0,i,_,_,h,_=>by omega
 |M+1,i,out,hi,h,ho=>by
  simp only[kS,dlt];by_cases hlt:i<(L v 4).length
  ·rw[aH hlt];have ha:∀e:Dt,app out [e]=some (out++[e]):=fun e=>mU (by simp;omega);simp only[hlt,decide_true,cond_true,bE hlt,ah,bR (show i<9223372036854775807 by omega),ha];rw[show ((i:Int)==(-1:Int))=false by rw[beq_eq_false_iff_ne];omega,cond_false,alR m s v r z hl M (i+1) _ (by omega) (by omega) (by simp;omega)];simp
  ·have e:i=(L v 4).length:=by omega
   rw[e,List.drop_length];simp only[Nat.lt_irrefl,decide_false,cond_false,dn2,cond_true,mU (show out.length+[agg [.str s,r]].length<=137438953472 by simp;omega),ah,rY];simp[mkV]
theorem alS(m:Nat)(s:ByteArray)(v r:Dt)(k:Nat)(h5:I v 0=5)(hm:v.bulk<=m)(hb:v.bulk<=137438953472)(hm2:m<9223372036854775807)(h:fi s (L v 4)=some k):oq (m+2) v s r=some (ado v k r):=by have hn:=iQ v 4;have hk:=afm h;rw[oq,(b5 h5).2,cond_false,at_eq m s v h5 (by omega) hm2,h,oI0,ah];have:=alQ (m+1) s k v r aj (by omega) hk (m+2) 0 [] (aC _) (by omega) (aC _);rw[aF,if_pos (aC _),Nat.sub_zero,List.nil_append]at this;rw[ado,getD_lt hk];exact this
theorem alT(m:Nat)(s:ByteArray)(v r:Dt)(h5:I v 0=5)(hm:v.bulk<=m)(hb:v.bulk<=137438953472)(hm2:m<9223372036854775807)(h:fi s (L v 4)=none):oq (m+2) v s r=some (asC v s r):=by have hn:=iQ v 4;rw[oq,(b5 h5).2,cond_false,at_eq m s v h5 (by omega) hm2,h,oIn,ah];have:=alR (m+1) s v r aj (by omega) (m+2) 0 [] (aC _) (by omega) (aC _);rw[aF,List.nil_append]at this;exact this
theorem afn(m:Nat)(s:ByteArray)(v:Dt)(hl:(L v 4).length<9223372036854775807):∀(M i:Nat),i<=(L v 4).length->(L v 4).length-i<M->qC m M s ((L v 4).length:Int) (i:Int) v=some (oI i (fi s ((L v 4).drop i)))
 |0,i,_,h=>by omega
 |M+    1,i,hi,h=>by
  simp only[qC,dlt];by_cases hlt:i<(L v 4).length
  ·rw[aH hlt];simp only[hlt,decide_true,cond_true,bE hlt,ah,fi,bR (show i<9223372036854775807 by omega)];cases (ByteArray.toList (S (L v 4)[i] 0)==ByteArray.toList s)
   ·    simp only[cond_false];rw[afn m s v hl M (i+1) (by omega) (by omega),alN]
   ·simp[oI]
  ·have e:i=(L v 4).length:=by omega
   rw[e,List.drop_length];simp[fi,oI]
theorem alU(m:Nat)(s:ByteArray)(v:Dt)(h5:I v 0=5)(hm:(L v 4).length<=m)(hm2:m<9223372036854775807):qQ (m+1) v s=some (oI 0 (fi s (L v 4))):=by have h:=afn m s v (by omega) (m+1) 0 (aC _) (by omega);rw[aF]at h;rw[qQ,(b5 h5).2,cond_false];exact h
def Dq(v:Dt)(s:ByteArray)(r:Dt):Dt:=match fi s (L v 4)with
 |some k=>ado v k r
 |none=>asC v s r
theorem aop{v r:Dt}{s:ByteArray}(hw:WV v)(hr:WV r):WV (Dq v s r):=by
 unfold Dq;split;·exact aoo hw hr _
 ·refine alO v (adp hw).1 fun f hf=>?_;rcases List.mem_append.1 hf with h|h;·exact(adp hw).2.1 f h
  ·rw[List.mem_singleton.1 h];exact .mk hr
theorem aoq(m:Nat)(s:ByteArray)(v r:Dt)(h5:I v 0=5)(hm:v.bulk<=m)(hb:v.bulk<=137438953472)(hm2:m<9223372036854775807):oq (m+2) v s r=some (Dq v s r):=by
 unfold Dq;cases h:fi s (L v 4)with
 |some k=>exact alS m s v r k h5 hm hb hm2 h
 |none=>exact alT m s v r h5 hm hb hm2 h
theorem aor(m:Nat)(s:ByteArray)(v r:Dt)(hw:WV v)(hr:WV r)(h5:I v 0=5)(hm:v.bulk<=m)(hb:v.bulk<=137438953472)(hm':r.bulk<=m)(hb':r.bulk<=137438953472)(hm2:m<9223372036854775807):tN (m+2) v s r=some (Dq v s r):=by
 have hn:=iQ v 4;have ev:=sJ _ v (ay _) hb hw m hm;have er:=sJ _ r (ay _) hb' hr m hm';have hv:=D5 hw.isVal;have hr5:=D5 hr.isVal;have hf:=alU m s v h5 (by omega) hm2;rw[tN,ev,ah,show (F7 v).1=I v 0 from rfl,(b5 h5).2,cond_false];rw[show I v 0=(F7 v).1 from rfl];unfold GI;rw[hv,hf,ah];unfold Dq;cases h:fi s (L v 4)with
 |some k=>
  have hk:=afm h;have hk':k<(F7 v).2.2.2.2.length:=hk;simp only[oI0,dp1,cond_true,er,ah,hr5,xq hk',Int.toNat_natCast,au hk'];rw[ado,getD_lt hk];rfl
 |none=>
  have ha:(F7 v).2.2.2.2.length<137438953472:=by show (L v 4).length<_;omega
  simp only[oIn,dn1,cond_false,er,ah,hr5,cond_true,Ng ha];rfl
end Go.Proofs.YtjibjkdalajaiaaGreatDoor
namespace Go.Proofs.YtjibjkdalajaiaaGreatDoor
open Go.Am
def vld(l:List Dt):Bool:=decide (1<=l.length)&&decide (l.length<=16)&&l.all fun e=>nm e.toStr
theorem UM(m:Nat)(s:ByteArray)(hs:s.size<9223372036854775807):∀(M i:Nat),i<=s.size->s.size-i<M->fI m M s (s.size:Int) (i:Int)=some (!((s.data.toList.drop i).all okB))
 |0,i,_,h=>by omega
 |M+1,i,hi,h=>by
  simp only[fI,dlt];by_cases hlt:i<s.size
  ·rw[WS s i hlt];simp only[hlt,decide_true,cond_true,nO,qc hlt,ah,bR (show i<9223372036854775807 by omega),UM m s hs M (i+1) (by omega) (by omega),List.all_cons,okB];cases decide (((s[i]).toNat:Int)<33)<;>cases decide ((126:Int)<((s[i]).toNat:Int))<;>cases (((s[i]).toNat:Int)==46)<;>rfl
  ·have:i=s.size:=by omega
   subst this;rw[List.drop_eq_nil_of_le (by rw[KN];omega)];simp[]
theorem adq(m:Nat)(hm:33<=m)(s:ByteArray):nG (m+1) s=some (!nm s):=by
 rw[nG];by_cases h1:s.size<1
 ·rw[decide_eq_true (show ((s.size:Nat):Int)<1 by omega),cond_true,Po s h1];rfl
 rw[decide_eq_false (show ¬((s.size:Nat):Int)<1 by omega),cond_false];by_cases h2:32<s.size
 ·rw[decide_eq_true (show (32:Int)<((s.size:Nat):Int) by omega),cond_true,Nc s h2];rfl
 rw[decide_eq_false (show ¬(32:Int)<((s.size:Nat):Int) by omega),cond_false];have hx:idxS s 0=some (s[0].toNat:Int):=qc (s:=s) (i:=0) (by omega);have hl:=UM m s (by omega) (m+1) 0 (by omega) (by omega);rw[aF]at hl;have hl':fI m (Nat.succ m) s (s.size:Int) 0=some (!s.data.toList.all okB):=hl;simp only[hx,ah,nP,hl',Pn s (by omega) (by omega)];cases (((s[0]).toNat:Int)==36)<;>rfl
theorem ZR(m:Nat)(hm:34<=m)(l:List Dt)(hl:l.length<9223372036854775807):∀(M i:Nat),i<=l.length->l.length-i<M->∃r,DR m M l (l.length:Int) (i:Int)=some r∧decide ((0:Int)<=r)=!((l.drop i).all fun e=>nm e.toStr)
 |0,i,_,h=>by omega
 |M+1,i,hi,h=>by
  obtain⟨m,rfl⟩:∃k,m=k+1:=⟨m-1,by omega⟩;simp only[DR,dlt];by_cases hlt:i<l.length
  ·rw[aH hlt];obtain⟨r,h1,h2⟩:=ZR (m+1) hm l hl M (i+1) (by omega) (by omega);simp only[hlt,decide_true,cond_true,bE hlt,ah,bR (show i<9223372036854775807 by omega),adq m (by omega),h1,List.all_cons];cases hn:nm (l[i]).toStr;·exact⟨(i:Int),by simp,by simp⟩
   ·exact⟨r,by simp,by simpa using h2⟩
  ·have:i=l.length:=by omega
   subst this;exact⟨-1,by simp[],by simp⟩
theorem valid_eq(m:Nat)(hm:40<=m)(l:List Dt):nH (m+3) l=some (vld l):=by
 rw[nH,vld];by_cases h1:1<=l.length
 ·rw[decide_eq_true (show (1:Int)<=((l.length:Nat):Int) by omega),cond_true,decide_eq_true h1,Bool.true_and];by_cases h2:l.length<=16
  ·rw[decide_eq_true (show ((l.length:Nat):Int)<=(16:Int) by omega),cond_true,decide_eq_true h2,Bool.true_and];obtain⟨r,h3,h4⟩:=ZR m (by omega) l (by omega) (m+1) 0 (by omega) (by omega);have h3':DR m (Nat.succ m) l (l.length:Int) 0=some r:=h3;simp only[agH,i107,h3',ah,h4,Bool.not_not,aF]
  ·rw[decide_eq_false (show ¬((l.length:Nat):Int)<=(16:Int) by omega),cond_false,decide_eq_false h2,Bool.false_and]
 ·rw[decide_eq_false (show ¬(1:Int)<=((l.length:Nat):Int) by omega),cond_false,decide_eq_false h1,Bool.false_and,Bool.false_and]
theorem PD(m:Nat)(hm:34<=m)(l:List Dt)(hl:l.length<9223372036854775807):∀(M i:Nat),i<=l.length->l.length-i<M->lW m M l (i:Int)=some ((l.drop i).all fun e=>nm e.toStr)
 |0,i,_,h=>by omega
 |M+1,i,hi,h=>by
  obtain⟨m,rfl⟩:∃k,m=k+1:=⟨m-1,by omega⟩;simp only[lW,dlt];by_cases hlt:i<l.length
  ·rw[aH hlt];simp only[hlt,decide_true,cond_true,lX,bE hlt,ah,bR (show i<9223372036854775807 by omega),Nf m (by omega),PD (m+1) hm l hl M (i+1) (by omega) (by omega),List.all_cons];cases nm (l[i]).toStr<;>rfl
  ·have:i=l.length:=by omega
   subst this;simp[lX]
theorem ZT(m:Nat)(hm:40<=m)(l:List Dt):fZ (m+1) l=some (vld l):=by
 rw[fZ,vld];by_cases h1:l.length<1
 ·rw[decide_eq_true (show ((l.length:Nat):Int)<(1:Int) by omega),cond_true,decide_eq_false (show ¬1<=l.length by omega),Bool.false_and,Bool.false_and];rfl
 rw[decide_eq_false (show ¬((l.length:Nat):Int)<(1:Int) by omega),cond_false,decide_eq_true (show 1<=l.length by omega),Bool.true_and];by_cases h2:16<l.length
 ·rw[decide_eq_true (show (16:Int)<((l.length:Nat):Int) by omega),decide_eq_false (show ¬l.length<=16 by omega),Bool.false_and];rfl
 rw[decide_eq_false (show ¬(16:Int)<((l.length:Nat):Int) by omega),decide_eq_true (show l.length<=16 by omega),Bool.true_and];have h3:=PD m (by omega) l (by omega) (m+1) 0 (by omega) (by omega);have h3':lW m (Nat.succ m) l 0=_:=h3;simp only[cond_false,lX,h3',aF]
end Go.Proofs.YtjibjkdalajaiaaGreatDoor
namespace Go.Proofs.YtjibjkdalajaiaaGreatDoor
open Go.Am Dt
def RX(op:Int):Int:=
 bif op==1||op==2||op==3 then 0 else bif (op==18||op==22||op==23||op==24||op==26||op==30||op==31||op==36)then 1 else bif op==32||op==33 then 3 else bif op==19||op==25 then 4 else
 bif (op==4||op==6||op==16||op==17||op==21||op==29||op==37)then 5 else bif op==35 then 6 else bif op==34 then 7 else 2
def ehk(s n:Int):Bool:=bif s==0 then n==0 else bif s==1 then n==1 else bif (s==2||s==3)then n==2 else bif s==4 then n==3 else bif s==7 then decide (1<=n)else true
theorem Al{op:Int}(h1:1<=op)(h2:op<=37):op=1∨op=2∨op=3∨op=4∨op=5∨op=6∨op=7∨op=8∨op=9∨op=10∨op=11∨op=12∨op=13∨op=14∨op=15∨op=16∨op=17∨op=18∨op=19∨op=20∨op=21∨op=22∨op=23∨op=24∨op=25∨op=26∨op=27∨op=28∨op=29∨op=30∨op=31∨op=32∨op=33∨op=34∨op=35∨op=36∨op=37:=by omega
theorem ZU(m:Nat){op:Int}(h1:1<=op)(h2:op<=37):oV (m+1) op=some (RX op):=by rcases Al h1 h2 with rfl|rfl|rfl|rfl|rfl|rfl|rfl|rfl|rfl|rfl|rfl|rfl|rfl|rfl|rfl|rfl|rfl|rfl|rfl|rfl|rfl|rfl|rfl|rfl|rfl|rfl|rfl|rfl|rfl|rfl|rfl|rfl|rfl|rfl|rfl|rfl|rfl<;>rfl
theorem avl(m:Nat){op:Int}(h1:1<=op)(h2:op<=37)(n:Int):pW (m+1) (RX op) n=some (ehk (RX op) n):=by rcases Al h1 h2 with rfl|rfl|rfl|rfl|rfl|rfl|rfl|rfl|rfl|rfl|rfl|rfl|rfl|rfl|rfl|rfl|rfl|rfl|rfl|rfl|rfl|rfl|rfl|rfl|rfl|rfl|rfl|rfl|rfl|rfl|rfl|rfl|rfl|rfl|rfl|rfl|rfl<;>rfl
theorem aos{op:Int}(h1:1<=op)(h2:op<=37):(RX op==3)=(op==32||op==33):=by rcases Al h1 h2 with rfl|rfl|rfl|rfl|rfl|rfl|rfl|rfl|rfl|rfl|rfl|rfl|rfl|rfl|rfl|rfl|rfl|rfl|rfl|rfl|rfl|rfl|rfl|rfl|rfl|rfl|rfl|rfl|rfl|rfl|rfl|rfl|rfl|rfl|rfl|rfl|rfl<;>rfl
theorem avm(m:Nat){op:Int}(h1:1<=op)(h2:op<=37)(n:Nat):∃k,oP (m+1) op=some k∧((op=34∧decide (0<=k)=false)∨(op≠34∧(decide (0<=k)&&((n:Int) !=k))=!(ehk (RX op) n))):=by
 rcases Al h1 h2 with rfl|rfl|rfl|rfl|rfl|rfl|rfl|rfl|rfl|rfl|rfl|rfl|rfl|rfl|rfl|rfl|rfl|rfl|rfl|rfl|rfl|rfl|rfl|rfl|rfl|rfl|rfl|rfl|rfl|rfl|rfl|rfl|rfl|rfl|rfl|rfl|rfl;all_goals first
  |exact⟨_,rfl,.inl ⟨rfl,rfl⟩⟩
  |exact⟨_,rfl,.inr ⟨by decide,rfl⟩⟩
theorem asD(n:Nat):ehk (RX 34) (n:Int)=!((n:Int)==0):=by
 show decide ((1:Int)<=n)=_;by_cases h:n=0;·subst h;rfl
 ·rw[decide_eq_true (by omega),show ((n:Int)==0)=false by rw[beq_eq_false_iff_ne];omega];rfl
theorem aot(s:ByteArray):vld [.str s]=nm s:=by show (true&&true&&(nm s&&true))=nm s;simp
theorem ZV(m:Nat)(hm:40<=m)(s:ByteArray):kK (m+4) s=some (nm s):=by rw[kK,valid_eq m hm,ah,aot]
def dnm(l:List Dt):Bool:=ZK nm [] (l.map toStr)
theorem UN(m:Nat)(hm:44<=m)(L:List Dt)(hl:L.length<9223372036854775807):∀(M i:Nat)(mp:List Dt),i<=L.length->L.length-i<M->alK mp ((L.take i).map toStr)->
  eB m M L (L.length:Int) (i:Int) mp=some (ZK nm ((L.take i).map toStr) ((L.drop i).map toStr))
 |0,i,_,_,h,_=>by omega
 |M+    1,i,mp,hi,h,hmp=>by
  obtain⟨m,rfl⟩:∃q,m=q+4:=⟨m-4,by omega⟩;rw[eB,dlt];by_cases hlt:i<L.length
  ·have hp:=hmp (toStr L[i]);have hmp':=ZJ hmp (toStr L[i]);have et:(L.take (i+1)).map toStr=((L.take i).map toStr)++[toStr L[i]]:=by rw[List.take_succ_eq_append_getElem hlt,List.map_append];rfl
   rw[←et]at hmp';have ih:=UN (m+4) hm L hl M (i+1) _ (by omega) (by omega) hmp';rw[aH hlt,List.map_cons,ZK,←et];simp only[hlt,decide_true,cond_true,j5,bE hlt,ah,hp,ZV m (by omega),bR (show i<9223372036854775807 by omega),ih];cases nm (toStr L[i])<;>cases ((L.take i).map toStr).any (eqb (toStr L[i]))<;>rfl
  ·have:i=L.length:=by omega
   subst this;simp[ZK]
theorem aou(m:Nat)(hm:44<=m)(L:List Dt)(hl:L.length<=m)(hm2:m<9223372036854775000):eH (m+1) L=some (dnm L):=by have h:=UN m hm L (by omega) (m+1) 0 [] (aC _) (by omega) ZI;exact h
theorem alV(m:Nat)(rec1:List Dt->Int->Option Bool)(L:List Dt)(i:Nat)(hi:i<L.length)(hl:L.length<9223372036854775807):∀(M k:Nat),k<=i->i-k<M->
  oO m rec1 M L (i:Int) (k:Int)=bif (((L.take i).drop k).map toStr).any (eqb (toStr L[i]))then some false else rec1 L ((i+1:Nat):Int)
 |0,k,_,h=>by omega
 |M+1,k,hk,h=>by
  rw[oO,dlt];by_cases hlt:k<i
  ·have hk2:k<(L.take i).length:=by simp;omega
   rw[aH hk2,List.getElem_take,List.map_cons,List.any_cons];simp only[hlt,decide_true,cond_true,bE hi,bE (show k<L.length by omega),ah,bR (show k<9223372036854775807 by omega),alV m rec1 L i hi hl M (k+1) (by omega) (by omega)];rw[Ik];show (bif eqb (toStr L[k]) (toStr L[i])then _ else _)=_;cases eqb (toStr L[k]) (toStr L[i])<;>rfl
  ·have:k=i:=by omega
   subst this;rw[List.drop_eq_nil_of_le (by simp;omega)];simp[bR (show k<9223372036854775807 by omega)]
theorem ZW(m:Nat)(hm:34<=m)(L:List Dt)(hl:L.length<=m)(hm2:m<9223372036854775000):∀(M i:Nat),i<=L.length->L.length-i<M->
  jQ m M L (i:Int)=some (ZK nm ((L.take i).map toStr) ((L.drop i).map toStr))
 |0,i,_,h=>by omega
 |M+    1,i,hi,h=>by
  obtain⟨m,rfl⟩:∃q,m=q+1:=⟨m-1,by omega⟩;rw[jQ,dlt];by_cases hlt:i<L.length
  ·have et:(L.take (i+1)).map toStr=((L.take i).map toStr)++[toStr L[i]]:=by rw[List.take_succ_eq_append_getElem hlt,List.map_append];rfl
   have hin:=alV (m+1) (jQ (m+1) M) L i hlt (by omega) (m+2) 0 (aC _) (by omega);rw[aF]at hin;rw[aH hlt,List.map_cons,ZK,←et];simp only[hlt,decide_true,cond_true,bE hlt,ah,Nf m (by omega)];cases nm (toStr L[i])with
   |false=>rfl
   |    true=>
        rw[show Nat.succ (m+1)=m+2 from rfl,show (0:Int)=((0:Nat):Int)from rfl,hin];rw[ZW (m+1) hm L hl hm2 M (i+1) (by omega) (by omega)];cases ((L.take i).map toStr).any (eqb (toStr L[i]))<;>rfl
  ·have:i=L.length:=by omega
   subst this;simp[ZK]
theorem asE(m:Nat)(hm:34<=m)(L:List Dt)(hl:L.length<=m)(hm2:m<9223372036854775000):mV (m+1) L=some (dnm L):=ZW m hm L hl hm2 (m+1) 0 (aC _) (by omega)
def zvl(d:Dt):Bool:=(I d 0==0)&&(I d 1==0)&&(ByteArray.toList (S d 2)==[])&&(((L d 3).length:Int)==0)&&(((L d 4).length:Int)==0)
theorem PE(m:Nat)(d:Dt):oU (m+1) d=some (zvl d):=by rw[oU,zvl];cases (I d 0==0)<;>cases (I d 1==0)<;>cases (ByteArray.toList (S d 2)==[])<;>cases (((L d 3).length:Int)==0)<;>rfl
def zVl:Dt:= .agg [.int 0,.int 0,.str (ByteArray.mk (List.toArray [])),.lst [],.lst []]
theorem ZX(m:Nat)(d:Dt):bD (m+2) d zVl=some (zvl d):=by
 have hI0:I zVl 0=0:=rfl;have hI1:I zVl 1=0:=rfl;have hS:ByteArray.toList (S zVl 2)=[]:=by show ByteArray.toList _=[];rw[ByteArray.toList_eq];rfl
 have hL3:L zVl 3=[]:=rfl;have hL4:L zVl 4=[]:=rfl;rw[bD,zvl,hI0,hI1,hS,hL3,hL4,List.length_nil];have b:∀x y:Int,(x !=y)=!(x==y):=fun _ _=>rfl;simp only[b,show ((0:Nat):Int)=0 from rfl];cases (I d 0==0)with
 |false=>simp only[Bool.not_false,cond_true,dR,Bool.false_and]
 |true=>
  cases (I d 1==0)with
  |false=>simp only[Bool.not_false,Bool.not_true,cond_true,cond_false,dR,Bool.false_and,Bool.true_and]
  |true=>
   cases (ByteArray.toList (S d 2)==[])with
   |false=>simp only[Bool.not_false,Bool.not_true,cond_true,cond_false,dR,Bool.false_and,Bool.true_and]
   |    true=>
        cases h3:(((L d 3).length:Int)==0)with
        |false=>simp only[Bool.not_false,Bool.not_true,cond_true,cond_false,dR,Bool.false_and,Bool.true_and]
        |true=>
         cases h4:(((L d 4).length:Int)==0)with
         |false=>simp only[Bool.not_false,Bool.not_true,cond_true,cond_false,dR,Bool.false_and,Bool.true_and]
         |true=>
          have e3:L d 3=[]:=List.length_eq_zero_iff.1 (by have:=(beq_iff_eq).1 h3;omega);have e4:L d 4=[]:=List.length_eq_zero_iff.1 (by have:=(beq_iff_eq).1 h4;omega);simp only[Bool.not_true,cond_false,Bool.true_and,l9,dR];rw[tZ];simp only[e3,List.length_nil,show ((0:Nat):Int)=0 from rfl,Int.lt_irrefl,decide_false,cond_false,l9,dR];rw[og];simp only[e4,List.length_nil,show ((0:Nat):Int)=0 from rfl,Int.lt_irrefl,decide_false,cond_false,l9,dR]
def sA(d:Dt):Int:=bif (!(I d 0==1)&&!(zvl (fld d 4)))||(I d 5 !=0)then 4 else 0
def sB(x0 x1:Bool)(d:Dt):Int:=bif (!x0&&decide ((0:Int)<((L d 1).length:Int)))||((!x1&&!(ByteArray.toList (S d 2)==[]))||(!(I d 0==34)&&decide ((0:Int)<((L d 3).length:Int))))then 4 else sA d
def sC(x0 x1:Bool)(d:Dt):Int:=bif (I d 0==1)&&!(okV (fld d 4))then 8 else sB x0 x1 d
def sD(x0 x1:Bool)(d:Dt):Int:=bif (x1&&!(nm (S d 2)))||((I d 0==34)&&!(dnm (L d 3)))then 9 else sC x0 x1 d
def sE(x0 x1:Bool)(d:Dt):Int:=bif x0&&(!(vld (L d 1))&&((I d 0==2)||decide ((0:Int)<((L d 1).length:Int))))then 10 else sD x0 x1 d
def nodeS(d:Dt):Int:=bif decide (I d 0<1)||decide (37<I d 0)then 11 else
 bif !(ehk (RX (I d 0)) ((L d 6).length:Int))||((I d 0==34)&&(((L d 6).length:Int) !=((L d 3).length:Int)))then 11 else sE (I d 0==2||I d 0==3) (I d 0==3||(I d 0==32||I d 0==33)) d
theorem alW(x y:Int):(x !=y)=!(x==y):=rfl
section
variable(k:Nat)(d:Dt)
theorem pA:qR (k+1) d=some (sA d):=by rw[qR,PE,ah,sA];simp only[jZ,alW];cases (I d 0==1)<;>cases zvl (fld d 4)<;>cases (I d 5==0)<;>rfl
theorem pB(x0 x1:Bool):qU (k+1) x0 x1 d=some (sB x0 x1 d):=by rw[qU,sB];simp only[dh,pA,alW];cases x0<;>cases x1<;>cases decide ((0:Int)<((L d 1).length:Int))<;>cases (ByteArray.toList (S d 2)==[])<;>cases (I d 0==34)<;>cases decide ((0:Int)<((L d 3).length:Int))<;>rfl
theorem pC(x0 x1:Bool)(hw:WV (fld d 4))(hk:3*(fld d 4).bulk+300<=k)(hb:(fld d 4).bulk<=100000000000):sF (k+3) x0 x1 d=some (sC x0 x1 d):=by rw[sF,UJ hw k hk hb,ah,sC];simp only[nK,pB];cases (I d 0==1)<;>cases okV (fld d 4)<;>rfl
theorem pD(x0 x1:Bool)(hw:WV (fld d 4))(hk:3*(fld d 4).bulk+300<=k)(hb:(fld d 4).bulk<=100000000000)(hn:(L d 3).length<=k)(hk2:k<9223372036854770000):sG (k+4) x0 x1 d=some (sD x0 x1 d):=by rw[sG,ZV k (by omega),aou (k+3) (by omega) (L d 3) (by omega) (by omega),ah,ah,sD];simp only[gP,pC (k+1) d x0 x1 hw (by omega) hb];cases x1<;>cases nm (S d 2)<;>cases (I d 0==34)<;>cases dnm (L d 3)<;>rfl
theorem pE(x0 x1:Bool)(hw:WV (fld d 4))(hk:3*(fld d 4).bulk+300<=k)(hb:(fld d 4).bulk<=100000000000)(hn:(L d 3).length<=k)(hk2:k<9223372036854770000):kX (k+4) x0 x1 d=some (sE x0 x1 d):=by rw[kX,valid_eq (k+1) (by omega),ah,sE];simp only[iU,pD k d x0 x1 hw hk hb hn hk2];cases x0<;>cases vld (L d 1)<;>cases (I d 0==2)<;>cases decide ((0:Int)<((L d 1).length:Int))<;>rfl
theorem ahm(hw:WV (fld d 4))(hk:3*(fld d 4).bulk+300<=k)(hb:(fld d 4).bulk<=100000000000)(hn:(L d 3).length<=k)(hk2:k<9223372036854770000):j3 (k+5) d=some (nodeS d):=by
 rw[j3,nodeS];by_cases h1:I d 0<1;·rw[decide_eq_true h1,cond_true,Bool.true_or,cond_true];rfl
 by_cases h2:37<I d 0;·rw[decide_eq_false h1,decide_eq_true h2,cond_false,cond_true,Bool.or_true,cond_true];rfl
 rw[decide_eq_false h1,decide_eq_false h2,cond_false,cond_false,Bool.or_false,cond_false,ZU (k+3) (by omega) (by omega),ah,avl (k+3) (by omega) (by omega),ah];have hE:=fun x0 x1=>pE k d x0 x1 hw hk hb hn hk2;have hl:(RX (I d 0)==3)=(I d 0==32||I d 0==33):=aos (by omega) (by omega);simp only[kY,oF,oD,ZU (k+3) (show 1<=I d 0 by omega) (by omega),ah,hE,hl,alW];cases ehk (RX (I d 0)) ((L d 6).length:Int)<;>cases (I d 0==34)<;>cases (((L d 6).length:Int)==((L d 3).length:Int))<;>cases (I d 0==2)<;>cases (I d 0==3)<;>rfl
theorem rB(x0:Bool)(x1:Bool)(h:x0=(I d 0==2||I d 0==3)):y7 (k+2) x1 d=some (sB x0 x1 d):=by subst h;have hs:bD (k+2) (fld d 4) (agg [(int 0),(int 0),(str (ByteArray.mk (List.toArray []))),(lst []),(lst [])])=some (zvl (fld d 4)):=ZX k (fld d 4);have hs2:bD (k+2) (fld d 4) aj=some (zvl (fld d 4)):=ZX k (fld d 4);rw[y7,sB,sA];simp only[aZ,hs,hs2,ah,alW];cases (I d 0==2)<;>cases (I d 0==3)<;>cases decide ((0:Int)<((L d 1).length:Int))<;>cases x1<;>cases (ByteArray.toList (S d 2)==[])<;>cases (I d 0==34)<;>cases decide ((0:Int)<((L d 3).length:Int))<;>cases (I d 0==1)<;>cases zvl (fld d 4)<;>cases (I d 5==0)<;>rfl
theorem rC(x0 x1:Bool)(h:x0=(I d 0==2||I d 0==3))(hw:WV (fld d 4))(hk:2*(fld d 4).bulk+300<=k)(hb:(fld d 4).bulk<=100000000000)(hk2:k<9223372036854770000):y8 (k+4) x1 d=some (sC x0 x1 d):=by rw[y8,KO hw k hk (by omega) hb,ah,sC];simp only[uz,rB (k+2) d x0 x1 h];cases (I d 0==1)<;>cases okV (fld d 4)<;>rfl
theorem rD(x0 x1:Bool)(h:x0=(I d 0==2||I d 0==3))(hw:WV (fld d 4))(hk:2*(fld d 4).bulk+300<=k)(hb:(fld d 4).bulk<=100000000000)(hn:(L d 3).length<=k)(hk2:k<9223372036854770000):oo (k+4) x1 d=some (sD x0 x1 d):=by rw[oo,Nf (k+3) (by omega),asE (k+3) (by omega) (L d 3) (by omega) (by omega),ah,ah,sD];simp only[lF,rC k d x0 x1 h hw hk hb hk2];cases x1<;>cases nm (S d 2)<;>cases (I d 0==34)<;>cases dnm (L d 3)<;>rfl
theorem rE(hw:WV (fld d 4))(hk:2*(fld d 4).bulk+300<=k)(hb:(fld d 4).bulk<=100000000000)(hn:(L d 3).length<=k)(hk2:k<9223372036854770000):y9 (k+4) d=some (sE (I d 0==2||I d 0==3) (I d 0==3||(I d 0==32||I d 0==33)) d):=by rw[y9,ZT (k+3) (by omega),ah,ah,sE];have hD:=fun x1=>rD k d _ x1 rfl hw hk hb hn hk2;simp only[iI,hD];cases h2:(I d 0==2)<;>cases h3:(I d 0==3)<;>cases vld (L d 1)<;>cases decide ((0:Int)<((L d 1).length:Int))<;>cases (I d 0==32)<;>first|rfl|(exfalso;have a2:=(beq_iff_eq).1 h2;have a3:=(beq_iff_eq).1 h3;omega)
theorem alX(hw:WV (fld d 4))(hk:2*(fld d 4).bulk+300<=k)(hb:(fld d 4).bulk<=100000000000)(hn:(L d 3).length<=k)(hk2:k<9223372036854770000):qP (k+5) d=some (nodeS d):=by
 rw[qP,nodeS];by_cases h1:I d 0<1;·rw[decide_eq_true h1,cond_true,Bool.true_or,cond_true];rfl
 by_cases h2:37<I d 0;·rw[decide_eq_false h1,decide_eq_true h2,cond_false,cond_true,Bool.or_true,cond_true];rfl
 obtain⟨c,c1,c2⟩:=avm (k+3) (show 1<=I d 0 by omega) (by omega) (L d 6).length;rw[decide_eq_false h1,decide_eq_false h2,cond_false,cond_false,Bool.or_false,cond_false,c1,ah,ah];have hE:=rE k d hw hk hb hn hk2;simp only[fF,hE];rcases c2 with⟨e,c2⟩| ⟨e,c2⟩
 ·rw[c2,e,asD];simp only[cond_false,alW,beq_self_eq_true,cond_true,Bool.true_and];cases (((L d 6).length:Int)==0)<;>cases (((L d 6).length:Int)==((L d 3).length:Int))<;>rfl
 ·have e':(I d 0==34)=false:=by rw[beq_eq_false_iff_ne];exact e
  rw[e'];simp only[cond_false,Bool.false_and,Bool.or_false];rw[←c2];cases decide (0<=c)<;>cases (((L d 6).length:Int) !=c)<;>rfl
end
inductive WE:Dt->Prop where
 |mk {d:Dt} (h4:WV (fld d 4)) (h6:∀e∈L d 6,WE e):WE d
theorem ap4:∀(N:Nat)(d:Dt),d.bulk<=N->HasTy Tryz.prog 29 d->WE d
 |0,d,h,_=>by have:=gX d;omega
 |N+1,d,h,ht=>by have hs:=(asn Tryz.underlying29 ht).2;have t4:HasTy Tryz.prog 26 (fld d 4):=hs 4 _ rfl;have t6:HasTy Tryz.prog 27 (fld d 6):=hs 6 _ rfl;refine .mk (ap1 t4) fun e he=>?_;have tp:=(alG Tryz.underlying27 t6).2.2 e he;have h1:=qj (d:=d) (i:=6) he;exact ap4 N _ (by omega) tp
def ckL(f:Dt->Nat->Nat×Int):List Dt->Nat->Nat×Int
 | [],n=>(n,0)
 |e::r,n=>bif (f e n).2 !=0 then f e n else ckL f r (f e n).1
def ckE:Nat->Dt->Nat->Nat×Int
 |0,_,n=>(n,2)
 |r+1,d,n=>bif Nat.beq n 256 then(n,2)else bif nodeS d !=0 then(n+1,nodeS d)else ckL (ckE r) (L d 6) (n+1)
theorem adr{f:Dt->Nat->Nat×Int}(h:∀e n,n<=256->(f e n).1<=256):∀(l:List Dt)(n:Nat),n<=256->(ckL f l n).1<=256
 | [],n,hn=>hn
 |e::r,n,hn=>by
  rw[ckL];cases ((f e n).2 !=0)with
  |true=>exact h e n hn
  |false=>exact adr h r _ (h e n hn)
theorem PG:∀(r:Nat)(d:Dt)(n:Nat),n<=256->(ckE r d n).1<=256
 |0,d,n,hn=>hn
 |r+1,d,n,hn=>by
  rw[ckE];cases hb:Nat.beq n 256 with
  |true=>exact hn
  |false=>
   have:n≠256:=fun h=>by subst h;cases hb
   cases (nodeS d !=0)with
   |true=>show n+1<=256;omega
   |false=>exact adr (fun e n h=>PG r e n h) _ _ (by omega)
theorem ZY(m:Nat)(self:Dt->Int->Int->Option (Int×Int))(f:Dt->Nat->Nat×Int)(lv:Int)(h0:0<=lv∧lv<=17)(L:List Dt)(hl:L.length<9223372036854775807)(hf:∀e n,n<=256->(f e n).1<=256)
  (hs:∀e∈L,∀n:Nat,n<=256->self e (lv+1) (n:Int)=some ((f e n).2,((f e n).1:Int))):∀(M i n:Nat),i<=L.length->L.length-i<M->n<=256->
  Jv m self M lv L (L.length:Int) (i:Int) (n:Int)=some ((ckL f (L.drop i) n).2,((ckL f (L.drop i) n).1:Int))
 |0,i,_,_,h,_=>by omega
 |M+    1,i,n,hi,h,hn=>by
  rw[Jv,dlt];by_cases hlt:i<L.length
  ·have hsi:=hs _ (aI hlt) n hn;have hfi:=hf L[i] n hn;rw[decide_eq_true hlt,cond_true,bE hlt,ah,wrap64 (n:=lv+1) (by omega) (by omega),hsi,ah,aH hlt,ckL];show (bif (f L[i] n).2 !=0 then some ((f L[i] n).2,((f L[i] n).1:Int))else abN m self (Jv m self M) lv L (L.length:Int) (i:Int) ((f L[i] n).1:Int))=_;cases ((f L[i] n).2 !=0)with
   |true=>rfl
   |    false=>
        rw[cond_false,cond_false,abN,bR (by omega)];exact ZY m self f lv h0 L hl hf hs M (i+1) _ (by omega) (by omega) hfi
  ·have e:i=L.length:=by omega
   subst e;rw[decide_eq_false hlt,List.drop_length,ckL];rfl
theorem Z0(B:Nat)(hB:B<=100000000)(k:Nat)(hk:3*B+400<=k)(hk2:k<9223372036854760000):∀(r:Nat),r<=16->∀(d:Dt)(n:Nat),WE d->d.bulk<=B->n<=256->
  i52 (k+r+6) d ((17:Int)-(r:Int)) (n:Int)=some ((ckE r d n).2,((ckE r d n).1:Int))
 |0,_,d,n,_,_,_=>rfl
 |r+    1,hr,d,n,hw,hb,hn=>by
  rw[show k+(r+1)+6=(k+r+6)+1 by omega,i52,decide_eq_false (by omega),cond_false,VX,ckE];by_cases h256:n=256;·subst h256;rfl
  ·have e1:(((n:Nat):Int)==256)=false:=by rw[beq_eq_false_iff_ne];omega
   have e2:Nat.beq n 256=false:=by
        cases hh:Nat.beq n 256 with
        |false=>rfl
        |true=>exact absurd (aS hh) h256
   have hw':=hw;cases hw' with
   |    mk h4 h6=>
        have hb4:=pI d 4;have hl3:=iQ d 3;have hl6:=iQ d 6;rw[e1,e2,cond_false,cond_false,show k+r+6=(k+r+1)+5 by omega,ahm (k+r+1) d h4 (by omega) (by omega) (by omega) (by omega),ah,bR (by omega)];cases (nodeS d !=0)with
        |true=>rfl
        |false=>
         rw[cond_false,cond_false];have key:=ZY ((k+r+1)+5) (i52 ((k+r+1)+5)) (ckE r) ((17:Int)-((r+1:Nat):Int)) (by omega) (L d 6) (by omega) (fun e n h=>PG r e n h) (fun e he n hn=>by have hm:=qj he;have:=Z0 B hB k hk hk2 r (by omega) e n (h6 e he) (by omega) hn;rw[show k+r+6=(k+r+1)+5 by omega]at this;rw[←this];congr 1;omega) ((k+r+1)+6) 0 (n+1) (aC _) (by omega) (by omega)
         rw[aF]at key;exact key
theorem ahn(B:Nat)(hB:B<=100000000)(k:Nat)(hk:3*B+400<=k)(hk2:k<9223372036854760000)(d:Dt)(hw:WE d)(hb:d.bulk<=B):qV (k+23) d=some (ckE 16 d 0).2:=by have h:=Z0 B hB k hk hk2 16 (ay _) d 0 hw hb (by omega);rw[qV];have h':i52 (k+22) d 1 0=some ((ckE 16 d 0).2,((ckE 16 d 0).1:Int)):=h;rw[h'];rfl
theorem afo(m:Nat)(self:Dt->Int->Int->Option (Int×Int))(f:Dt->Nat->Nat×Int)(lv:Int)(h0:0<=lv∧lv<=17)(d:Dt)(hl:(L d 6).length<9223372036854775807)(hf:∀e n,n<=256->(f e n).1<=256)
  (hs:∀e∈L d 6,∀n:Nat,n<=256->∃a,self e (((n+1:Nat)):Int) (lv+1)=some (a,(f e n).2)∧((f e n).2=0->a=((f e n).1:Int))):∀(M i n:Nat),i<=(L d 6).length->(L d 6).length-i<M->n<=256->
  ∃a,mD m self M (n:Int) lv (i:Int) d=some (a,(ckL f ((L d 6).drop i) n).2)∧((ckL f ((L d 6).drop i) n).2=0->a=((ckL f ((L d 6).drop i) n).1:Int))
 |0,i,_,_,h,_=>by omega
 |M+    1,i,n,hi,h,hn=>by
  rw[mD,dlt];by_cases hlt:i<(L d 6).length
  ·obtain⟨a,a1,a2⟩:=hs _ (aI hlt) n hn;have hfi:=hf (L d 6)[i] n hn;rw[decide_eq_true hlt,cond_true,bE hlt,ah,wrap64 (n:=lv+1) (by omega) (by omega),bR (by omega),a1,ah,aH hlt,ckL];show ∃a',(bif (f (L d 6)[i] n).2 !=0 then some (a,(f (L d 6)[i] n).2)else wF m self (mD m self M) lv (i:Int) a d)=_∧_;cases hz:((f (L d 6)[i] n).2 !=0)with
   |    true=>
        refine⟨a,rfl,fun h=>?_⟩;rw[cond_true]at h;rw[h]at hz;cases hz
   |    false=>
        have hz':(f (L d 6)[i] n).2=0:=by simpa [bne]using hz
        rw[cond_false,cond_false,wF,bR (by omega),a2 hz'];exact afo m self f lv h0 d hl hf hs M (i+1) _ (by omega) (by omega) hfi
  ·have e:i=(L d 6).length:=by omega
   subst e;rw[decide_eq_false hlt,List.drop_length,ckL];exact⟨_,rfl,fun _=>rfl⟩
theorem afp(B:Nat)(hB:B<=100000000)(k:Nat)(hk:3*B+400<=k)(hk2:k<9223372036854760000):∀(r:Nat),r<=16->∀(d:Dt)(n:Nat),WE d->d.bulk<=B->n<=256->
  ∃a,fE (k+r+6) d ((n+1:Nat):Int) ((17:Int)-(r:Int))=some (a,(ckE r d n).2)∧((ckE r d n).2=0->a=((ckE r d n).1:Int))
 |0,_,d,n,_,_,_=>⟨_,rfl,fun h=>by cases h⟩
 |r+    1,hr,d,n,hw,hb,hn=>by
  rw[show k+(r+1)+6=(k+r+6)+1 by omega,fE,decide_eq_false (by omega),cond_false,rU,ckE];by_cases h256:n=256;·subst h256;exact⟨_,rfl,fun h=>by cases h⟩
  ·have e1:decide ((256:Int)<((n+1:Nat):Int))=false:=decide_eq_false (by omega);have e2:Nat.beq n 256=false:=by
        cases hh:Nat.beq n 256 with
        |false=>rfl
        |true=>exact absurd (aS hh) h256
   have hw':=hw;cases hw' with
   |    mk h4 h6=>
        have hb4:=pI d 4;have hl3:=iQ d 3;have hl6:=iQ d 6;rw[e1,e2,cond_false,cond_false,show k+r+6=(k+r+1)+5 by omega,alX (k+r+1) d h4 (by omega) (by omega) (by omega) (by omega),ah];cases hz:(nodeS d !=0)with
        |true=>
         refine⟨_,rfl,fun h=>?_⟩;have h:nodeS d=0:=h;rw[h]at hz;cases hz
        |false=>
         rw[cond_false,cond_false];have key:=afo ((k+r+1)+5) (fE ((k+r+1)+5)) (ckE r) ((17:Int)-((r+1:Nat):Int)) (by omega) d (by omega) (fun e n h=>PG r e n h) (fun e he n hn=>by have hm:=qj he;obtain⟨a,a1,a2⟩:=afp B hB k hk hk2 r (by omega) e n (h6 e he) (by omega) hn;rw[show k+r+6=(k+r+1)+5 by omega]at a1;refine⟨a,?_,a2⟩;rw[←a1];congr 1;omega) ((k+r+1)+6) 0 (n+1) (aC _) (by omega) (by omega)
         rw[aF]at key;exact key
theorem Z4(B:Nat)(hB:B<=100000000)(k:Nat)(hk:3*B+400<=k)(hk2:k<9223372036854760000)(d:Dt)(hw:WE d)(hb:d.bulk<=B):gU (k+23) d=some (ckE 16 d 0).2:=by obtain⟨a,h,_⟩:=afp B hB k hk hk2 16 (ay _) d 0 hw hb (by omega);rw[gU];have h':fE (k+22) d 1 1=some (a,(ckE 16 d 0).2):=h;rw[h'];rfl
