/- The abstract machine, part 21: from the kit's reading of arguments to plain data; what a law's contract says of every argument.
Data of the seat's types,taken apart.
Small facts on the primitive functions of the shallow texts.
How much the parts of a datum hold.
Values:well-formed data,and their sizes.
Values:their parts.
Values:how many values are within a value,and how many levels it has:the program's functions and the reference's,in plain Lean.
Names,in plain Lean.
UTF-8:the library's decoder and the reference's test agree,in plain Lean.
UTF-8:the reference's test is the library's.
Sets of strings as maps:what a map of 'true' holds is what was put in.
Valid and well-formed values:the program's test and the reference's,in plain Lean.
Values:how many levels a value has;valid and well-formed values:the program and the reference agree.
Total preorders by comparing functions,in plain Lean:products,lists,values.
Comparing values:the program's function,in plain Lean (parts numbered as since session 5).
Comparing values:the reference's function (parts numbered as since session 5).
Copies of values:the functions hand the parts back.
Copies of documents by reshape's own function.
Fields by name,numbers,the reference's Set (out of layer 4's texts).
A field of a document is set:the program's function and the reference's.
Equal lists of strings,in plain Lean.
Valid paths:the program's test and the reference's.
Expressions:the first error of a node by itself;the program's and the reference's.
Expressions:a node's first error,in stages;program and reference.
Expressions:the first error of a tree;the zero expression;program and reference. -/
import Derived.Test.YtmecfjhdnbgfeaaGreatDoorA2
import Derived.OpenShut
import Derived.Carry
import Derived.Test.YtmecfjhdnbgfeaaGreatDoorProg
import Derived.Test.YtmecfjhdnbgfeaaGreatDoorA3
import Derived.Test.YtmecfjhdnbgfeaaGreatDoorSh
import Derived.Lib.MapLaws
import Derived.Lib.ValidU
import Derived.Lib.Bytealg
import Derived.Test.YtmecfjhdnbgfeaaGreatDoorEQ
set_option linter.all false
namespace Go.Am
open Go.RowKit Go.ChangeShapes Dt
def aqD(P:Program)(fs:List Field)(n:Nat):Bool:=(List.range n).all fun j=>fs.any fun f=>Nat.ble f.offset j&&Nat.blt j (f.offset+P.cellsOf f.type)
def aic(P:Program)(Ts:List TypeId):Bool:=Ts.all fun T=>match P.underlying T with
 |some (.int _)=>true
 |some .bool=>true
 |some .string=>true
 |some (.slice e)=>om e Ts&&!Nat.beq (P.cellsOf e) 0
 |some (.struct fs)=>(fs.toList.all fun f=>om f.type Ts)&&aqD P fs.toList (P.cellsOf T)
 |_=>false
mutual
def Dt.bulk:Dt->Nat
 | .int _=>1
 | .bool _=>1
 | .str s=>s.size+1
 | .agg ds=>Dt.bulkL ds+1
 | .lst es=>Dt.bulkL es+1
def Dt.bulkL:List Dt->Nat
 | []=>0
 |d::r=>Dt.bulk d+Dt.bulkL r
end
structure BulkOK {H:Type} (B:DataW H->Nat) (BA:List (DataW H)->Nat):Prop where
 str:∀l,B (.lit (.string l))=l.length+1
 lit:∀l,1<=B (.lit l)
 nil:1<=B .nil
 slice:∀es sp,B (.slice es sp)=BA es+BA sp+1
 agg:∀ps,B (.agg ps)=BA ps+1
 none:BA []=0
 cons:∀d r,BA (d::r)=B d+BA r
theorem BulkOK.le{H:Type}{B:DataW H->Nat}{BA:List (DataW H)->Nat}(h:BulkOK B BA):∀{ds:List Dt}{Ds:List (DataW H)},ds.length=Ds.length->(∀(i:Nat)(d:Dt)(D:DataW H),ds[i]? =some d->Ds[i]? =some D->d.bulk<=B D)->bulkL ds<=BA Ds
 | [],[],_,_=>by simp[bulkL,h.none]
 |d::ds,D::Ds,hl,hp=>by have h1:=hp 0 d D rfl rfl;have h2:=BulkOK.le h (ds:=ds) (Ds:=Ds) (by simpa using hl) fun i d D h3 h4=>hp (i+1) d D (by simpa using h3) (by simpa using h4);rw[h.cons];simp only[bulkL];omega
 | [],_::_,hl,_=>by simp at hl
 |_::_,[],hl,_=>by simp at hl
def HasTy(P:Program)(T:TypeId)(d:Dt):Prop:=∃(ok:Nat->Prop)(w:World)(cs:List Value),RD P ok w T d cs
section
variable{H:Type}{enc:TypeId×Value->H}{P:Program}{w:World}{sp:Nat->Bool}{Ts:List TypeId}
theorem aie{k:IntKind}{n:Int}(h:(Lit.int k n).wf=true):k.min<=n∧n<=k.max:=by simpa [Lit.wf]using h
theorem Bj{A:Type}{Q:Nat->A->Prop}:∀(n:Nat),(∀i,i<n->∃d,Q i d)->∃ds:List A,ds.length=n∧∀i d,ds[i]? =some d->Q i d
 |0,_=>⟨[],rfl,fun i d h=>by simp at h⟩
 |n+    1,h=>by
  obtain⟨ds,h1,h2⟩:=Bj n fun i hi=>h i (Nat.lt_succ_of_lt hi);obtain⟨d,hd⟩:=h n (Nat.lt_succ_self n);refine⟨ds++[d],by simp[h1],fun i x hx=>?_⟩;by_cases hi:i<ds.length;·rw[List.getElem?_append_left hi]at hx;exact h2 i x hx
  ·rw[List.getElem?_append_right (by omega)]at hx;have h3:i-ds.length=0:=by have:=(au.1 hx).1;simp at this;omega
   rw[h3]at hx;simp at hx;subst hx
   rwa [show i=n by omega]
theorem QC{a:Addr}{n:Nat}{cs:List Value}(h:w.cells? 0 a n=some cs):cs.length=n∧∀j v,cs[j]? =some v->w.cell? (a.add j)=some v:=by
 unfold World.cells? at h;rw[if_pos (aI _)]at h;have hl:=mapM_some_length h;simp at hl;refine⟨hl,fun j v hv=>?_⟩;have hj:j<n:=by rw[←hl];exact(au.1 hv).1
 have:=mapM_some_get h j j (by simp[hj]);rw[this];exact hv
theorem aj7{a:Addr}{v:Value}(h:w.cell? a=some v):a.block<w.heap.size:=by
 rcases Nat.lt_or_ge a.block w.heap.size with h1|h1;·exact h1
 ·unfold World.cell? at h;rw[Array.getElem?_eq_none h1]at h;simp at h
theorem YT{B:DataW H->Nat}{BA:List (DataW H)->Nat}(hB:BulkOK B BA)(hc:aic P Ts=true):∀(n:Nat)(t:TypeId)(cs:List Value)(x:DataW H×List MemPlace),t∈Ts->DataW.trod enc P w 0 sp true n t cs=some x->(∀c∈cs,c.oneCell'=true)∧∃d,RD P (fun b=>b<w.heap.size) w t d cs∧d.bulk<=B x.1:=by
 intro n;induction n with
 |zero=>intro t cs x _ h;simp[DataW.trod]at h
 |succ n ih=>
  intro t cs x ht h;have hT:=List.all_eq_true.1 hc t ht;split at hT
  ·rename_i k hu;obtain⟨m,rfl,rfl,hwf⟩:=DataW.trod_int hu h;exact⟨by simp[Value.oneCell'],.int m,.int hu (aie hwf).1 (aie hwf).2,by simpa [Dt.bulk]using hB.lit _⟩
  ·rename_i hu;obtain⟨b,rfl,rfl⟩:=DataW.trod_bool hu h;exact⟨by simp[Value.oneCell'],.bool b,.bool hu,by simpa [Dt.bulk]using hB.lit _⟩
  ·rename_i hu;obtain⟨s,rfl,rfl,hs⟩:=DataW.trod_string hu h;refine⟨by simp[Value.oneCell'],.str s,.str hu hs,?_⟩;rw[hB.str,Array.length_toList];exact aj _
  ·rename_i e hu;rw[aM]at hT;have he:e∈Ts:=yh.1 hT.1;have hz:P.cellsOf e≠0:=fun e0=>by rw[e0]at hT;simp at hT
   rcases DataW.trod_slice hu h with⟨rfl,rfl⟩| ⟨a,len,cap,elems,rest,m,hm,rfl,rfl,_,hlc,hcm,hel,hget,_,_⟩;·exact⟨by simp[Value.oneCell'],.lst [],RD.nil hu,by simpa [Dt.bulk,bulkL]using hB.nil⟩
   ·    obtain rfl:n=m:=by omega
        refine⟨by simp[Value.oneCell'],?_⟩;have hi:∀i,i<len->∃q:List Value×Dt,w.cells? 0 (a.add (i*P.cellsOf e)) (P.cellsOf e)=some q.1∧(∀c∈q.1,c.oneCell'=true)∧RD P (fun b=>b<w.heap.size) w e q.2 q.1∧∀D,elems[i]? =some D->q.2.bulk<=B D.1:=by intro i hi;have h1:=hget i hi;have hei:=aA (show i<elems.length by omega);rw[hei]at h1;obtain⟨cs,h2,h3⟩:=ak.1 h1;obtain⟨h4,d,h5,h6⟩:=ih e cs _ he h3;exact⟨(cs,d),h2,h4,h5,fun D hD=>by rw[hei]at hD;cases hD;exact h6⟩
        obtain⟨qs,hql,hq⟩:=Bj len hi;refine⟨.lst (qs.map (·.2)),.lst a (fun i=>(qs.getD i ([],.int 0)).1) hu (by simp[hql]) hlc hcm (fun h0=>⟨rfl,?_⟩) (fun i hi=>?_) (fun i d hd=>?_),?_⟩
        ·have hq0:=hq 0 _ (aA (by omega));obtain⟨h1,_,h3,_⟩:=hq0;obtain⟨h4,h5⟩:=QC h1;have h6:0<(qs[0]'(by omega)).1.length:=by omega
         have:=aj7 (h5 0 _ (aA h6))
         rwa [add_add,block_add]at this
        ·have hq1:=hq i _ (aA (by omega));obtain⟨h1,h2,_,_⟩:=hq1;obtain⟨h4,h5⟩:=QC h1;have e1:(qs.getD i ([],.int 0))=qs[i]'(by omega):=by simp[List.getD,aA (show i<qs.length by omega)]
         rw[e1];refine⟨h4,h2,fun j v hv=>?_⟩;have:=h5 j v hv
         rwa [add_add]at this
        ·rw[List.getElem?_map]at hd;obtain⟨q,hq1,rfl⟩:=bn.1 hd;obtain⟨_,_,h3,_⟩:=hq i q hq1;have e1:(qs.getD i ([],.int 0))=q:=by simp[List.getD,hq1]
         rw[e1];exact h3
        ·rw[hB.slice];have hle:=hB.le (ds:=qs.map (·.2)) (Ds:=elems.map (·.1)) (by simp[hql,hel]) fun i d D h1 h2=>by rw[List.getElem?_map]at h1 h2;obtain⟨q,hq1,rfl⟩:=bn.1 h1;obtain⟨y,hy1,rfl⟩:=bn.1 h2;exact(hq i q hq1).2.2.2 y hy1
         simp only[Dt.bulk];omega
  ·rename_i fs hu;obtain⟨xs,m,hm,rfl,hlen,hxl,hget⟩:=DataW.trod_struct hu h;obtain rfl:n=m:=by omega
   rw[aM]at hT;have hf:∀i,i<fs.size->∃d,∀f,fs[i]? =some f->(∀c∈(cs.drop f.offset).take (P.cellsOf f.type),c.oneCell'=true)∧RD P (fun b=>b<w.heap.size) w f.type d ((cs.drop f.offset).take (P.cellsOf f.type))∧∀D,xs[i]? =some D->d.bulk<=B D.1:=by intro i hi;have hfi:fs[i]? =some fs[i]:=Array.getElem?_eq_getElem hi;have h1:=hget i _ hfi;have hxi:=aA (show i<xs.length by omega);rw[hxi]at h1;have hm:fs[i].type∈Ts:=yh.1 (List.all_eq_true.1 hT.1 fs[i] (by simp));obtain⟨h2,d,h3,h4⟩:=ih _ _ _ hm h1;exact⟨d,fun f hf=>by rw[hfi]at hf;cases hf;exact⟨h2,h3,fun D hD=>by rw[hxi]at hD;cases hD;exact h4⟩⟩
   obtain⟨ds,hdl,hd⟩:=Bj fs.size hf;have hone:∀c∈cs,c.oneCell'=true:=by intro c hcm;obtain⟨j,hj,rfl⟩:=List.getElem_of_mem hcm;have hcov:=List.all_eq_true.1 hT.2 j (List.mem_range.2 (by omega));obtain⟨f,hfm,hfj⟩:=List.any_eq_true.1 hcov;rw[aM]at hfj;have h1:=aK hfj.1;have h2:j<f.offset+P.cellsOf f.type:=aK hfj.2;obtain⟨i,hi⟩:=List.getElem?_of_mem hfm;rw[Array.getElem?_toList]at hi;have hil:i<fs.size:=(Array.getElem?_eq_some_iff.1 hi).1;have h3:=(hd i _ (aA (by omega)) f hi).1;refine h3 _ (aV (i:=j-f.offset) ?_);rw[List.getElem?_take,if_pos (by omega),List.getElem?_drop,show f.offset+(j-f.offset)=j by omega,aA hj]
   refine⟨hone,.agg ds,.agg hu hdl hlen hone fun i f d hf1 hd1=>(hd i d hd1 f hf1).2.1,?_⟩;rw[hB.agg];have hle:=hB.le (ds:=ds) (Ds:=xs.map (·.1)) (by simp[hdl,hxl]) fun i d D h1 h2=>by
        rw[List.getElem?_map]at h2;obtain⟨y,hy1,rfl⟩:=bn.1 h2;have hil:i<fs.size:=by rw[←hdl];exact(au.1 h1).1
        exact(hd i d h1 _ (Array.getElem?_eq_getElem hil)).2.2 y hy1
   simp only[Dt.bulk];omega
  ·cases hT
theorem aj8{base:Nat}{t:TypeId}{v:Value}(ht:d9 P t=false)(hs:(P.underlying t).isSome=true)(hv:Value.okWide P w .any base t v):v.cells= #[v]:=by
 cases v with
 |agg cs=>
  exfalso;unfold Value.okWide at hv;unfold d9 at ht;cases hu:P.underlying t with
  |none=>rw[hu]at hs;cases hs
  |some D=>rw[hu]at hv ht;cases D<;>simp_all [Cell.okWide,Cell.ok]
 |_=>rfl
theorem aif(hc:aic P Ts=true){t:TypeId}(ht:t∈Ts):(P.underlying t).isSome=true:=by have hT:=List.all_eq_true.1 hc t ht;split at hT<;>simp_all
theorem YU{B:DataW H->Nat}{BA:List (DataW H)->Nat}(hB:BulkOK B BA)(hc:aic P Ts=true){base:Nat}{t:TypeId}{v:Value}{D:DataW H}{p:List MemPlace}(ht:t∈Ts)(hv:Value.okWide P w .any base t v)(h:DataW.Trod enc P w 0 sp true t v D p):
  ∃d,RV P (fun b=>b<w.heap.size) w (fun _=>none) (.dat t d) v∧HasTy P t d∧d.bulk<=B D:=by
 obtain⟨n,hn⟩:=h;obtain⟨_,d,hd,hbk⟩:=YT hB hc n t _ _ ht hn;refine⟨d,?_,⟨_,_,_,hd⟩,hbk⟩;cases ha:d9 P t with
 |false=>
  rw[aj8 ha (aif hc ht) hv]at hd;exact(RV.dat_one ha).2 (by simpa using hd)
 |true=>
  refine(RV.dat_agg ha).2 ?_;unfold Value.okWide at hv;unfold d9 at ha;split at hv
  ·obtain⟨cs,rfl,_⟩:=hv;exact⟨cs.toList,by simp,hd⟩
  ·obtain⟨cs,rfl,_⟩:=hv;exact⟨cs.toList,by simp,hd⟩
  ·split at ha<;>simp_all
inductive HasTys (P:Program):List TypeId->List Dt->Prop where
 |nil:HasTys P [] []
 |cons {t:TypeId} {d:Dt} {ts:List TypeId} {ds:List Dt} (h:HasTy P t d) (r:HasTys P ts ds):HasTys P (t::ts) (d::ds)
def aii:List TypeId->List Dt->List AV
 |t::ts,d::ds=> .dat t d::aii ts ds
 |_,_=>[]
theorem Jj{B:DataW H->Nat}{BA:List (DataW H)->Nat}(hB:BulkOK B BA)(hc:aic P Ts=true){base:Nat}:∀{ts:List TypeId}{vs:List Value}{Ds:List (DataW H)}{p:List MemPlace},(∀t∈ts,t∈Ts)->(∀(j:Nat) t v,ts[j]? =some t->vs[j]? =some v->Value.okWide P w .any base t v)->DataW.TrodAll enc P w 0 sp true ts vs Ds p->
   ∃ds,HasTys P ts ds∧bulkL ds<=BA Ds∧RVsX P (fun b=>b<w.heap.size) w (fun _=>none) (aii ts ds) vs
 | [],vs,Ds,p,_,_,h=>by obtain⟨rfl,rfl,rfl⟩:=trodAll_nil h;exact⟨[],.nil,by simp[bulkL],.nil⟩
 | t::ts,vs,Ds,p,hm,hv,h=>by obtain⟨v,vs',d,ds',p',q',rfl,rfl,rfl,h1,h2⟩:=trodAll_cons h;obtain⟨x,hx,hty,hb1⟩:=YU hB hc (hm t (by simp)) (hv 0 t v rfl rfl) h1;obtain⟨xs,hty2,hb2,hxs⟩:=Jj hB hc (fun t ht=>hm t (by simp[ht])) (fun j t v h3 h4=>hv (j+1) t v (by simpa using h3) (by simpa using h4)) h2;exact⟨x::xs,.cons hty hty2,by rw[hB.cons];simp only[bulkL];omega,.cons hx hxs⟩
theorem CU(hl:laidOutB P=true){W W':World}(hb:Below W.heap.size W W'):∀{ts:List TypeId}{vs:List Value}{Ds:List (DataW H)}{p:List MemPlace},(ts.all fun t=>P.readableRec t&&decide (t<P.types.size))=true->DataW.TrodAll enc P W 0 (fun _=>true) true ts vs Ds p->(∀x∈p,x.block<W.heap.size)->
   DataW.TrodAll enc P W' 0 (fun b=>decide (b<W.heap.size)) true ts vs Ds p
 | [],vs,Ds,p,_,h,_=>by obtain⟨rfl,rfl,rfl⟩:=trodAll_nil h;rfl
 | t::ts,vs,Ds,p,hr,h,hlt=>by obtain⟨v,vs',d,ds',p',q',rfl,rfl,rfl,h1,h2⟩:=trodAll_cons h;simp only[List.all_cons,aM,decide_eq_true_eq]at hr;exact trodAll_cons_mk (Below.trod hl hr.1.1 hr.1.2 h1 hb fun x hx=>hlt x (by simp[hx])) (CU hl hb (by simpa using hr.2) h2 fun x hx=>hlt x (by simp[hx]))
theorem Jk{base:Nat}{held:Bool}:∀{ts:List TypeId}{vs:List Value}{Ds:List (DataW H)}{p:List MemPlace},DataW.TrodAll enc P w base sp held ts vs Ds p->Ds.length=ts.length
 | [],vs,Ds,p,h=>by obtain⟨_,rfl,_⟩:=trodAll_nil h;rfl
 |t::ts,vs,Ds,p,h=>by obtain⟨v,vs',d,ds',p',q',rfl,rfl,rfl,h1,h2⟩:=trodAll_cons h;simp[Jk h2]
theorem Wq{B:DataW H->Nat}{BA:List (DataW H)->Nat}(hB:BulkOK B BA){N:Nat}{f:FuncId}{fn:Func}{s:ChangeSpec}{TB:TypeId}(hl:laidOutB P=true)(hc:aic P Ts=true)(hsub:(fn.params.toList.all fun t=>om t Ts)=true)(hread:(fn.params.toList.all fun t=>P.readableRec t&&decide (t<P.types.size))=true)
  (hu:P.underlying TB=some .bool)(hrt:fn.resultTypes= #[TB])(hvars:s.vars=[])(hspec:∀Ds:List (DataW H),Ds.length=fn.params.toList.length->s.fn H Ds={results:=[.lit (.bool true)],args:=Ds})
  (hfx:∀ds,HasTys P fn.params.toList ds->bulkL ds<=N->FX P f (aii fn.params.toList ds) [] (.dat TB (.bool true)) [])
  {W:World}{base:Nat}{args:Array Value}{Ds gs:List (DataW H)}{before:List MemPlace}
  (hval:∀(j:Nat) t v,fn.params[j]? =some t->args[j]? =some v->Value.okWide P W .any base t v)
  (htab:TabOK (fun b=>b<W.heap.size) W)(hN:BA Ds<=N)(hW:DataW.Whole enc P fn.params.toList s.vars false W args.toList Ds gs before):
  Calls P f args W fun e W'=>∃v,e= .returned v∧s.post enc P fn false true false false W args v W':=by
 have hW':=hW;obtain⟨p,q,hA,hV,rfl,hfz,hnd⟩:=hW;rw[hvars]at hV;obtain⟨rfl,rfl⟩:=trodVars_none hV;obtain⟨ds,hty,hbk,hrv⟩:=Jj hB hc (ts:=fn.params.toList) (fun t ht=>yh.1 (List.all_eq_true.1 hsub t ht)) (fun j t v h1 h2=>hval j t v (by simpa using h1) (by simpa using h2)) hA;have no:∀(β:Nat->Option Value) l b,¬owns [] β l b:=fun β l b h=>by obtain⟨h1,_⟩:=h;cases l<;>cases h1
 have walk:=hfx ds hty (Nat.le_trans hbk hN) (fun b=>b<W.heap.size) W (fun _=>none) args.toList (fun b hb=>⟨hb,fun⟨l,hx⟩=>no _ _ _ hx⟩) (fun l=>by cases l<;>rfl) (fun l l' b h1=>(no _ _ _ h1).elim) hrv htab;rw[show args.toList.toArray=args by simp]at walk;refine walk.mono ?_;rintro e W' ⟨v,β',rfl,fin,hr⟩;have hbel:Below W.heap.size W W':=⟨fin.below.os,fin.below.tape,fin.below.output,fin.below.size,fun b hb=>fin.below.block b hb (fun⟨l,hx⟩=>no _ _ _ hx)⟩;obtain⟨_,rfl⟩:=RV.bool hu hr;have hlt:∀x∈p,x.block<W.heap.size:=fun x hx=>hW'.lt x (by simp[hx]);have hlen:=Jk hA;refine⟨_,rfl,Ds,[],p++[],[],p,[],hW',?_,?_,?_,hbel.frame _,fun h=>by cases h⟩
 ·rw[List.append_nil,hspec Ds hlen,hrt];exact trodAll_mk1 (shut_bool hu _)
 ·rw[List.append_nil,hspec Ds hlen];exact CU hl hbel hread hA hlt
 ·rw[List.append_nil,hspec Ds hlen,hvars];rfl
end
end Go.Am
namespace Go.Proofs.YtmecfjhdnbgfeaaGreatDoor
open Go.Am
theorem Tt{T E:TypeId}{P:Program}{d:Dt}(hu:P.underlying T=some (.slice E))(h:HasTy P T d):d= .lst d.toLst∧d.toLst.length<=maxLen∧∀e∈d.toLst,HasTy P E e:=by obtain⟨ok,w,_,h⟩:=h;obtain⟨h1,a,cap,ad,g,_,h2,h3,_,_,h4⟩:=h.lst_inv hu;refine⟨h1,Nat.le_trans h2 h3,fun e he=>?_⟩;obtain⟨i,hi⟩:=List.getElem?_of_mem he;exact⟨ok,w,_,h4 i e hi⟩
theorem anl{T:TypeId}{fs:Array Field}{P:Program}{d:Dt}(hu:P.underlying T=some (.struct fs))(h:HasTy P T d):(∃ds,d= .agg ds∧ds.length=fs.size)∧∀i f,fs[i]? =some f->HasTy P f.type (d.fld i):=by obtain⟨ok,w,_,h⟩:=h;obtain⟨h1,_,_,h2⟩:=h.agg_inv hu;exact⟨h1,fun i f hf=>⟨ok,w,_,h2 i f hf⟩⟩
end Go.Proofs.YtmecfjhdnbgfeaaGreatDoor
namespace Go.Am
theorem wrap64{n:Int}(h1: -9223372036854775808<=n)(h2:n<=9223372036854775807):IntKind.wrap IntKind.i64 n=n:=by unfold IntKind.wrap;simp only[IntKind.bits,IntKind.signed,Bool.true_and,Nat.add_one_sub_one];split<;>rename_i h<;>simp only[ge_iff_le,decide_eq_true_eq]at h<;>omega
theorem bX{i:Nat}(h:i<9223372036854775807):IntKind.wrap IntKind.i64 ((i:Int)+1)=((i+1:Nat):Int):=by rw[wrap64 (by omega) (by omega)];omega
theorem bI{l:List Dt}{i:Nat}(h:i<l.length):idx l (i:Int)=some l[i]:=by unfold idx;rw[if_pos (by omega)];simp[h]
theorem pY{s:ByteArray}{i:Nat}(h:i<s.size):idxS s (i:Int)=some ((s[i]).toNat:Int):=by unfold idxS;rw[if_pos (by omega)];simp[h]
theorem Ws{l:List Dt}{i j:Nat}(h1:i<=j)(h2:j<=l.length):cutL l (i:Int) (j:Int)=some ((l.drop i).take (j-i)):=by unfold cutL;rw[if_pos (by omega)];simp
theorem Wt{s:ByteArray}{i j:Nat}(h1:i<=j)(h2:j<=s.size):cutS s (i:Int) (j:Int)=some (s.extract i j):=by unfold cutS;rw[if_pos (by omega)];simp
theorem rU{l r:List Dt}(h:l.length+r.length<=137438953472):app l r=some (l++r):=by unfold app;rw[if_pos h]
theorem dlt{i j:Nat}:decide ((i:Int)<(j:Int))=decide (i<j):=by simp
theorem dle{i j:Nat}:decide ((i:Int)<=(j:Int))=decide (i<=j):=by simp
theorem ieq{i j:Nat}:(((i:Int)==(j:Int)):Bool)=(i==j):=by rw[Bool.eq_iff_iff];simp;omega
end Go.Am
namespace Go.Proofs.YtmecfjhdnbgfeaaGreatDoor
open Go.Am Dt
theorem o8(d:Dt):1<=d.bulk:=by cases d<;>simp[Dt.bulk]
theorem IG{e:Dt}:∀{l:List Dt},e∈l->e.bulk<=bulkL l
 |a::r,h=>by
  simp only[bulkL];rcases List.mem_cons.1 h with rfl|h;·omega
  ·have:=IG h;omega
theorem yJ:∀l:List Dt,l.length<=bulkL l
 | []=>by simp[bulkL]
 |a::r=>by have:=yJ r;have:=o8 a;simp only[bulkL,List.length_cons];omega
theorem mF(d:Dt)(i:Nat):(fld d i).bulk<=d.bulk:=by
 cases d with
 |agg ds=>
  simp only[fld,Dt.bulk,List.getD];cases h:ds[i]? with
  |none=>simp[Dt.bulk]
  |some e=>have:=IG (aV h);simp;omega
 |_=>simp only[fld,Dt.bulk];omega
theorem II(d:Dt)(i:Nat):bulkL (L d i)<d.bulk:=by
 have h:=mF d i;unfold L;cases e:fld d i with
 |lst es=>rw[e]at h;simp only[Dt.bulk]at h;simp only[toLst];omega
 |_=>have:=o8 d;simp only[toLst,bulkL];omega
theorem oK{d e:Dt}{i:Nat}(h:e∈L d i):e.bulk<d.bulk:=by have:=II d i;have:=IG h;omega
theorem oh(d:Dt)(i:Nat):(L d i).length<d.bulk:=by have:=II d i;have:=yJ (L d i);omega
theorem NC(d:Dt)(i:Nat):(S d i).size<d.bulk:=by
 have h:=mF d i;unfold S;cases e:fld d i with
 |str s=>rw[e]at h;simp only[Dt.bulk]at h;simp only[toStr];omega
 |_=>have:=o8 d;simp only[toStr];exact Nat.lt_of_lt_of_le (by decide) this
mutual
inductive WV:Dt->Prop where
 |mk {k i:Int} {t:ByteArray} {l ds:List Dt} (hl:∀e∈l,WV e) (hd:∀f∈ds,WF f):WV (.agg [.int k,.int i,.str t,.lst l,.lst ds])
inductive WF:Dt->Prop where
 |mk {s:ByteArray} {v:Dt} (h:WV v):WF (.agg [.str s,v])
end
theorem ap5{A:Type}{l:List A}(h:l.length=2):∃a b,l=[a,b]:=by
 match l,h with
 | [a,b],_=>exact⟨a,b,rfl⟩
theorem anm{A:Type}{l:List A}(h:l.length=5):∃a b c d e,l=[a,b,c,d,e]:=by
 match l,h with
 | [a,b,c,d,e],_=>exact⟨a,b,c,d,e,rfl⟩
structure TQ (T:TypeId) (d:Dt):Prop where
 i:T=3->∃n,d= .int n
 s:T=9->∃s,d= .str s
 v:T=26->WV d
 f:T=48->WF d
 l:T=23->∃l,d= .lst l∧∀e∈l,WV e
 d:T=24->∃l,d= .lst l∧∀e∈l,WF e
theorem ap6{ok:Nat->Prop}{w:World}{T:TypeId}{d:Dt}{cs:List Value}(h:RD Tryz.prog ok w T d cs):TQ T d:=by
 induction h with
 | @int T k n hu _ _=>
   refine⟨fun _=>⟨n,rfl⟩,?_,?_,?_,?_,?_⟩<;>rintro rfl;·have:=hu.symm.trans Tryz.underlying9;cases this
   ·have:=hu.symm.trans Tryz.underlying26;cases this
   ·have:=hu.symm.trans Tryz.underlying48;cases this
   ·have:=hu.symm.trans Tryz.underlying23;cases this
   ·have:=hu.symm.trans Tryz.underlying24;cases this
 | @bool T b hu=>
   refine⟨?_,?_,?_,?_,?_,?_⟩<;>rintro rfl;·have:=hu.symm.trans Tryz.underlying3;cases this
   ·have:=hu.symm.trans Tryz.underlying9;cases this
   ·have:=hu.symm.trans Tryz.underlying26;cases this
   ·have:=hu.symm.trans Tryz.underlying48;cases this
   ·have:=hu.symm.trans Tryz.underlying23;cases this
   ·have:=hu.symm.trans Tryz.underlying24;cases this
 | @str T s hu _=>
   refine⟨?_,fun _=>⟨s,rfl⟩,?_,?_,?_,?_⟩<;>rintro rfl;·have:=hu.symm.trans Tryz.underlying3;cases this
   ·have:=hu.symm.trans Tryz.underlying26;cases this
   ·have:=hu.symm.trans Tryz.underlying48;cases this
   ·have:=hu.symm.trans Tryz.underlying23;cases this
   ·have:=hu.symm.trans Tryz.underlying24;cases this
 | @agg T fs ds cs hu hl _ _ _ ih=>
   refine⟨?_,?_,?_,?_,?_,?_⟩<;>rintro rfl;·have:=hu.symm.trans Tryz.underlying3;cases this
   ·have:=hu.symm.trans Tryz.underlying9;cases this
   ·have e:=hu.symm.trans Tryz.underlying26;simp only[aH,TypeDesc.struct.injEq]at e;subst e;obtain⟨a,b,c,d,e,rfl⟩:=anm hl;obtain⟨n0,rfl⟩:=(ih 0 _ a rfl rfl).i rfl;obtain⟨n1,rfl⟩:=(ih 1 _ b rfl rfl).i rfl;obtain⟨n2,rfl⟩:=(ih 2 _ c rfl rfl).s rfl;obtain⟨l,rfl,hl'⟩:=(ih 3 _ d rfl rfl).l rfl;obtain⟨ds,rfl,hd'⟩:=(ih 4 _ e rfl rfl).d rfl;exact .mk hl' hd'
   ·have e:=hu.symm.trans Tryz.underlying48;simp only[aH,TypeDesc.struct.injEq]at e;subst e;obtain⟨a,b,rfl⟩:=ap5 hl;obtain⟨s,rfl⟩:=(ih 0 _ a rfl rfl).s rfl;exact .mk ((ih 1 _ b rfl rfl).v rfl)
   ·have:=hu.symm.trans Tryz.underlying23;cases this
   ·have:=hu.symm.trans Tryz.underlying24;cases this
 | @lst T E es a len cap ad g hu _ _ _ _ _ _ ih=>
   refine⟨?_,?_,?_,?_,?_,?_⟩<;>rintro rfl;·have:=hu.symm.trans Tryz.underlying3;cases this
   ·have:=hu.symm.trans Tryz.underlying9;cases this
   ·have:=hu.symm.trans Tryz.underlying26;cases this
   ·have:=hu.symm.trans Tryz.underlying48;cases this
   ·have e:=hu.symm.trans Tryz.underlying23;simp only[aH,TypeDesc.slice.injEq]at e;subst e;refine⟨es,rfl,fun e he=>?_⟩;obtain⟨i,hi⟩:=List.getElem?_of_mem he;exact(ih i e hi).v rfl
   ·have e:=hu.symm.trans Tryz.underlying24;simp only[aH,TypeDesc.slice.injEq]at e;subst e;refine⟨es,rfl,fun e he=>?_⟩;obtain⟨i,hi⟩:=List.getElem?_of_mem he;exact(ih i e hi).f rfl
 | @arr T E q es cs hu _ _ _ _ ih=>
   refine⟨?_,?_,?_,?_,?_,?_⟩<;>rintro rfl;·have:=hu.symm.trans Tryz.underlying3;cases this
   ·have:=hu.symm.trans Tryz.underlying9;cases this
   ·have:=hu.symm.trans Tryz.underlying26;cases this
   ·have:=hu.symm.trans Tryz.underlying48;cases this
   ·have:=hu.symm.trans Tryz.underlying23;cases this
   ·have:=hu.symm.trans Tryz.underlying24;cases this
 | @nilp T E hu=>
   refine⟨?_,?_,?_,?_,?_,?_⟩<;>rintro rfl;·have:=hu.symm.trans Tryz.underlying3;cases this
   ·have:=hu.symm.trans Tryz.underlying9;cases this
   ·have:=hu.symm.trans Tryz.underlying26;cases this
   ·have:=hu.symm.trans Tryz.underlying48;cases this
   ·have:=hu.symm.trans Tryz.underlying23;cases this
   ·have:=hu.symm.trans Tryz.underlying24;cases this
 | @ptr T E d cs ad hu _ _ _ _ _=>
   refine⟨?_,?_,?_,?_,?_,?_⟩<;>rintro rfl;·have:=hu.symm.trans Tryz.underlying3;cases this
   ·have:=hu.symm.trans Tryz.underlying9;cases this
   ·have:=hu.symm.trans Tryz.underlying26;cases this
   ·have:=hu.symm.trans Tryz.underlying48;cases this
   ·have:=hu.symm.trans Tryz.underlying23;cases this
   ·have:=hu.symm.trans Tryz.underlying24;cases this
theorem abm{d:Dt}(h:HasTy Tryz.prog 26 d):WV d:=by obtain⟨_,_,_,h⟩:=h;exact(ap6 h).v rfl
theorem iR(d:Dt):1<=d.bulk:=by cases d<;>simp[Dt.bulk]
theorem kR{e:Dt}:∀{l:List Dt},e∈l->e.bulk<=bulkL l
 |a::r,h=>by
  simp only[bulkL];rcases List.mem_cons.1 h with rfl|h;·omega
  ·have:=kR h;omega
theorem jr:∀l:List Dt,l.length<=bulkL l
 | []=>by simp[bulkL]
 |a::r=>by have:=jr r;have:=iR a;simp only[bulkL,List.length_cons];omega
theorem nK{k i:Int}{t:ByteArray}{l ds:List Dt}:Dt.bulk (.agg [.int k,.int i,.str t,.lst l,.lst ds])=bulkL l+bulkL ds+(t.size+6):=by simp only[Dt.bulk,bulkL];omega
theorem vL{s:ByteArray}{v:Dt}:Dt.bulk (.agg [.str s,v])=v.bulk+s.size+2:=by simp only[Dt.bulk,bulkL];omega
theorem Bl{A:Type}(l:List A)(z:A)(i:Nat)(h:i<l.length):(l.take i++List.replicate (l.length-i) z).set i l[i]=l.take (i+1)++List.replicate (l.length-(i+1)) z:=by
 rw[List.set_append_right _ _ (by simp;omega)];have h1:i-(l.take i).length=0:=by simp;omega
 rw[h1,show l.length-i=(l.length-(i+1))+1 by omega,List.replicate_succ,List.set_cons_zero,List.take_succ_eq_append_getElem h,List.append_assoc];rfl
theorem FU{A:Type}(l:List A)(z:A)(i:Nat)(h:i<=l.length):(l.take i++List.replicate (l.length-i) z).length=l.length:=by simp;omega
theorem tZ{l:List Dt}{i:Nat}(h:i<l.length):inL l (i:Int)=some ():=by unfold inL;rw[if_pos (by omega)]
theorem uG{n:Nat}{z:Dt}(h:n<=137438953472):mkL (n:Int) (n:Int) z=some (List.replicate n z):=by unfold mkL;rw[if_pos (by omega)];simp
theorem Bn{d:Dt}(hw:WV d):(L d 3).length<=d.bulk∧(L d 4).length<=d.bulk∧(∀e∈L d 3,WV e∧e.bulk<d.bulk)∧(∀f∈L d 4,WV (fld f 1)∧(fld f 1).bulk<d.bulk):=by
 cases hw with
 | @mk  k i t l ds hl hd=>
   rw[nK];have h3:=jr l;have h4:=jr ds;refine⟨by show l.length<=_;omega,by show ds.length<=_;omega,fun e he=>⟨hl e he,?_⟩,fun f hf=>?_⟩;·have:=kR (show e∈l from he);omega
   ·have hb:=kR (show f∈ds from hf);cases hd f hf with
    |   @mk s v hv=>
        rw[vL]at hb;exact⟨hv,by show v.bulk<_;omega⟩
def rV(d:Dt):List Dt:=bif I d 0==6 then L d 3 else bif I d 0==5 then(L d 4).map (·.fld 1)else[]
theorem Wu(m:Nat)(d:Dt)(hl:(L d 4).length<=137438953472):∀(M i:Nat),i<=(L d 4).length->(L d 4).length-i<M->lH m M (i:Int) d (((L d 4).map (·.fld 1)).take i)=some ((L d 4).map (·.fld 1))
 |0,i,_,h=>by omega
 |M+    1,i,hi,h=>by
  simp only[lH,dlt];by_cases hlt:i<(L d 4).length
  ·have happ:app (((L d 4).map (·.fld 1)).take i) [(L d 4)[i].fld 1]=some (((L d 4).map (·.fld 1)).take (i+1)):=by rw[rU (by simp;omega),List.take_succ_eq_append_getElem (by simpa using hlt)];simp
   simp only[hlt,decide_true,cond_true,bI hlt,ah,happ,bX (show i<9223372036854775807 by omega)];exact Wu m d hl M (i+1) (by omega) (by omega)
  ·have e:i=(L d 4).length:=by omega
   simp only[hlt,decide_false,cond_false];rw[List.take_of_length_le (by simp;omega)]
theorem Wv(m:Nat)(d:Dt)(hl:(L d 3).length<=137438953472):∀(M i:Nat),i<=(L d 3).length->(L d 3).length-i<M->lJ m M (i:Int) d ((L d 3).take i)=lI m d (L d 3)
 |0,i,_,h=>by omega
 |M+    1,i,hi,h=>by
  simp only[lJ,dlt];by_cases hlt:i<(L d 3).length
  ·have happ:app ((L d 3).take i) [(L d 3)[i]]=some ((L d 3).take (i+1)):=by rw[rU (by simp;omega),List.take_succ_eq_append_getElem hlt]
   simp only[hlt,decide_true,cond_true,bI hlt,ah,happ,bX (show i<9223372036854775807 by omega)];exact Wv m d hl M (i+1) (by omega) (by omega)
  ·simp only[hlt,decide_false,cond_false];rw[List.take_of_length_le (by omega)]
theorem parts_eq(d:Dt)(hw:WV d)(m:Nat)(hm:d.bulk<=m)(hb:d.bulk<=137438953472):ku (m+1) d=some (rV d):=by
 have hl3:(L d 3).length<=d.bulk:=by
  cases hw with
  | @mk k i t l ds hl hd=>rw[nK];have:=jr l;show l.length<=_;omega
 have hl4:(L d 4).length<=d.bulk:=by
  cases hw with
  | @mk k i t l ds hl hd=>rw[nK];have:=jr ds;show ds.length<=_;omega
 have h6:=Wu m d (by omega) (m+1) 0 (aI _) (by omega);have h1:=Wv m d (by omega) (m+1) 0 (aI _) (by omega);rw[List.take_zero]at h6 h1;have h6':lH m (Nat.succ m) 0 d []=_:=h6;have h1':lJ m (Nat.succ m) 0 d []=_:=h1;unfold rV;simp only[ku,h1'];cases h:(I d 0==6)
 ·simp only[cond_false,lI,h6'];cases (I d 0==5)<;>rfl
 ·have e:I d 0=6:=by simpa using h
  simp only[cond_true,lI,e];rfl
theorem BN{d:Dt}(hw:WV d):∀e∈rV d,WV e∧e.bulk<d.bulk:=by
 cases hw with
 | @mk  k i t l ds hl hd=>
   intro e he;rw[nK];unfold rV at he;have e1:I (.agg [.int k,.int i,.str t,.lst l,.lst ds]) 0=k:=rfl;have e2:L (.agg [.int k,.int i,.str t,.lst l,.lst ds]) 3=l:=rfl;have e3:L (.agg [.int k,.int i,.str t,.lst l,.lst ds]) 4=ds:=rfl;rw[e1,e2,e3]at he;cases h6:(k==6)
   ·rw[   h6]at he;simp only[cond_false]at he;cases h5:(k==5);·rw[h5]at he;simp at he
    ·   rw[h5]at he;simp only[cond_true,List.mem_map]at he;obtain⟨f,hf,rfl⟩:=he;have hb:=kR hf;cases hd f hf with
        | @mk s v hv=>
          rw[vL]at hb;exact⟨hv,by show v.bulk<_;omega⟩
   ·rw[h6]at he;simp only[cond_true]at he;have hb:=kR he;exact⟨hl e he,by omega⟩
theorem Ww{d:Dt}(hw:WV d):(rV d).length<=d.bulk:=by
 cases hw with
 | @mk k i t l ds hl hd=>
   rw[nK];have h3:=jr l;have h4:=jr ds;unfold rV;cases (I (.agg [.int k,.int i,.str t,.lst l,.lst ds]) 0==6)<;>cases (I (.agg [.int k,.int i,.str t,.lst l,.lst ds]) 0==5)<;>simp[L,fld,toLst]<;>omega
def YV:Nat->Dt->Nat
 |0,_=>1
 |n+1,d=>1+((rV d).map (YV n)).sum
theorem QD:∀(n n':Nat)(d:Dt),WV d->d.bulk<=n->d.bulk<=n'->YV n d=YV n' d
 |0,_,d,_,h,_=>by have:=iR d;omega
 |_+1,0,d,_,_,h=>by have:=iR d;omega
 |n+1,n'+1,d,hw,h,h'=>by simp only[YV];congr 2;refine List.map_congr_left fun e he=>?_;have:=BN hw e he;exact QD n n' e this.1 (by omega) (by omega)
def nds(d:Dt):Nat:=YV d.bulk d
theorem IJ{d:Dt}(hw:WV d):nds d=1+((rV d).map nds).sum:=by obtain⟨k,hk⟩:∃k,d.bulk=k+1:=⟨d.bulk-1,by have:=iR d;omega⟩;unfold nds;rw[hk];simp only[YV];congr 2;refine List.map_congr_left fun e he=>?_;have:=BN hw e he;exact QD _ _ e this.1 (by omega) (aj _)
theorem aj9{d:Dt}(hw:WV d):1<=nds d:=by rw[IJ hw];omega
theorem sum_cons(f:Dt->Nat){L:List Dt}{i:Nat}(h:i<L.length):((L.drop i).map f).sum=f L[i]+((L.drop (i+1)).map f).sum:=by rw[aG h,List.map_cons,List.sum_cons]
theorem Wx(m:Nat)(self:Dt->Int->Option Int)(L:List Dt)(hl:L.length<9223372036854775807)(most:Nat)(hb:most<1000000)(hs:∀e∈L,∀k:Nat,1<=k->k<=most->self e (k:Int)=some ((min (nds e) k:Nat):Int)):∀(M i acc:Nat),i<=L.length->L.length-i<M->acc<=most->
  oq m self M (most:Int) (acc:Int) L (i:Int)=some ((min (acc+((L.drop i).map nds).sum) most:Nat):Int)
 |0,i,_,_,h,_=>by omega
 |M+    1,i,acc,hi,h,ha=>by
  simp only[oq,dlt];by_cases hlt:i<L.length
  ·simp only[hlt,decide_true,cond_true];by_cases hm:acc<most
   ·    have hw:IntKind.wrap IntKind.i64 ((most:Int)-(acc:Int))=((most-acc:Nat):Int):=by rw[wrap64 (by omega) (by omega)];omega
        have hr:=hs _ (aF hlt) (most-acc) (by omega) (by omega);have hw2:IntKind.wrap IntKind.i64 ((acc:Int)+((min (nds L[i]) (most-acc):Nat):Int))=((acc+min (nds L[i]) (most-acc):Nat):Int):=by rw[wrap64 (by omega) (by omega)];omega
        simp only[hm,decide_true,cond_true,bI hlt,ah,hw,hr,hw2,bX (show i<9223372036854775807 by omega),Wx m self L hl most hb hs M (i+1) (acc+min (nds L[i]) (most-acc)) (by omega) (by omega) (by omega),sum_cons nds hlt];congr 2;omega
   ·    have:acc=most:=by omega
        subst this;simp only[hm,decide_false,cond_false];first|(simp only[];congr 2;omega)|(congr 2;omega)
  ·rw[List.drop_eq_nil_of_le (by omega)];simp only[hlt,decide_false,cond_false,List.map_nil,List.sum_nil];first|(simp only[];congr 2;omega)|(congr 2;omega)
theorem count_eq:∀(N:Nat)(d:Dt),d.bulk<=N->N<=137438953472->WV d->∀m,N<=m->∀most:Nat,1<=most->most<1000000->iM (m+2) d (most:Int)=some ((min (nds d) most:Nat):Int)
 |0,d,h,_,_,_,_,_,_,_=>by have:=iR d;omega
 |N+1,d,h,hN,hw,m,hm,most,h1,h2=>by
  obtain⟨m,rfl⟩:∃q,m=q+1:=⟨m-1,by omega⟩;simp only[iM,parts_eq d hw (m+1) (by omega) (by omega),ah];have hl:=Ww hw;have:=Wx (m+2) (iM (m+2)) (rV d) (by omega) most h2 (fun e he k hk1 hk2=>by obtain⟨hwe,hbe⟩:=BN hw e he;exact count_eq N e (by omega) (by omega) hwe m (by omega) k hk1 (by omega)) (m+3) 0 1 (aI _) (by omega) h1
  rw[aQ,←IJ hw]at this;exact this
theorem acT{d:Dt}(hw:WV d)(hb:d.bulk<=137438953472)(m:Nat)(hm:d.bulk<=m):mI (m+3) d=some ((min (nds d) 1025:Nat):Int):=by simp only[mI];rw[show ((1025:Int))=((1025:Nat):Int)from rfl,count_eq d.bulk d (aj _) hb hw m hm 1025 (by omega) (by omega)];rfl
theorem abn(m:Nat)(self:Dt->Int->Int->Option (Bool×Int×Int))(L:List Dt)(hl:L.length<9223372036854775807)(most:Nat)(hs:∀e∈L,∀k:Nat,k<most->self e (k:Int) (most:Int)=some (decide (((min (k+nds e) most:Nat):Int)<(most:Int)),((min (k+nds e) most:Nat):Int),(most:Int))):∀(M i acc:Nat),i<=L.length->L.length-i<M->acc<most->
  F5 m self M L (L.length:Int) (i:Int) (acc:Int) (most:Int)=some (((min (acc+((L.drop i).map nds).sum) most:Nat):Int),(most:Int))
 |0,i,_,_,h,_=>by omega
 |M+    1,i,acc,hi,h,ha=>by
  simp only[F5,dlt];by_cases hlt:i<L.length
  ·have hr:=hs _ (aF hlt) acc ha;simp only[hlt,decide_true,cond_true,bI hlt,ah,hr,dlt,bX (show i<9223372036854775807 by omega),sum_cons nds hlt];by_cases hm:min (acc+nds L[i]) most<most
   ·    simp only[hm,decide_true,Bool.not_true,cond_false,abn m self L hl most hs M (i+1) (min (acc+nds L[i]) most) (by omega) (by omega) hm];congr 3;omega
   ·    simp only[hm,decide_false,Bool.not_false,cond_true];congr 3;omega
  ·rw[List.drop_eq_nil_of_le (by omega)];simp only[hlt,decide_false,cond_false,List.map_nil,List.sum_nil];congr 3;omega
theorem abo(m:Nat)(self:Dt->Int->Int->Option (Bool×Int×Int))(L:List Dt)(hl:L.length<9223372036854775807)(most:Nat)(hs:∀e∈L,∀k:Nat,k<most->self (fld e 1) (k:Int) (most:Int)=some (decide (((min (k+nds (fld e 1)) most:Nat):Int)<(most:Int)),((min (k+nds (fld e 1)) most:Nat):Int),(most:Int))):∀(M i acc:Nat),i<=L.length->L.length-i<M->acc<most->
  F6 m self M L (L.length:Int) (i:Int) (acc:Int) (most:Int)=some (((min (acc+((L.drop i).map fun f=>nds (fld f 1)).sum) most:Nat):Int),(most:Int))
 |0,i,_,_,h,_=>by omega
 |M+    1,i,acc,hi,h,ha=>by
  simp only[F6,dlt];by_cases hlt:i<L.length
  ·have hr:=hs _ (aF hlt) acc ha;simp only[hlt,decide_true,cond_true,bI hlt,ah,hr,dlt,bX (show i<9223372036854775807 by omega),sum_cons (fun f=>nds (fld f 1)) hlt];by_cases hm:min (acc+nds (fld L[i] 1)) most<most
   ·    simp only[hm,decide_true,Bool.not_true,cond_false,abo m self L hl most hs M (i+1) (min (acc+nds (fld L[i] 1)) most) (by omega) (by omega) hm];congr 3;omega
   ·    simp only[hm,decide_false,Bool.not_false,cond_true];congr 3;omega
  ·rw[List.drop_eq_nil_of_le (by omega)];simp only[hlt,decide_false,cond_false,List.map_nil,List.sum_nil];congr 3;omega
theorem QE:∀(N:Nat)(d:Dt),d.bulk<=N->N<=137438953472->WV d->∀m,3*N<=m->∀most:Nat,1<=most->most<1000000->kF (m+1) d (most:Int)=some ((min (nds d) most:Nat):Int)
 |0,d,h,_,_,_,_,_,_,_=>by have:=iR d;omega
 |N+    1,d,h,hN,hw,m,hm,most,h1,h2=>by
  obtain⟨m,rfl⟩:∃q,m=q+3:=⟨m-3,by omega⟩;simp only[kF];have hpos:=aj9 hw;by_cases e1:most=1
  ·subst e1;have:(((1:Int))==((1:Nat):Int))=true:=rfl;simp only[this,cond_true];congr 1;omega
  ·have e2:(((1:Int))==(most:Int))=false:=by rw[beq_eq_false_iff_ne];omega
   have hc:∀e:Dt,WV e->e.bulk<=N->∀k:Nat,k<most->i96 (m+2) e (k:Int) (most:Int)=some (decide (((min (k+nds e) most:Nat):Int)<(most:Int)),((min (k+nds e) most:Nat):Int),(most:Int)):=fun e hwe hbe k hk=>by
        have hw1:IntKind.wrap IntKind.i64 ((most:Int)-(k:Int))=((most-k:Nat):Int):=by rw[wrap64 (by omega) (by omega)];omega
        have hr:=QE N e hbe (by omega) hwe m (by omega) (most-k) (by omega) (by omega);have hw2:IntKind.wrap IntKind.i64 ((k:Int)+((min (nds e) (most-k):Nat):Int))=((min (k+nds e) most:Nat):Int):=by rw[wrap64 (by omega) (by omega)];omega
        simp only[i96,hw1,hr,ah,hw2]
   obtain⟨p1,p2,p3,p4⟩:=Bn hw;have k1:=abn (m+2) (i96 (m+2)) (L d 3) (by omega) most (fun e he=>hc e (p3 e he).1 (by have:=(p3 e he).2;omega)) (m+3) 0 1 (aI _) (by omega) (by omega);have k2:=abo (m+2) (i96 (m+2)) (L d 4) (by omega) most (fun e he=>hc _ (p4 e he).1 (by have:=(p4 e he).2;omega)) (m+3) 0 1 (aI _) (by omega) (by omega);rw[aQ]at k1 k2;have hn:=IJ hw;unfold rV at hn;simp only[e2,cond_false,i95];cases h6:(I d 0==6)
   ·    rw[h6]at hn;cases h5:(I d 0==5)
        ·rw[h5]at hn;simp only[cond_false,List.map_nil,List.sum_nil]at hn;simp only[cond_false,ah,hn];congr 1;omega
        ·rw[h5]at hn;simp only[cond_false,cond_true,List.map_map]at hn;have hn':nds d=1+((L d 4).map fun f=>nds (fld f 1)).sum:=hn;have k2':F6 (m+2) (i96 (m+2)) (Nat.succ (m+2)) (L d 4) ((L d 4).length:Int) 0 1 (most:Int)=_:=k2;simp only[cond_false,cond_true,k2',ah,hn']
   ·    rw[h6]at hn;simp only[cond_true]at hn;have k1':F5 (m+2) (i96 (m+2)) (Nat.succ (m+2)) (L d 3) ((L d 3).length:Int) 0 1 (most:Int)=_:=k1;simp only[cond_true,k1',ah,hn]
theorem acU{d:Dt}(hw:WV d)(hb:d.bulk<=137438953472)(m:Nat)(hm:3*d.bulk<=m):mK (m+2) d=some ((min (nds d) 1025:Nat):Int):=by simp only[mK];rw[show ((1025:Int))=((1025:Nat):Int)from rfl,QE d.bulk d (aj _) hb hw m hm 1025 (by omega) (by omega)];rfl
end Go.Proofs.YtmecfjhdnbgfeaaGreatDoor
namespace Go.Proofs.YtmecfjhdnbgfeaaGreatDoor
open Go.Am
def okB(c:UInt8):Bool:=!(decide ((c.toNat:Int)<33)||decide ((126:Int)<c.toNat)||((c.toNat:Int)==46))
def nmL(l:List UInt8):Bool:=match l with
 | []=>false
 |c::r=>decide (r.length<32)&&!((c.toNat:Int)==36)&&(c::r).all okB
def nm(s:ByteArray):Bool:=nmL s.data.toList
theorem Tw(s:ByteArray)(i:Nat)(h:i<s.size):s.data.toList.drop i=s[i]::s.data.toList.drop (i+1):=by rw[aG (show i<s.data.toList.length by simpa using h)];rfl
theorem IK(s:ByteArray):s.data.toList.length=s.size:=by rw[Array.length_toList];rfl
theorem QF(m:Nat)(s:ByteArray)(hs:s.size<9223372036854775807):∀(M i:Nat),i<=s.size->s.size-i<M->iC m M s (i:Int)=some ((s.data.toList.drop i).all okB)
 |0,i,_,h=>by omega
 |M+1,i,hi,h=>by
  simp only[iC,dlt];by_cases hlt:i<s.size
  ·rw[Tw s i hlt];simp only[hlt,decide_true,cond_true,iB,iE,pY hlt,ah,bX (show i<9223372036854775807 by omega),QF m s hs M (i+1) (by omega) (by omega),List.all_cons,okB];cases decide (((s[i]).toNat:Int)<33)<;>cases decide ((126:Int)<((s[i]).toNat:Int))<;>cases (((s[i]).toNat:Int)==46)<;>rfl
  ·have:i=s.size:=by omega
   subst this;rw[List.drop_eq_nil_of_le (by rw[IK];omega)];simp[iB,iE]
theorem ND(s:ByteArray)(h1:1<=s.size)(h2:s.size<=32):nm s=(!(((s[0]).toNat:Int)==36)&&s.data.toList.all okB):=by
 have e:=Tw s 0 (by omega);have hl:(s.data.toList.drop 1).length<32:=by rw[List.length_drop,IK];omega
 rw[aQ]at e;unfold nm;rw[e];simp only[Nat.zero_add]at hl ⊢
 unfold nmL;simp only[hl,decide_true,Bool.true_and]
theorem NG(s:ByteArray)(h:s.size<1):nm s=false:=by unfold nm;have:s.data.toList=[]:=List.eq_nil_of_length_eq_zero (by rw[IK];omega);rw[this];rfl
theorem Kq(s:ByteArray)(h:32<s.size):nm s=false:=by
 have e:=Tw s 0 (by omega);have hl:¬(s.data.toList.drop 1).length<32:=by rw[List.length_drop,IK];omega
 rw[aQ]at e;unfold nm;rw[e];simp only[Nat.zero_add];unfold nmL;simp only[hl,decide_false,Bool.false_and]
theorem Kr(m:Nat)(hm:33<=m)(s:ByteArray):gY (m+1) s=some (nm s):=by
 simp only[gY];by_cases h1:s.size<1
 ·have:decide ((s.size:Int)<1)=true:=by simp;omega
  simp only[this,cond_true,iB,iE,NG s h1]
 have e1:decide ((s.size:Int)<1)=false:=by simp;omega
 by_cases h2:32<s.size
 ·have:decide ((32:Int)<(s.size:Int))=true:=by simp;omega
  simp only[e1,this,cond_true,cond_false,iB,iE,Kq s h2]
 have e2:decide ((32:Int)<(s.size:Int))=false:=by simp;omega
 have hx:=pY (s:=s) (i:=0) (by omega);have hl:=QF m s (by omega) (m+1) 0 (by omega) (by omega);rw[aQ]at hl;have hl':iC m (Nat.succ m) s 0=some (s.data.toList.all okB):=hl;simp only[e1,e2,cond_false,show idxS s 0=_ from hx,ah,iB,iE,hl',ND s (by omega) (by omega)];cases (((s[0]).toNat:Int)==36)<;>rfl
def QG(b:UInt8):Bool:=decide (128<=b.toNat)&&decide (b.toNat<=191)
def tlU(n:Nat)(r:List UInt8):Bool:=decide (n<=r.length)&&(r.take n).all QG
def hdN(r:List UInt8):Nat:=(r.getD 0 0).toNat
def okU(b:Nat)(r:List UInt8):Option Nat:=
 if b<128 then some 0
 else if 194<=b∧b<=223 then(if tlU 1 r=true then some 1 else none)
 else if 224<=b∧b<=239 then(if tlU 2 r=true∧¬(b=224∧hdN r<160)∧¬(b=237∧159<hdN r)then some 2 else none)
 else if 240<=b∧b<=244 then(if tlU 3 r=true∧¬(b=240∧hdN r<144)∧¬(b=244∧143<hdN r)then some 3 else none)
 else none
theorem tl1(r:List UInt8):tlU 1 r=true↔1<=r.length∧128<=(r.getD 0 0).toNat∧(r.getD 0 0).toNat<=191:=by
 unfold tlU QG;match r with
 | []=>simp
 |a::r=>simp
theorem tl2(r:List UInt8):tlU 2 r=true↔2<=r.length∧(128<=(r.getD 0 0).toNat∧(r.getD 0 0).toNat<=191)∧128<=(r.getD 1 0).toNat∧(r.getD 1 0).toNat<=191:=by
 unfold tlU QG;match r with
 | []=>simp
 | [a]=>simp
 |a::b::r=>simp
theorem tl3(r:List UInt8):tlU 3 r=true↔3<=r.length∧(128<=(r.getD 0 0).toNat∧(r.getD 0 0).toNat<=191)∧(128<=(r.getD 1 0).toNat∧(r.getD 1 0).toNat<=191)∧128<=(r.getD 2 0).toNat∧(r.getD 2 0).toNat<=191:=by
 unfold tlU QG;match r with
 | []=>simp
 | [a]=>simp
 | [a,b]=>simp
 |a::b::c::r=>simp
theorem akb(n b0 b1 b2 b3:Nat)(k0:b0<256)(k1:b1<256)(k2:b2<256)(k3:b3<256)(k:Nat)(h:(b0<128∧k=0)∨(194<=b0∧b0<=223∧1<n∧128<=b1∧b1<=191∧k=1)∨(224<=b0∧b0<=239∧2<n∧(128<=b1∧b1<=191)∧(128<=b2∧b2<=191)∧¬(b0=224∧b1<160)∧¬(b0=237∧159<b1)∧k=2)∨(240<=b0∧b0<=244∧3<n∧(128<=b1∧b1<=191)∧(128<=b2∧b2<=191)∧(128<=b3∧b3<=191)∧¬(b0=240∧b1<144)∧¬(b0=244∧143<b1)∧k=3)):
  ¬((Lib.decodeN n b0 b1 b2 b3).1=65533∧(Lib.decodeN n b0 b1 b2 b3).2=1)∧(Lib.decodeN n b0 b1 b2 b3).2=k+1:=by
 rcases h with⟨h1,rfl⟩| ⟨h1,h2,h3,h4,h5,rfl⟩| ⟨h1,h2,h3,h4,h5,h6,h7,rfl⟩| ⟨h1,h2,h3,h4,h5,h6,h7,h8,rfl⟩
 ·unfold Lib.decodeN;rw[if_pos h1];exact⟨fun h=>by have:=h.1;dsimp only at this;omega,rfl⟩
 ·unfold Lib.decodeN;rw[if_neg (by omega),if_pos (by omega),if_pos (by omega)];exact⟨fun h=>by have:=h.2;dsimp only at this;omega,rfl⟩
 ·unfold Lib.decodeN;rw[if_neg (by omega),if_neg (by omega),if_pos (by omega),if_pos (by omega)];exact⟨fun h=>by have:=h.2;dsimp only at this;omega,rfl⟩
 ·unfold Lib.decodeN;rw[if_neg (by omega),if_neg (by omega),if_neg (by omega),if_pos (by omega),if_pos (by omega)];exact⟨fun h=>by have:=h.2;dsimp only at this;omega,rfl⟩
theorem akc(n b0 b1 b2 b3:Nat)(k0:b0<256)(k1:b1<256)(k2:b2<256)(k3:b3<256)(h1:¬b0<128)(h2:¬(194<=b0∧b0<=223∧1<n∧128<=b1∧b1<=191))(h3:¬(224<=b0∧b0<=239∧2<n∧(128<=b1∧b1<=191)∧(128<=b2∧b2<=191)∧¬(b0=224∧b1<160)∧¬(b0=237∧159<b1)))(h4:¬(240<=b0∧b0<=244∧3<n∧(128<=b1∧b1<=191)∧(128<=b2∧b2<=191)∧(128<=b3∧b3<=191)∧¬(b0=240∧b1<144)∧¬(b0=244∧143<b1))):
  Lib.decodeN n b0 b1 b2 b3=(65533,1):=by
 unfold Lib.decodeN;rw[if_neg h1];split;·rw[if_neg (by omega)]
 ·split;·rw[if_neg (by omega)]
  ·split;·rw[if_neg (by omega)]
   ·rfl
theorem aij(b:UInt8)(r:List UInt8):(∀n,okU b.toNat r=some n->¬((Lib.decodeL (b::r)).1=65533∧(Lib.decodeL (b::r)).2=1)∧(Lib.decodeL (b::r)).2=n+1)∧(okU b.toNat r=none->(Lib.decodeL (b::r)).1=65533∧(Lib.decodeL (b::r)).2=1):=by
 rw[Lib.decodeL_N];have k0:=b.toNat_lt;have k1:=(r.getD 0 0).toNat_lt;have k2:=(r.getD 1 0).toNat_lt;have k3:=(r.getD 2 0).toNat_lt;have e0:((b::r).getD 0 0)=b:=rfl;have e1:((b::r).getD 1 0)=r.getD 0 0:=rfl;have e2:((b::r).getD 2 0)=r.getD 1 0:=rfl;have e3:((b::r).getD 3 0)=r.getD 2 0:=rfl;rw[e0,e1,e2,e3,List.length_cons];have t1:=tl1 r;have t2:=tl2 r;have t3:=tl3 r;unfold okU hdN;generalize tlU 1 r=u1 at*
 generalize tlU 2 r=u2 at*
 generalize tlU 3 r=u3 at*
 generalize (r.getD 0 0).toNat=c1 at*
 generalize (r.getD 1 0).toNat=c2 at*
 generalize (r.getD 2 0).toNat=c3 at*
 generalize b.toNat=c0 at*
 refine⟨fun n hn=>?_,fun hn=>?_⟩
 ·refine akb _ _ _ _ _ k0 k1 k2 k3 n ?_;split at hn;·simp only[aH]at hn;omega
  ·split  at hn
   ·    split at hn;·rename_i h;have:=t1.1 h;simp only[aH]at hn;omega
        ·cases hn
   ·    split at hn
        ·split at hn;·rename_i h;have:=t2.1 h.1;simp only[aH]at hn;omega
         ·cases hn
        ·split at hn
         ·split at hn;·rename_i h;have:=t3.1 h.1;simp only[aH]at hn;omega
          ·cases hn
         ·cases hn
 ·have key:Lib.decodeN (r.length+1) c0 c1 c2 c3=(65533,1):=by
   refine akc _ _ _ _ _ k0 k1 k2 k3 ?_ ?_ ?_ ?_<;>intro h;·rw[if_pos h]at hn;cases hn
   ·rw[if_neg (by omega),if_pos (by omega),if_pos (t1.2 (by omega))]at hn;cases hn
   ·rw[if_neg (by omega),if_neg (by omega),if_pos (by omega),if_pos ⟨t2.2 (by omega),by omega,by omega⟩]at hn;cases hn
   ·rw[if_neg (by omega),if_neg (by omega),if_neg (by omega),if_pos (by omega),if_pos ⟨t3.2 (by omega),by omega,by omega⟩]at hn;cases hn
  rw[key];exact⟨rfl,rfl⟩
theorem Tz(k:Nat)(b:UInt8)(r:List UInt8):Lib.validGoD (k+1) (b::r)=match okU b.toNat r with
  |some n=>Lib.validGoD k (r.drop n)
  |none=>false:=by
 obtain⟨h1,h2⟩:=aij b r;have hd:Lib.validGoD (k+1) (b::r)=if(b::r:List UInt8)=[]then true else if(Lib.decodeL (b::r)).1=65533∧(Lib.decodeL (b::r)).2=1 then false else Lib.validGoD k ((b::r).drop (Lib.decodeL (b::r)).2):=rfl;rw[hd,if_neg (by simp)];cases e:okU b.toNat r with
 |none=>
  rw[if_pos (h2 e)]
 |some n=>
  obtain⟨h3,h4⟩:=h1 n e;rw[if_neg h3,h4,List.drop_succ_cons]
theorem Wy:∀k,Lib.validGoD k []=true
 |0=>rfl
 |k+1=>by unfold Lib.validGoD;rw[if_pos rfl]
theorem QH(m:Nat)(s:ByteArray)(i n:Nat)(hin:i+n<=s.size)(hs:s.size<4611686018427387904):∀(M k:Nat),k<=n->n-k<M->nN m M s (i:Int) (n:Int) (k:Int)=some (((s.data.toList.drop (i+k)).take (n-k)).all QG)
 |0,k,_,h=>by omega
 |M+    1,k,hk,h=>by
  simp only[nN,dlt];by_cases hlt:k<n
  ·have w1:IntKind.wrap IntKind.i64 ((i:Int)+(k:Int))=((i+k:Nat):Int):=by rw[wrap64 (by omega) (by omega)];omega
   rw[Tw s (i+k) (by omega),show n-k=(n-(k+1))+1 by omega,List.take_succ_cons,List.all_cons];simp only[hlt,decide_true,cond_true,rX,nM,rY,rZ,r9,sj,w1,pY (show i+k<s.size by omega),ah,bX (show k<9223372036854775807 by omega),QH m s i n hin hs M (k+1) (by omega) (by omega),QG];rw[show i+k+1=i+(k+1) by omega];generalize (s[i+k]).toNat=b;by_cases h1:b<128
   ·    have e1:decide ((b:Int)<128)=true:=by simp;omega
        have e2:decide (128<=b)=false:=by simp;omega
        simp only[e1,e2,cond_true,Bool.false_and]
   ·    have e1:decide ((b:Int)<128)=false:=by simp;omega
        have e2:decide (128<=b)=true:=by simp;omega
        by_cases h2:191<b
        ·have e3:decide ((191:Int)<(b:Int))=true:=by simp;omega
         have e4:decide (b<=191)=false:=by simp;omega
         simp only[e1,e2,e3,e4,cond_true,cond_false,Bool.true_and,Bool.false_and]
        ·have e3:decide ((191:Int)<(b:Int))=false:=by simp;omega
         have e4:decide (b<=191)=true:=by simp;omega
         simp only[e1,e2,e3,e4,cond_true,cond_false,Bool.true_and]
  ·have:k=n:=by omega
   subst this;simp[rX,nM,rY,rZ,r9,sj]
theorem akd(m:Nat)(hm:4<=m)(s:ByteArray)(hs:s.size<4611686018427387904)(i n:Nat)(hn:n<=3)(hi:i<=s.size):p8 (m+1) s (i:Int) (n:Int)=some (tlU n (s.data.toList.drop i)):=by
 have w1:IntKind.wrap IntKind.i64 ((i:Int)+(n:Int))=((i+n:Nat):Int):=by rw[wrap64 (by omega) (by omega)];omega
 have hl:(s.data.toList.drop i).length=s.size-i:=by rw[List.length_drop,IK]
 simp only[p8,w1,dlt,tlU,hl];by_cases h:s.size<i+n
 ·have e:decide (n<=s.size-i)=false:=by simp;omega
  simp only[h,e,decide_true,cond_true,Bool.false_and]
 ·have e:decide (n<=s.size-i)=true:=by simp;omega
  have:=QH m s i n (by omega) hs (m+1) 0 (by omega) (by omega);rw[Nat.add_zero,Nat.sub_zero]at this;simp only[h,e,decide_false,cond_false,Bool.true_and,rX,nM,rY,rZ,r9,sj];exact this
theorem ano(s:ByteArray)(i:Nat)(h:i<s.size):idxS s (i:Int)=some ((hdN (s.data.toList.drop i):Nat):Int):=by rw[pY h,Tw s i h];rfl
theorem bN(b k:Nat):(((b:Nat):Int)==((k:Nat):Int))=decide (b=k):=by rw[Bool.eq_iff_iff];simp;omega
def TA(b h:Nat):Bool:=(decide (b=224)&&decide (h<160))||(decide (b=237)&&decide (159<h))||(decide (b=240)&&decide (h<144))||(decide (b=244)&&decide (143<h))
theorem anp(m:Nat)(rec1:ByteArray->Int->Option Bool)(s:ByteArray)(hs:s.size<4611686018427387904)(i b n:Nat)(hn:n<=3)(hi:i<s.size)(hb:b<128∨i+1<s.size):xq m rec1 s (i:Int) (b:Int) (n:Int)=bif TA b (hdN (s.data.toList.drop (i+1)))then some false else rec1 s ((i+n+1:Nat):Int):=by
 have q1:(((b:Nat):Int)==224)=decide (b=224):=bN b 224;have q2:(((b:Nat):Int)==237)=decide (b=237):=bN b 237;have q3:(((b:Nat):Int)==240)=decide (b=240):=bN b 240;have q4:(((b:Nat):Int)==244)=decide (b=244):=bN b 244;have w0:IntKind.wrap IntKind.i64 ((IntKind.wrap IntKind.i64 ((i:Int)+(n:Int)))+1)=((i+n+1:Nat):Int):=by
  have wa:IntKind.wrap IntKind.i64 ((i:Int)+(n:Int))=((i+n:Nat):Int):=by rw[wrap64 (by omega) (by omega)];omega
  rw[wa,bX (by omega)]
 have w1:IntKind.wrap IntKind.i64 ((i:Int)+1)=((i+1:Nat):Int):=bX (by omega);simp only[xq,bQ,Cu,q1,q2,q3,q4,w0,w1,TA];by_cases hlt:i+1<s.size
 ·rw[ano s (i+1) hlt];generalize hdN (s.data.toList.drop (i+1))=h;have d1:decide (((h:Nat):Int)<160)=decide (h<160):=dlt (j:=160);have d2:decide ((159:Int)<((h:Nat):Int))=decide (159<h):=dlt (i:=159);have d3:decide (((h:Nat):Int)<144)=decide (h<144):=dlt (j:=144);have d4:decide ((143:Int)<((h:Nat):Int))=decide (143<h):=dlt (i:=143);simp only[ah,d1,d2,d3,d4];cases decide (b=224)<;>cases decide (b=237)<;>cases decide (b=240)<;>cases decide (b=244)<;>cases decide (h<160)<;>cases decide (159<h)<;>cases decide (h<144)<;>cases decide (143<h)<;>rfl
 ·have hb':b<128:=by omega
  have c1:decide (b=224)=false:=by simp;omega
  have c2:decide (b=237)=false:=by simp;omega
  have c3:decide (b=240)=false:=by simp;omega
  have c4:decide (b=244)=false:=by simp;omega
  simp only[c1,c2,c3,c4,cond_false,Bool.false_and,Bool.or_false]
theorem anq(m:Nat)(hm:4<=m)(rec1:ByteArray->Int->Option Bool)(s:ByteArray)(hs:s.size<4611686018427387904)(i b n:Nat)(hn:n<=3)(hi:i<s.size)(hb:b<128∨1<=n):kW (m+1) rec1 s (i:Int) (b:Int) (n:Int)=bif tlU n (s.data.toList.drop (i+1))then(bif TA b (hdN (s.data.toList.drop (i+1)))then some false else rec1 s ((i+n+1:Nat):Int))else some false:=by
 have w1:IntKind.wrap IntKind.i64 ((i:Int)+1)=((i+1:Nat):Int):=bX (by omega);simp only[kW,w1,akd m hm s hs (i+1) n hn (by omega),ah];cases ht:tlU n (s.data.toList.drop (i+1));·simp only[Bool.not_false,cond_true,cond_false]
 ·have h1:i+1+n<=s.size:=by unfold tlU at ht;have:=of_decide_eq_true (Bool.and_eq_true_iff.1 ht).1;rw[List.length_drop,IK]at this;omega
  simp only[Bool.not_true,cond_true,cond_false,anp (m+1) rec1 s hs i b n hn hi (by omega)]
theorem aik(m:Nat)(hm:4<=m)(rec1:ByteArray->Int->Option Bool)(s:ByteArray)(hs:s.size<4611686018427387904)(i:Nat)(hi:i<s.size):xu (m+1) rec1 s (i:Int)=match okU (s[i]).toNat (s.data.toList.drop (i+1))with
  |some n=>rec1 s ((i+n+1:Nat):Int)
  |none=>some false:=by
 have hlt:=(s[i]).toNat_lt;simp only[xu,pY hi,ah];generalize (s[i]).toNat=b at hlt;have t0:tlU 0 (s.data.toList.drop (i+1))=true:=by simp[tlU]
 have r:=anq m hm rec1 s hs i b;have r0:=fun h=>r 0 (by omega) hi h;have r1:=fun h=>r 1 (by omega) hi h;have r2:=fun h=>r 2 (by omega) hi h;have r3:=fun h=>r 3 (by omega) hi h;rw[t0]at r0;have d128:decide (((b:Nat):Int)<128)=decide (b<128):=dlt (j:=128);have d194:decide ((194:Int)<=((b:Nat):Int))=decide (194<=b):=dle (i:=194);have d223:decide (((b:Nat):Int)<=223)=decide (b<=223):=dle (j:=223);have d224:decide ((224:Int)<=((b:Nat):Int))=decide (224<=b):=dle (i:=224);have d239:decide (((b:Nat):Int)<=239)=decide (b<=239):=dle (j:=239);have d240:decide ((240:Int)<=((b:Nat):Int))=decide (240<=b):=dle (i:=240);have d244:decide (((b:Nat):Int)<=244)=decide (b<=244):=dle (j:=244);simp only[d128,d194,d223,d224,d239,d240,d244];unfold okU;by_cases h1:b<128
 ·have hr:=r0 (.inl h1);have hbad:TA b (hdN (s.data.toList.drop (i+1)))=false:=by simp only[TA,show decide (b=224)=false by simp;omega,show decide (b=237)=false by simp;omega,show decide (b=240)=false by simp;omega,show decide (b=244)=false by simp;omega,Bool.false_and,Bool.or_false]
  rw[if_pos h1];simp only[h1,decide_true,cond_true];rw[show (0:Int)=((0:Nat):Int)from rfl,hr,hbad];rfl
 rw[if_neg h1];simp only[h1,decide_false,cond_false,sF,sw,su,d224,d239,d240,d244];by_cases h2:194<=b∧b<=223
 ·have hr:=r1 (.inr (by omega));have hbad:TA b (hdN (s.data.toList.drop (i+1)))=false:=by simp only[TA,show decide (b=224)=false by simp;omega,show decide (b=237)=false by simp;omega,show decide (b=240)=false by simp;omega,show decide (b=244)=false by simp;omega,Bool.false_and,Bool.or_false]
  rw[if_pos h2];simp only[h2.1,h2.2,decide_true,cond_true];rw[show (1:Int)=((1:Nat):Int)from rfl,hr,hbad];cases tlU 1 (s.data.toList.drop (i+1))<;>rfl
 rw[if_neg h2];have e2:(bif decide (194<=b)then decide (b<=223)else false)=false:=by
  by_cases h:194<=b;·simp only[h,decide_true,cond_true];simp;omega
  ·simp[h]
 have k2:∀{X:Type}(f:Bool->X),(bif decide (194<=b)then f (decide (b<=223))else f false)=f false:=fun f=>by
  by_cases h:194<=b
  ·have:decide (b<=223)=false:=by simp;omega
   simp only[h,decide_true,cond_true,this]
  ·simp only[h,decide_false,cond_false]
 have k3:=fun{X:Type}(f:Bool->X)(h:¬(224<=b∧b<=239))=>show (bif decide (224<=b)then f (decide (b<=239))else f false)=f false by
  by_cases h':224<=b
  ·have:decide (b<=239)=false:=by simp;omega
   simp only[h',decide_true,cond_true,this]
  ·simp only[h',decide_false,cond_false]
 have k4:=fun{X:Type}(f:Bool->X)(h:¬(240<=b∧b<=244))=>show (bif decide (240<=b)then f (decide (b<=244))else f false)=f false by
  by_cases h':240<=b
  ·have:decide (b<=244)=false:=by simp;omega
   simp only[h',decide_true,cond_true,this]
  ·simp only[h',decide_false,cond_false]
 by_cases h3:224<=b∧b<=239
 ·have hr:=r2 (.inr (by omega));have hg:decide (194<=b)=true:=by simp;omega
  have hg2:decide (b<=223)=false:=by simp;omega
  rw[if_pos h3];simp only[hg,hg2,h3.1,h3.2,decide_true,cond_true,cond_false];rw[show (2:Int)=((2:Nat):Int)from rfl,hr];simp only[TA,show decide (b=240)=false by simp;omega,show decide (b=244)=false by simp;omega,Bool.false_and,Bool.or_false];generalize hdN (s.data.toList.drop (i+1))=h;cases tlU 2 (s.data.toList.drop (i+1));·rw[if_neg (by simp)];rfl
  ·by_cases hb1:b=224∧h<160
   ·    rw[if_neg (by simp;omega)];simp only[hb1.1,hb1.2,decide_true,Bool.true_and,Bool.true_or,cond_true]
   ·    by_cases hb2:b=237∧159<h
        ·rw[if_neg (by simp;omega)];simp only[hb2.1,hb2.2,decide_true,Bool.true_and,Bool.or_true,cond_true]
        ·rw[if_pos ⟨rfl,hb1,hb2⟩];have e1:(decide (b=224)&&decide (h<160))=false:=by rw[Bool.and_eq_false_iff];simp;omega
         have e3:(decide (b=237)&&decide (159<h))=false:=by rw[Bool.and_eq_false_iff];simp;omega
         simp only[e1,e3,Bool.or_false,cond_true,cond_false]
 rw[if_neg h3];by_cases h4:240<=b∧b<=244
 ·have hr:=r3 (.inr (by omega));have hg:decide (194<=b)=true:=by simp;omega
  have hg2:decide (b<=223)=false:=by simp;omega
  have hg3:decide (224<=b)=true:=by simp;omega
  have hg4:decide (b<=239)=false:=by simp;omega
  rw[if_pos h4];simp only[hg,hg2,hg3,hg4,h4.1,h4.2,decide_true,cond_true,cond_false];rw[show (3:Int)=((3:Nat):Int)from rfl,hr];simp only[TA,show decide (b=224)=false by simp;omega,show decide (b=237)=false by simp;omega,Bool.false_and,Bool.false_or];generalize hdN (s.data.toList.drop (i+1))=h;cases tlU 3 (s.data.toList.drop (i+1));·rw[if_neg (by simp)];rfl
  ·by_cases hb1:b=240∧h<144
   ·    rw[if_neg (by simp;omega)];simp only[hb1.1,hb1.2,decide_true,Bool.true_and,Bool.true_or,cond_true]
   ·    by_cases hb2:b=244∧143<h
        ·rw[if_neg (by simp;omega)];simp only[hb2.1,hb2.2,decide_true,Bool.true_and,Bool.or_true,cond_true]
        ·rw[if_pos ⟨rfl,hb1,hb2⟩];have e1:(decide (b=240)&&decide (h<144))=false:=by rw[Bool.and_eq_false_iff];simp;omega
         have e3:(decide (b=244)&&decide (143<h))=false:=by rw[Bool.and_eq_false_iff];simp;omega
         simp only[e1,e3,Bool.or_false,cond_true,cond_false]
 rw[if_neg h4];by_cases g1:194<=b<;>by_cases g2:224<=b<;>by_cases g3:240<=b;all_goals by_cases g4:b<=223<;>by_cases g5:b<=239<;>by_cases g6:b<=244
 all_goals first|(exfalso;omega)|(simp only[g1,g2,g3,g4,g5,g6,decide_true,decide_false,cond_true,cond_false])
theorem Wz(     m:Nat)(hm:4<=m)(s:ByteArray)(hs:s.size<4611686018427387904):∀(M i k:Nat),i<=s.size->s.size-i<M->s.size-i<=k->jy (m+1) M s (i:Int)=some (Lib.validGoD k (s.data.toList.drop i))
 |0,i,_,_,h,_=>by omega
 |M+    1,i,k,hi,h,hk=>by
  simp only[jy,dlt];by_cases hlt:i<s.size
  ·obtain⟨  k,rfl⟩:∃q,k=q+1:=⟨k-1,by omega⟩;simp only[hlt,decide_true,cond_true];rw[aik m hm _ s hs i hlt,Tw s i hlt,Tz];cases e:okU (s[i]).toNat (s.data.toList.drop (i+1))with
   |none=>rfl
   |    some n=>
        have hn:n<=(s.data.toList.drop (i+1)).length:=by
         unfold okU at e;split at e;·simp only[aH]at e;omega
         ·split at e
          · split at e;·rename_i h;have:=(tl1 _).1 h;simp only[aH]at e;omega
            ·cases e
          · split at e
            ·  split at e;·rename_i h;have:=(tl2 _).1 h.1;simp only[aH]at e;omega
               ·cases e
            ·  split at e
               ·split at e;·rename_i h;have:=(tl3 _).1 h.1;simp only[aH]at e;omega
                ·cases e
               ·cases e
        rw[List.length_drop,IK]at hn;show jy (m+1) M s ((i+n+1:Nat):Int)=_;rw[Wz m hm s hs M (i+n+1) k (by omega) (by omega) (by omega)];show _=some (Lib.validGoD k (List.drop n (List.drop (i+1) s.data.toList)));rw[List.drop_drop,show i+1+n=i+n+1 by omega]
  ·rw[List.drop_eq_nil_of_le (by rw[IK];omega),Wy];simp only[hlt,decide_false,cond_false];simp[zS]
theorem anr(m:Nat)(s:ByteArray)(hs:s.size<4611686018427387904)(hm:s.size+5<=m):p9 (m+1) s=some (Lib.validD s.data.toList):=by obtain⟨m,rfl⟩:∃q,m=q+1:=⟨m-1,by omega⟩;have:=Wz m (by omega) s hs (m+2) 0 s.size (by omega) (by omega) (by omega);rw[aQ]at this;unfold Lib.validD;rw[IK];exact this
def eqb(a b:ByteArray):Bool:=a.toList==b.toList
theorem TD(a b:ByteArray):eqb a b=true↔a=b:=by
 unfold eqb;rw[ByteArray.toList_eq,ByteArray.toList_eq,beq_iff_eq];refine⟨fun h=>?_,fun h=>by rw[h]⟩;cases a with|mk x=>cases b with|mk y=>
 have:x=y:=Array.ext' h;rw[this]
theorem NH(a b:ByteArray):eqb a b=eqb b a:=by rw[Bool.eq_iff_iff,TD,TD];exact eq_comm
theorem ant(a b:ByteArray):eqb a b=(a==b):=by rw[Bool.eq_iff_iff,TD,u6]
theorem WA(s t:ByteArray)(v:Dt):∀es:List Dt,mget (mput es s v) t=bif s==t then some v else mget es t
 | []=>by simp only[mput,mget];rfl
 | e::r=>by
   simp only[mput];cases h:(e.S 0)==s
   ·simp only[cond_false,mget,WA s t v r];cases h2:(e.S 0)==t;·rfl
    ·   have:(s==t)=false:=GX fun e1=>by subst e1;rw[h]at h2;cases h2
        rw[this];rfl
   ·have e1:=(u6 _ _).1 h;simp only[cond_true,mget,e1];show (bif s==t then some v else mget r t)=bif s==t then some v else(bif s==t then some (e.fld 1)else mget r t);cases (s==t)<;>rfl
def ail(mp:List Dt)(seen:List ByteArray):Prop:=∀s,(mgetD mp s (.bool false)).toBool=seen.any (eqb s)
theorem WB:ail [] []:=fun s=>rfl
theorem WC{mp:List Dt}{seen:List ByteArray}(h:ail mp seen)(s:ByteArray):ail (mput mp s (.bool true)) (seen++[s]):=fun t=>by
 have:=h t;unfold mgetD at this ⊢
 rw[WA,List.any_append,←this];simp only[List.any_cons,List.any_nil,Bool.or_false];rw[NH t s,ant];cases (s==t);·simp
 ·simp[Dt.toBool]
def WG(p:ByteArray->Bool):List ByteArray->List ByteArray->Bool
 |_,[]=>true
 |seen,s::r=>p s&&!(seen.any (eqb s))&&WG p (seen++[s]) r
end Go.Proofs.YtmecfjhdnbgfeaaGreatDoor
namespace Go.Proofs.YtmecfjhdnbgfeaaGreatDoor
open Go.Am Dt
def shp(d:Dt):Bool:=
 (I d 0==3||I d 0==9||I d 0==10||I d 1==0)&&(I d 0==4||I d 0==7||I d 0==8||(S d 2).toList==[])&&
 (I d 0==6||!(decide ((0:Int)<((L d 3).length:Int))))&&(I d 0==5||!(decide ((0:Int)<((L d 4).length:Int))))
def fl(p:ByteArray->Bool)(self:Dt->Bool):List ByteArray->List Dt->Bool
 |_,[]=>true
 |seen,f::r=>p (S f 0)&&!(seen.any (eqb (S f 0)))&&self (fld f 1)&&fl p self (seen++[S f 0]) r
def sndF(p:ByteArray->Bool):Nat->Dt->Bool
 |0,_=>false
 |  n+1,d=>shp d&&(bif I d 0==9 then(I d 1==0||I d 1==1)else bif I d 0==10 then decide ((0:Int)<=I d 1)else bif I d 0==4 then(decide (((S d 2).size:Int)<=4096)&&Lib.validD (S d 2).data.toList)else
    bif I d 0==7 then decide (((S d 2).size:Int)<=4096)else bif I d 0==8 then(((S d 2).size:Int)==12)else bif I d 0==6 then(L d 3).all (sndF p n)else bif I d 0==5 then fl p (sndF p n) [] (L d 4)else(decide (1<=I d 0)&&decide (I d 0<=11)))
theorem akW(k:Int):k=1∨k=2∨k=3∨k=4∨k=5∨k=6∨k=7∨k=8∨k=9∨k=10∨k=11∨(k<1∨11<k):=by omega
theorem kno{k:Int}(h:k<1∨11<k):(k==1)=false∧(k==2)=false∧(k==3)=false∧(k==4)=false∧(k==5)=false∧(k==6)=false∧(k==7)=false∧(k==8)=false∧(k==9)=false∧(k==10)=false∧(k==11)=false:=by refine⟨?_,?_,?_,?_,?_,?_,?_,?_,?_,?_,?_⟩<;>rw[beq_eq_false_iff_ne]<;>omega
theorem yK(m:Nat)(s:ByteArray)(hs:s.size<9223372036854775807):∀(M i:Nat),i<=s.size->s.size-i<M->fQ m M s (s.size:Int) (i:Int)=some ((s.data.toList.drop i).all okB)
 |0,i,_,h=>by omega
 |M+1,i,hi,h=>by
  simp only[fQ,dlt];by_cases hlt:i<s.size
  ·rw[Tw s i hlt];simp only[hlt,decide_true,cond_true,fP,fT,pY hlt,ah,bX (show i<9223372036854775807 by omega),yK m s hs M (i+1) (by omega) (by omega),List.all_cons,okB];cases decide (((s[i]).toNat:Int)<33)<;>cases decide ((126:Int)<((s[i]).toNat:Int))<;>cases (((s[i]).toNat:Int)==46)<;>rfl
  ·have:i=s.size:=by omega
   subst this;rw[List.drop_eq_nil_of_le (by rw[IK];omega)];simp[fP,fT]
theorem JQ(m:Nat)(hm:33<=m)(s:ByteArray):mW (m+1) s=some (nm s):=by
 simp only[mW];by_cases h1:s.size<1
 ·have:decide ((s.size:Int)<1)=true:=by simp;omega
  simp only[this,cond_true,fP,fT,NG s h1]
 have e1:decide ((s.size:Int)<1)=false:=by simp;omega
 by_cases h2:32<s.size
 ·have:decide ((32:Int)<(s.size:Int))=true:=by simp;omega
  simp only[e1,this,cond_true,cond_false,fP,fT,Kq s h2]
 have e2:decide ((32:Int)<(s.size:Int))=false:=by simp;omega
 have hx:=pY (s:=s) (i:=0) (by omega);have hl:=yK m s (by omega) (m+1) 0 (by omega) (by omega);rw[aQ]at hl;have hl':fQ m (Nat.succ m) s (s.size:Int) 0=some (s.data.toList.all okB):=hl;simp only[e1,e2,cond_false,show idxS s 0=_ from hx,ah,fP,fT,hl',ND s (by omega) (by omega)];cases (((s[0]).toNat:Int)==36)<;>rfl
def okW(c:UInt8):Bool:=!(decide ((c.toNat:Int)<32)||decide ((126:Int)<c.toNat))
def wd(s:ByteArray):Bool:=decide (1<=s.size)&&decide (s.size<=128)&&s.data.toList.all okW
theorem QI(m:Nat)(s:ByteArray)(hs:s.size<9223372036854775807):∀(M i:Nat),i<=s.size->s.size-i<M->jB m M s (i:Int)=some ((s.data.toList.drop i).all okW)
 |0,i,_,h=>by omega
 |M+1,i,hi,h=>by
  simp only[jB,dlt];by_cases hlt:i<s.size
  ·rw[Tw s i hlt];simp only[hlt,decide_true,cond_true,jA,jC,pY hlt,ah,bX (show i<9223372036854775807 by omega),QI m s hs M (i+1) (by omega) (by omega),List.all_cons,okW];cases decide (((s[i]).toNat:Int)<32)<;>cases decide ((126:Int)<((s[i]).toNat:Int))<;>rfl
  ·have:i=s.size:=by omega
   subst this;rw[List.drop_eq_nil_of_le (by rw[IK];omega)];simp[jA,jC]
theorem ake(m:Nat)(hm:129<=m)(s:ByteArray):mQ (m+1) s=some (wd s):=by
 simp only[mQ,wd];by_cases h1:s.size<1
 ·have:decide ((s.size:Int)<1)=true:=by simp;omega
  have e:decide (1<=s.size)=false:=decide_eq_false (by omega);simp only[this,cond_true,jA,jC,e,Bool.false_and]
 have e1:decide ((s.size:Int)<1)=false:=by simp;omega
 have f1:decide (1<=s.size)=true:=by simp;omega
 by_cases h2:128<s.size
 ·have:decide ((128:Int)<(s.size:Int))=true:=by simp;omega
  have e:decide (s.size<=128)=false:=by simp;omega
  simp only[e1,f1,this,cond_true,cond_false,jA,jC,e,Bool.false_and,Bool.and_false]
 have e2:decide ((128:Int)<(s.size:Int))=false:=by simp;omega
 have f2:decide (s.size<=128)=true:=by simp;omega
 have hl:=QI m s (by omega) (m+1) 0 (by omega) (by omega);rw[aQ]at hl;have hl':jB m (Nat.succ m) s 0=some (s.data.toList.all okW):=hl;simp only[e1,e2,f1,f2,cond_false,jA,jC,hl',Bool.true_and]
theorem abp(m:Nat)(hm:34<=m)(self:Dt->Option Bool)(g:Dt->Bool)(L:List Dt)(hl:L.length<9223372036854775807)(hs:∀f∈L,self (fld f 1)=some (g (fld f 1))):∀(M i:Nat)(mp:List Dt),i<=L.length->L.length-i<M->ail mp ((L.take i).map fun f=>S f 0)->
  eB m self M L (L.length:Int) (i:Int) mp=some (fl nm g ((L.take i).map fun f=>S f 0) (L.drop i))
 |0,i,_,_,h,_=>by omega
 |M+    1,i,mp,hi,h,hmp=>by
  obtain⟨m,rfl⟩:∃q,m=q+1:=⟨m-1,by omega⟩;simp only[eB,dlt];by_cases hlt:i<L.length
  ·have hr:=hs _ (aF hlt);have hp:=hmp (S L[i] 0);have hmp':=WC hmp (S L[i] 0);have et:(L.take (i+1)).map (fun f=>S f 0)=((L.take i).map fun f=>S f 0)++[S L[i] 0]:=by rw[List.take_succ_eq_append_getElem hlt,List.map_append];rfl
   rw[←et]at hmp';have ih:=abp (m+1) hm self g L hl hs M (i+1) _ (by omega) (by omega) hmp';rw[aG hlt,fl,←et];simp only[hlt,decide_true,cond_true,eZ,bI hlt,ah,hr,hp,JQ m (by omega),bX (show i<9223372036854775807 by omega),ih];cases nm (S L[i] 0)<;>cases ((L.take i).map fun f=>S f 0).any (eqb (S L[i] 0))<;>cases g (fld L[i] 1)<;>rfl
  ·have:i=L.length:=by omega
   subst this;simp[eZ,fl]
theorem abq(m:Nat)(self:Dt->Option Bool)(self2:List Dt->Option Bool)(g:Dt->Bool)(L:List Dt)(hl:L.length<9223372036854775807)(hs:∀e∈L,self e=some (g e)):∀(M i:Nat),i<=L.length->L.length-i<M->
  l8 m self self2 M L (L.length:Int) (i:Int)=some ((L.drop i).all g)
 |0,i,_,h=>by omega
 |M+1,i,hi,h=>by
  simp only[l8,dlt];by_cases hlt:i<L.length
  ·have hr:=hs _ (aF hlt);have ih:=abq m self self2 g L hl hs M (i+1) (by omega) (by omega);rw[aG hlt,List.all_cons];simp only[hlt,decide_true,cond_true,qF,fK,l9,gI,mh,gJ,gK,gL,bI hlt,ah,hr,bX (show i<9223372036854775807 by omega),ih];cases g L[i]<;>rfl
  ·have:i=L.length:=by omega
   subst this;simp[qF,fK,l9,gI,mh,gJ,gK,gL]
theorem anu(m:Nat)(d:Dt):bM (m+1) d=bif shp d then fK m (bM m) (bK m) (I d 0) (I d 0==1||I d 0==2||I d 0==11||I d 0==3) d else some false:=by
 have e5:∀s1 s2,l9 m s1 s2 d=fK m s1 s2 (I d 0) (I d 0==1||I d 0==2||I d 0==11||I d 0==3) d:=fun s1 s2=>by simp only[l9];cases (I d 0==1)<;>cases (I d 0==2)<;>cases (I d 0==11)<;>rfl
 have e3:∀s1 s2,mh m s1 s2 d=bif (I d 0==6||!(decide ((0:Int)<((L d 3).length:Int))))&&(I d 0==5||!(decide ((0:Int)<((L d 4).length:Int))))then l9 m s1 s2 d else some false:=fun s1 s2=>by simp only[mh,gI,bne];cases (I d 0==6)<;>cases (I d 0==5)<;>cases decide ((0:Int)<((L d 3).length:Int))<;>cases decide ((0:Int)<((L d 4).length:Int))<;>rfl
 have e1:∀s1 s2 x0 x1,gK m s1 s2 x0 x1 d=bif (x0||I d 1==0)&&(x1||(S d 2).toList==[])then mh m s1 s2 d else some false:=fun s1 s2 x0 x1=>by simp only[gK,gJ,bne];cases x0<;>cases x1<;>cases (I d 1==0)<;>cases ((S d 2).toList==[])<;>rfl
 have e0:∀s1 s2 x0,gL m s1 s2 x0 d=gK m s1 s2 x0 (I d 0==4||I d 0==7||I d 0==8) d:=fun s1 s2 x0=>by simp only[gL];cases (I d 0==4)<;>cases (I d 0==7)<;>rfl
 have e:bM (m+1) d=gL m (bM m) (bK m) (I d 0==3||I d 0==9||I d 0==10) d:=by simp only[bM];cases (I d 0==3)<;>cases (I d 0==9)<;>rfl
 rw[e,e0,e1,e3,e5];unfold shp;cases (I d 0==3||I d 0==9||I d 0==10||I d 1==0)<;>cases (I d 0==4||I d 0==7||I d 0==8||(S d 2).toList==[])<;>cases (I d 0==6||!(decide ((0:Int)<((L d 3).length:Int))))<;>cases (I d 0==5||!(decide ((0:Int)<((L d 4).length:Int))))<;>rfl
theorem QJ:∀(N:Nat)(d:Dt),d.bulk<=N->N<=137438953472->WV d->∀m,2*N+40<=m->bM (m+1) d=some (sndF nm N d)
 |0,d,h,_,_,_,_=>by have:=iR d;omega
 |N+1,d,h,hN,hw,m,hm=>by
  obtain⟨m,rfl⟩:∃q,m=q+2:=⟨m-2,by omega⟩;obtain⟨p1,p2,p3,p4⟩:=Bn hw;have ih:∀e:Dt,WV e->e.bulk<=N->∀q,2*N+40<=q->bM (q+1) e=some (sndF nm N e):=fun e hwe hbe q hq=>QJ N e hbe (by omega) hwe q hq;have k1:=abq (m+2) (bM (m+2)) (bK (m+2)) (sndF nm N) (L d 3) (by omega) (fun e he=>ih e (p3 e he).1 (by have:=(p3 e he).2;omega) (m+1) (by omega)) (m+3) 0 (aI _) (by omega);have k2:=abp (m+1) (by omega) (bM (m+1)) (sndF nm N) (L d 4) (by omega) (fun f hf=>ih _ (p4 f hf).1 (by have:=(p4 f hf).2;omega) m (by omega)) (m+2) 0 [] (aI _) (by omega) WB;rw[aQ]at k1 k2;have k1':l8 (m+2) (bM (m+2)) (bK (m+2)) (Nat.succ (m+2)) (L d 3) ((L d 3).length:Int) 0=some ((L d 3).all (sndF nm N)):=k1;have k2':bK (m+2) (L d 4)=some (fl nm (sndF nm N) [] (L d 4)):=by simp only[bK,eZ];exact k2
  rw[anu];have hj:qF (m+2) (bM (m+2)) (bK (m+2)) (L d 3) ((L d 3).length:Int) 0=some ((L d 3).all (sndF nm N)):=k1';simp only[fK,hj,k2',ah,utf8_ValidString,sndF];cases shp d;·rfl
  simp only[cond_true,Bool.true_and];generalize (L d 3).all (sndF nm N)=a1;generalize fl nm (sndF nm N) [] (L d 4)=a2;generalize Lib.validD (S d 2).data.toList=a3;generalize I d 0=k;generalize ((S d 2).size:Int)=sz;generalize I d 1=n;rcases akW k with rfl|rfl|rfl|rfl|rfl|rfl|rfl|rfl|rfl|rfl|rfl|hk
  case inr.inr.inr.inr.inr.inr.inr.inr.inr.inr.inr=>
   obtain⟨q1,q2,q3,q4,q5,q6,q7,q8,q9,q10,q11⟩:=kno hk;simp only[q1,q2,q3,q4,q5,q6,q7,q8,q9,q10,q11,Bool.or_self,cond_false];have:(decide (1<=k)&&decide (k<=11))=false:=by rw[Bool.and_eq_false_iff];simp;omega
   rw[this]
  all_goals first|rfl|(cases (n==0)<;>rfl)|(show (bif decide (sz<=4096)then some a3 else some false)=some (decide (sz<=4096)&&a3);cases decide (sz<=4096)<;>rfl)
def nmP(names:Bool)(s:ByteArray):Bool:=bif names then nm s else wd s
theorem akX(m:Nat)(self:Dt->Bool->Option Bool)(names:Bool)(rec1:Bool->Int->Dt->Option Bool)(d f:Dt)(i:Nat)(hi:i<(L d 4).length)(hl:(L d 4).length<9223372036854775807):∀(M k:Nat),k<=i->i-k<M->
  j5 m self rec1 M names (i:Int) (k:Int) d f=bif ((((L d 4).take i).drop k).map fun e=>S e 0).any (eqb (S f 0))then some false else rec1 names ((i+1:Nat):Int) d
 |0,k,_,h=>by omega
 |M+1,k,hk,h=>by
  simp only[j5,dlt];by_cases hlt:k<i
  ·have hk2:k<((L d 4).take i).length:=by rw[List.length_take];omega
   have ih:=akX m self names rec1 d f i hi hl M (k+1) (by omega) (by omega);rw[aG hk2,List.map_cons,List.any_cons,List.getElem_take];simp only[hlt,decide_true,cond_true,dW,bI (show k<(L d 4).length by omega),ah,bX (show k<9223372036854775807 by omega),ih];rw[NH (S f 0)];unfold eqb;cases ((S (L d 4)[k] 0).toList==(S f 0).toList)<;>rfl
  ·have:k=i:=by omega
   subst this;rw[List.drop_eq_nil_of_le (by rw[List.length_take];omega)];simp only[hlt,decide_false,cond_false,dW,bX (show k<9223372036854775807 by omega)];rfl
theorem abr(m:Nat)(hm:140<=m)(self:Dt->Bool->Option Bool)(g:Dt->Bool)(names:Bool)(d:Dt)(hl:(L d 4).length<m)(hl2:m<9223372036854775807)(hs:∀f∈L d 4,self (fld f 1) names=some (g (fld f 1))):∀(M i:Nat),i<=(L d 4).length->(L d 4).length-i<M->
  dH m self M names (i:Int) d=some (fl (nmP names) g (((L d 4).take i).map fun f=>S f 0) ((L d 4).drop i))
 |0,i,_,h=>by omega
 |M+    1,i,hi,h=>by
  obtain⟨m,rfl⟩:∃q,m=q+1:=⟨m-1,by omega⟩;simp only[dH,dlt];by_cases hlt:i<(L d 4).length
  ·have hr:=hs _ (aF hlt);have et:((L d 4).take (i+1)).map (fun f=>S f 0)=(((L d 4).take i).map fun f=>S f 0)++[S (L d 4)[i] 0]:=by rw[List.take_succ_eq_append_getElem hlt,List.map_append];rfl
   have ih:=abr (m+1) hm self g names d hl hl2 hs M (i+1) (by omega) (by omega);have hin:=akX (m+1) self names (dH (m+1) self M) d (L d 4)[i] i hlt (by omega) (m+2) 0 (by omega) (by omega);rw[aQ,ih]at hin;have hin':j5 (m+1) self (dH (m+1) self M) (Nat.succ (m+1)) names (i:Int) 0 d (L d 4)[i]=_:=hin;rw[aG hlt,fl,←et];simp only[hlt,decide_true,cond_true,dW,bI hlt,ah,Kr m (by omega),ake m (by omega),hr,hin',nmP];cases names<;>cases nm (S (L d 4)[i] 0)<;>cases wd (S (L d 4)[i] 0)<;>cases (((L d 4).take i).map fun f=>S f 0).any (eqb (S (L d 4)[i] 0))<;>cases g (fld (L d 4)[i] 1)<;>rfl
  ·have:i=(L d 4).length:=by omega
   subst this;simp[dW,fl]
theorem WH(m:Nat)(self self2:Dt->Bool->Option Bool)(g:Dt->Bool)(names:Bool)(d:Dt)(hl:(L d 3).length<9223372036854775807)(hs:∀e∈L d 3,self e names=some (g e))(r:Bool)(hr:self2 d names=some r):∀(M i:Nat),i<=(L d 3).length->(L d 3).length-i<M->
  ni m self self2 M names (i:Int) d=some (((L d 3).drop i).all g&&r)
 |0,i,_,h=>by omega
 |M+1,i,hi,h=>by
  simp only[ni,dlt];by_cases hlt:i<(L d 3).length
  ·have hr2:=hs _ (aF hlt);have ih:=WH m self self2 g names d hl hs r hr M (i+1) (by omega) (by omega);rw[aG hlt,List.all_cons];simp only[hlt,decide_true,cond_true,bI hlt,ah,hr2,bX (show i<9223372036854775807 by omega),ih];cases g (L d 3)[i]<;>rfl
  ·have:i=(L d 3).length:=by omega
   subst this;simp[hr]
theorem anv(m:Nat)(d:Dt)(names:Bool):bF (m+1) d names=bif shp d&&(decide (1<=I d 0)&&decide (I d 0<=11))then pV m (bF m) (dz m) names d else some false:=by
 have e3:∀s1 s2 x1 x2,iZ m s1 s2 names x1 x2 d=bif (x1||(S d 2).toList==[])&&(x2||I d 1==0)&&(!(decide (I d 0<1))&&!(decide (11<I d 0)))then pV m s1 s2 names d else some false:=fun s1 s2 x1 x2=>by simp only[iZ,dL,bne];cases x1<;>cases x2<;>cases (I d 1==0)<;>cases ((S d 2).toList==[])<;>cases decide (I d 0<1)<;>cases decide (11<I d 0)<;>rfl
 have e2:∀s1 s2 x1,jc m s1 s2 names x1 d=iZ m s1 s2 names x1 (I d 0==3||I d 0==9||I d 0==10) d:=fun s1 s2 x1=>by simp only[jc];cases (I d 0==3)<;>cases (I d 0==9)<;>rfl
 have e1:∀s1 s2,pW m s1 s2 names d=jc m s1 s2 names (I d 0==4||I d 0==7||I d 0==8) d:=fun s1 s2=>by simp only[pW];cases (I d 0==4)<;>cases (I d 0==7)<;>rfl
 have e:bF (m+1) d names=bif (I d 0==6||!(decide ((0:Int)<((L d 3).length:Int))))&&(I d 0==5||!(decide ((0:Int)<((L d 4).length:Int))))then pW m (bF m) (dz m) names d else some false:=by simp only[bF,jd,bne];cases (I d 0==6)<;>cases (I d 0==5)<;>cases decide ((0:Int)<((L d 3).length:Int))<;>cases decide ((0:Int)<((L d 4).length:Int))<;>rfl
 have d1:(!(decide (I d 0<1)))=decide (1<=I d 0):=by rw[Bool.eq_iff_iff];simp
 have d2:(!(decide (11<I d 0)))=decide (I d 0<=11):=by rw[Bool.eq_iff_iff];simp
 rw[e,e1,e2,e3,d1,d2];unfold shp;cases (I d 0==3||I d 0==9||I d 0==10||I d 1==0)<;>cases (I d 0==4||I d 0==7||I d 0==8||(S d 2).toList==[])<;>cases (I d 0==6||!(decide ((0:Int)<((L d 3).length:Int))))<;>cases (I d 0==5||!(decide ((0:Int)<((L d 4).length:Int))))<;>rfl
theorem ap7{l:List Dt}(h:(!(decide ((0:Int)<(l.length:Int))))=true):l=[]:=by
 refine List.eq_nil_of_length_eq_zero ?_;have:decide ((0:Int)<(l.length:Int))=false:=by simpa using h
 have:=of_decide_eq_false this;omega
theorem NI(names:Bool):∀(N:Nat)(d:Dt),d.bulk<=N->N<=100000000000->WV d->∀m,2*N+200<=m->m<9223372036854775807->bF (m+1) d names=some (sndF (nmP names) N d)
 |0,d,h,_,_,_,_,_=>by have:=iR d;omega
 |N+1,d,h,hN,hw,m,hm,hm2=>by
  obtain⟨m,rfl⟩:∃q,m=q+2:=⟨m-2,by omega⟩;obtain⟨p1,p2,p3,p4⟩:=Bn hw;have ih:∀e:Dt,WV e->e.bulk<=N->∀q,2*N+200<=q->q<9223372036854775807->bF (q+1) e names=some (sndF (nmP names) N e):=fun e hwe hbe q hq hq2=>NI names N e hbe (by omega) hwe q hq hq2;have k2:=abr (m+1) (by omega) (bF (m+1)) (sndF (nmP names) N) names d (by omega) (by omega) (fun f hf=>ih _ (p4 f hf).1 (by have:=(p4 f hf).2;omega) m (by omega) (by omega)) (m+2) 0 (aI _) (by omega);rw[aQ]at k2;have k2':dz (m+2) d names=some (fl (nmP names) (sndF (nmP names) N) [] (L d 4)):=by simp only[dz];exact k2
  have k1:=WH (m+2) (bF (m+2)) (dz (m+2)) (sndF (nmP names) N) names d (by omega) (fun e he=>ih e (p3 e he).1 (by have:=(p3 e he).2;omega) (m+1) (by omega) (by omega)) _ k2' (m+3) 0 (aI _) (by omega);rw[aQ]at k1;have k1':zf (m+2) (bF (m+2)) (dz (m+2)) names d=some ((L d 3).all (sndF (nmP names) N)&&fl (nmP names) (sndF (nmP names) N) [] (L d 4)):=k1;rw[anv];have hsz:(S d 2).size<=d.bulk:=by
   cases hw with
   | @mk k i t l ds hl hd=>rw[nK];show t.size<=_;omega
  have hu:p9 (m+2) (S d 2)=some (Lib.validD (S d 2).data.toList):=anr (m+1) _ (by omega) (by omega);simp only[pV,k1',hu,ah,sndF];cases hsh:shp d;·simp only[Bool.false_and,cond_false]
  have hsp:=hsh;unfold shp at hsp;have s6:(I d 0==6||!(decide ((0:Int)<((L d 3).length:Int))))=true:=by rw[Bool.and_eq_true_iff,Bool.and_eq_true_iff]at hsp;exact hsp.1.2
  have s5:(I d 0==5||!(decide ((0:Int)<((L d 4).length:Int))))=true:=by rw[Bool.and_eq_true_iff]at hsp;exact hsp.2
  have n3:I d 0≠6->L d 3=[]:=fun hne=>by
   rcases Bool.or_eq_true_iff.1 s6 with h|h;·exact absurd (by simpa using h) hne
   ·exact ap7 h
  have n4:I d 0≠5->L d 4=[]:=fun hne=>by
   rcases Bool.or_eq_true_iff.1 s5 with h|h;·exact absurd (by simpa using h) hne
   ·exact ap7 h
  simp only[Bool.true_and];generalize L d 3=l3 at*
  generalize L d 4=l4 at*
  generalize Lib.validD (S d 2).data.toList=a3;generalize I d 0=k at*
  generalize ((S d 2).size:Int)=sz;generalize I d 1=n;rcases akW k with rfl|rfl|rfl|rfl|rfl|rfl|rfl|rfl|rfl|rfl|rfl|hk
  case inr.inr.inr.inr.inr.inr.inr.inr.inr.inr.inr=>
   obtain⟨q1,q2,q3,q4,q5,q6,q7,q8,q9,q10,q11⟩:=kno hk;have:(decide (1<=k)&&decide (k<=11))=false:=by rw[Bool.and_eq_false_iff];simp;omega
   simp only[q1,q2,q3,q4,q5,q6,q7,q8,q9,q10,q11,this,cond_false]
  all_goals first
   |(have e3:=n3 (by decide);have e4:=n4 (by decide);subst e3 e4;rfl)
   |(have e4:=n4 (by decide);subst e4;show some (l3.all (sndF (nmP names) N)&&true)=some (l3.all (sndF (nmP names) N));rw[Bool.and_true])
   |(have e3:=n3 (by decide);subst e3;rfl)
   |(cases (n==0)<;>rfl)
   |(show (bif decide (sz<=4096)then some a3 else some false)=some (decide (sz<=4096)&&a3);cases decide (sz<=4096)<;>rfl)
def mx(f:Dt->Nat):List Dt->Nat
 | []=>0
 |e::r=>max (f e) (mx f r)
theorem NJ{f g:Dt->Nat}:∀{L:List Dt},(∀e∈L,f e=g e)->mx f L=mx g L
 | [],_=>rfl
 |e::r,h=>by simp only[mx,h e (bA ..),NJ fun x hx=>h x (bD _ hx)]
theorem ain(f:Dt->Nat)(k:Dt->Dt):∀L:List Dt,mx f (L.map k)=mx (fun x=>f (k x)) L
 | []=>rfl
 |e::r=>by simp only[List.map_cons,mx,ain f k r]
theorem TF(f:Dt->Nat){L:List Dt}{i:Nat}(h:i<L.length):mx f (L.drop i)=max (f L[i]) (mx f (L.drop (i+1))):=by rw[aG h];rfl
def acV:Nat->Dt->Nat
 |0,_=>1
 |n+1,d=>1+mx (acV n) (rV d)
theorem QK:∀(n n':Nat)(d:Dt),WV d->d.bulk<=n->d.bulk<=n'->acV n d=acV n' d
 |0,_,d,_,h,_=>by have:=iR d;omega
 |_+1,0,d,_,_,h=>by have:=iR d;omega
 |n+1,n'+1,d,hw,h,h'=>by simp only[acV];congr 1;refine NJ fun e he=>?_;have:=BN hw e he;exact QK n n' e this.1 (by omega) (by omega)
def dpt(d:Dt):Nat:=acV d.bulk d
theorem YW{d:Dt}(hw:WV d):dpt d=1+mx dpt (rV d):=by obtain⟨k,hk⟩:∃k,d.bulk=k+1:=⟨d.bulk-1,by have:=iR d;omega⟩;unfold dpt;rw[hk];simp only[acV];congr 1;refine NJ fun e he=>?_;have:=BN hw e he;exact QK _ _ e this.1 (by omega) (aj _)
theorem abt(a b:Nat):(bif decide ((a:Int)<(b:Int))then(b:Int)else(a:Int))=((max a b:Nat):Int):=by
 rw[dlt];by_cases h:a<b;·simp only[h,decide_true,cond_true];omega
 ·simp only[h,decide_false,cond_false];omega
theorem WI(m:Nat)(self:Dt->Int->Option Int)(L:List Dt)(hl:L.length<9223372036854775807)(most:Nat)(h2:2<=most)(h3:most<1000000)(hs:∀e∈L,self e ((most-1:Nat):Int)=some ((min (dpt e) (most-1):Nat):Int)):∀(M i best:Nat),i<=L.length->L.length-i<M->best<=most->
  j4 m self M (most:Int) L (best:Int) (i:Int)=some ((max best (min (mx dpt (L.drop i)) (most-1))+1:Nat):Int)
 |0,i,_,_,h,_=>by omega
 |M+1,i,best,hi,h,hb=>by
  simp only[j4,dlt];by_cases hlt:i<L.length
  ·have hr:=hs _ (aF hlt);have hw:IntKind.wrap IntKind.i64 ((most:Int)-1)=((most-1:Nat):Int):=by rw[wrap64 (by omega) (by omega)];omega
   simp only[hlt,decide_true,cond_true,gV,bI hlt,ah,hw,hr,abt,bX (show i<9223372036854775807 by omega),WI m self L hl most h2 h3 hs M (i+1) (max best (min (dpt L[i]) (most-1))) (by omega) (by omega) (by omega),TF dpt hlt];congr 2;omega
  ·rw[List.drop_eq_nil_of_le (by omega)];simp only[hlt,decide_false,cond_false,gV,mx];rw[wrap64 (by omega) (by omega)];congr 1;omega
theorem QL:∀(N:Nat)(d:Dt),d.bulk<=N->N<=137438953472->WV d->∀m,N<=m->∀most:Nat,1<=most->most<1000000->eO (m+2) d (most:Int)=some ((min (dpt d) most:Nat):Int)
 |0,d,h,_,_,_,_,_,_,_=>by have:=iR d;omega
 |N+    1,d,h,hN,hw,m,hm,most,h1,h3=>by
  obtain⟨m,rfl⟩:∃q,m=q+1:=⟨m-1,by omega⟩;rw[eO,parts_eq d hw (m+1) (by omega) (by omega),ah];have hd:=YW hw;by_cases h2:most<2
  ·have:decide ((most:Int)<2)=true:=by simp;omega
   simp only[this,cond_true,gV];congr 1;omega
  ·have e2:decide ((most:Int)<2)=false:=by rw[decide_eq_false_iff_not];omega
   by_cases h0:(rV d).length=0
   ·    have e0:((((rV d).length:Nat):Int)==0)=true:=by simp;exact List.length_eq_zero_iff.1 h0
        rw[List.length_eq_zero_iff.1 h0]at hd;simp only[mx]at hd;simp only[e2,cond_false,e0,cond_true,gV];congr 1;omega
   ·    have e0:((((rV d).length:Nat):Int)==0)=false:=by rw[beq_eq_false_iff_ne];omega
        have hlen:=Ww hw;have:=WI (m+2) (eO (m+2)) (rV d) (by omega) most (by omega) h3 (fun e he=>by obtain⟨hwe,hbe⟩:=BN hw e he;exact QL N e (by omega) (by omega) hwe m (by omega) (most-1) (by omega) (by omega)) (m+3) 0 0 (aI _) (by omega) (by omega)
        rw[aQ]at this;have h':j4 (m+2) (eO (m+2)) (Nat.succ (m+2)) (most:Int) (rV d) 0 0=_:=this;have e9:max 0 (min (mx dpt (rV d)) (most-1))+1=min (dpt d) most:=by omega
        simp only[e2,cond_false,e0,gV,h',e9]
theorem acW{d:Dt}(hw:WV d)(hb:d.bulk<=137438953472)(m:Nat)(hm:d.bulk<=m):mH (m+3) d=some ((min (dpt d) 17:Nat):Int):=by simp only[mH];rw[show ((17:Int))=((17:Nat):Int)from rfl,QL d.bulk d (aj _) hb hw m hm 17 (by omega) (by omega)];rfl
theorem abu(m:Nat)(self:Dt->Int->Int->Option (Bool×Int×Int))(L:List Dt)(hl:L.length<9223372036854775807)(most:Nat)(hs:∀e∈L,∀k:Nat,k<most-1->self e (k:Int) (most:Int)=some (decide (((max k (min (dpt e) (most-1)):Nat):Int)<((most-1:Nat):Int)),((max k (min (dpt e) (most-1)):Nat):Int),(most:Int))):∀(M i acc:Nat),i<=L.length->L.length-i<M->acc<most-1->
  F7 m self M L (L.length:Int) (i:Int) (acc:Int) (most:Int)=some (((max acc (min (mx dpt (L.drop i)) (most-1)):Nat):Int),(most:Int))
 |0,i,_,_,h,_=>by omega
 |M+    1,i,acc,hi,h,ha=>by
  simp only[F7,dlt];by_cases hlt:i<L.length
  ·have hr:=hs _ (aF hlt) acc ha;simp only[hlt,decide_true,cond_true,bI hlt,ah,hr,dlt,bX (show i<9223372036854775807 by omega),TF dpt hlt];by_cases hm:max acc (min (dpt L[i]) (most-1))<most-1
   ·    simp only[hm,decide_true,Bool.not_true,cond_false,abu m self L hl most hs M (i+1) (max acc (min (dpt L[i]) (most-1))) (by omega) (by omega) hm];congr 3;omega
   ·    simp only[hm,decide_false,Bool.not_false,cond_true];congr 3;omega
  ·rw[List.drop_eq_nil_of_le (by omega)];simp only[hlt,decide_false,cond_false,mx];congr 3;omega
theorem abv(m:Nat)(self:Dt->Int->Int->Option (Bool×Int×Int))(L:List Dt)(hl:L.length<9223372036854775807)(most:Nat)(hs:∀e∈L,∀k:Nat,k<most-1->self (fld e 1) (k:Int) (most:Int)=some (decide (((max k (min (dpt (fld e 1)) (most-1)):Nat):Int)<((most-1:Nat):Int)),((max k (min (dpt (fld e 1)) (most-1)):Nat):Int),(most:Int))):∀(M i acc:Nat),i<=L.length->L.length-i<M->acc<most-1->
  F8 m self M L (L.length:Int) (i:Int) (acc:Int) (most:Int)=some (((max acc (min (mx (fun f=>dpt (fld f 1)) (L.drop i)) (most-1)):Nat):Int),(most:Int))
 |0,i,_,_,h,_=>by omega
 |M+    1,i,acc,hi,h,ha=>by
  simp only[F8,dlt];by_cases hlt:i<L.length
  ·have hr:=hs _ (aF hlt) acc ha;simp only[hlt,decide_true,cond_true,bI hlt,ah,hr,dlt,bX (show i<9223372036854775807 by omega),TF (fun f=>dpt (fld f 1)) hlt];by_cases hm:max acc (min (dpt (fld L[i] 1)) (most-1))<most-1
   ·    simp only[hm,decide_true,Bool.not_true,cond_false,abv m self L hl most hs M (i+1) (max acc (min (dpt (fld L[i] 1)) (most-1))) (by omega) (by omega) hm];congr 3;omega
   ·    simp only[hm,decide_false,Bool.not_false,cond_true];congr 3;omega
  ·rw[List.drop_eq_nil_of_le (by omega)];simp only[hlt,decide_false,cond_false,mx];congr 3;omega
theorem QM:∀(N:Nat)(d:Dt),d.bulk<=N->N<=137438953472->WV d->∀m,3*N<=m->∀most:Nat,1<=most->most<1000000->kG (m+1) d (most:Int)=some ((min (dpt d) most:Nat):Int)
 |0,d,h,_,_,_,_,_,_,_=>by have:=iR d;omega
 |N+    1,d,h,hN,hw,m,hm,most,h1,h2=>by
  obtain⟨m,rfl⟩:∃q,m=q+3:=⟨m-3,by omega⟩;simp only[kG];have hd:=YW hw;by_cases e1:most=1
  ·subst e1;have:((((1:Nat):Int))==(1:Int))=true:=rfl;simp only[this,cond_true];congr 1;omega
  ·have e2:(((most:Int))==(1:Int))=false:=by rw[beq_eq_false_iff_ne];omega
   have hc:∀e:Dt,WV e->e.bulk<=N->∀k:Nat,k<most-1->i98 (m+2) e (k:Int) (most:Int)=some (decide (((max k (min (dpt e) (most-1)):Nat):Int)<((most-1:Nat):Int)),((max k (min (dpt e) (most-1)):Nat):Int),(most:Int)):=fun e hwe hbe k hk=>by
        have hw1:IntKind.wrap IntKind.i64 ((most:Int)-1)=((most-1:Nat):Int):=by rw[wrap64 (by omega) (by omega)];omega
        have hr:=QM N e hbe (by omega) hwe m (by omega) (most-1) (by omega) (by omega);simp only[i98,hw1,hr,ah,abt]
   obtain⟨p1,p2,p3,p4⟩:=Bn hw;have k1:=abu (m+2) (i98 (m+2)) (L d 3) (by omega) most (fun e he=>hc e (p3 e he).1 (by have:=(p3 e he).2;omega)) (m+3) 0 0 (aI _) (by omega) (by omega);have k2:=abv (m+2) (i98 (m+2)) (L d 4) (by omega) most (fun e he=>hc _ (p4 e he).1 (by have:=(p4 e he).2;omega)) (m+3) 0 0 (aI _) (by omega) (by omega);rw[aQ]at k1 k2;unfold rV at hd;have fin:∀x:Nat,x<most->IntKind.wrap IntKind.i64 ((1:Int)+(x:Int))=((1+x:Nat):Int):=fun x hx=>by rw[wrap64 (by omega) (by omega)];omega
   simp only[e2,cond_false,i97];cases h6:(I d 0==6)
   ·    rw[h6]at hd;cases h5:(I d 0==5)
        ·rw[h5]at hd;simp only[cond_false,mx]at hd;simp only[cond_false,ah];rw[show ((0:Int))=((0:Nat):Int)from rfl,fin 0 (by omega),hd];congr 2;omega
        ·rw[h5]at hd;simp only[cond_false,cond_true,ain]at hd;have k2':F8 (m+2) (i98 (m+2)) (Nat.succ (m+2)) (L d 4) ((L d 4).length:Int) 0 0 (most:Int)=_:=k2;simp only[cond_false,cond_true,k2',ah];rw[fin _ (by omega),hd];congr 2;omega
   ·    rw[h6]at hd;simp only[cond_true]at hd;have k1':F7 (m+2) (i98 (m+2)) (Nat.succ (m+2)) (L d 3) ((L d 3).length:Int) 0 0 (most:Int)=_:=k1;simp only[cond_true,k1',ah];rw[fin _ (by omega),hd];congr 2;omega
theorem acX{d:Dt}(hw:WV d)(hb:d.bulk<=137438953472)(m:Nat)(hm:3*d.bulk<=m):mM (m+2) d=some ((min (dpt d) 17:Nat):Int):=by simp only[mM];rw[show ((17:Int))=((17:Nat):Int)from rfl,QM d.bulk d (aj _) hb hw m hm 17 (by omega) (by omega)];rfl
def okV(d:Dt):Bool:=decide (nds d<=1024)&&decide (dpt d<=16)&&sndF nm d.bulk d
theorem lim(n k:Nat)(h:k<1000000):decide (((min n (k+1):Nat):Int)<=((k:Nat):Int))=decide (n<=k):=by rw[dle,Bool.eq_iff_iff];simp only[decide_eq_true_eq];omega
theorem QN{d:Dt}(hw:WV d)(m:Nat)(hm:3*d.bulk+300<=m)(hb:d.bulk<=100000000000):kH (m+3) d=some (okV d):=by have h1:mK (m+2) d=some ((min (nds d) (1024+1):Nat):Int):=acU hw (by omega) m (by omega);have h2:mM (m+2) d=some ((min (dpt d) (16+1):Nat):Int):=acX hw (by omega) m (by omega);have h3:bM (m+2) d=some (sndF nm d.bulk d):=QJ d.bulk d (aj _) (by omega) hw (m+1) (by omega);have l1:decide (((min (nds d) (1024+1):Nat):Int)<=1024)=decide (nds d<=1024):=lim _ 1024 (by omega);have l2:decide (((min (dpt d) (16+1):Nat):Int)<=16)=decide (dpt d<=16):=lim _ 16 (by omega);simp only[kH,h1,h2,h3,ah,l1,l2,okV];cases decide (nds d<=1024)<;>cases decide (dpt d<=16)<;>rfl
theorem BO{d:Dt}(hw:WV d)(m:Nat)(hm:2*d.bulk+300<=m)(hm2:m<9223372036854775000)(hb:d.bulk<=100000000000):fF (m+4) d=some (okV d):=by have h1:mI (m+3) d=some ((min (nds d) (1024+1):Nat):Int):=acT hw (by omega) m (by omega);have h2:mH (m+3) d=some ((min (dpt d) (16+1):Nat):Int):=acW hw (by omega) m (by omega);have h3:bF (m+3) d true=some (sndF nm d.bulk d):=NI true d.bulk d (aj _) (by omega) hw (m+2) (by omega) (by omega);have l1:decide (((min (nds d) (1024+1):Nat):Int)<=1024)=decide (nds d<=1024):=lim _ 1024 (by omega);have l2:decide (((min (dpt d) (16+1):Nat):Int)<=16)=decide (dpt d<=16):=lim _ 16 (by omega);simp only[fF,h1,h2,h3,ah,l1,l2,okV];cases decide (nds d<=1024)<;>cases decide (dpt d<=16)<;>rfl
end Go.Proofs.YtmecfjhdnbgfeaaGreatDoor
namespace Go.Am
open Dt
structure TPO {A:Type} (c:A->A->Int):Prop where
 rng:∀a b,c a b= -1∨c a b=0∨c a b=1
 anti:∀a b,c b a= -c a b
 tr:∀a b d,c a b<=0->c b d<=0->c a d<=0
theorem vM{X:Type}{x y:Int}{u v:X}(h:x≠y):(bif x !=y then u else v)=u:=by
 have:(x !=y)=true:=by simpa using h
 rw[this];rfl
theorem zA{X:Type}{x y:Int}{u v:X}(h:x=y):(bif x !=y then u else v)=v:=by subst h;simp
namespace TPO
variable{A B:Type}{c c':A->A->Int}
theorem refl(h:TPO c)(a:A):c a a=0:=by have:=h.anti a a;omega
theorem eql(h:TPO c){a b d:A}(e:c a b=0):c a d=c b d:=by have h1:=h.anti a b;have h2:=h.anti a d;have h3:=h.anti b d;have t1:=h.tr a b d;have t2:=h.tr b a d;have t3:=h.tr d a b;have t4:=h.tr d b a;have r1:=h.rng a d;have r2:=h.rng b d;omega
theorem eqr(h:TPO c){a b d:A}(e:c b d=0):c a b=c a d:=by have h1:=h.anti b a;have h2:=h.anti d a;have:=h.eql (d:=a) e;omega
theorem ltl(h:TPO c){a b d:A}(h1:c a b<0)(h2:c b d<=0):c a d<0:=by
 have t:=h.tr a b d (by omega) h2;have r:=h.rng a d;have e:c a d≠0:=fun e=>by have:=h.eql (d:=b) e;have:=h.anti b d;omega
 omega
theorem ltr(h:TPO c){a b d:A}(h1:c a b<=0)(h2:c b d<0):c a d<0:=by
 have t:=h.tr a b d h1 (by omega);have r:=h.rng a d;have e:c a d≠0:=fun e=>by have:=h.eqr (a:=b) e;have:=h.anti a b;omega
 omega
theorem zero:TPO (fun _ _:A=>0):=⟨fun _ _=> .inr (.inl rfl),fun _ _=>rfl,fun _ _ _ _ _=>Int.le_refl 0⟩
theorem key(h:TPO c)(k:B->A):TPO (fun a b=>c (k a) (k b)):=⟨fun _ _=>h.rng _ _,fun _ _=>h.anti _ _,fun _ _ _=>h.tr _ _ _⟩
theorem lex(h:TPO c)(h':TPO c'):TPO (fun a b=>bif c a b !=0 then c a b else c' a b):=by
 have ev:∀a b,(c a b=0∧(bif c a b !=0 then c a b else c' a b)=c' a b)∨(c a b≠0∧(bif c a b !=0 then c a b else c' a b)=c a b):=fun a b=>by
  by_cases e:c a b=0;·exact .inl ⟨e,zA e⟩
  ·exact .inr ⟨e,vM e⟩
 refine⟨fun a b=>?_,fun a b=>?_,fun a b d h1 h2=>?_⟩
 ·rcases ev a b with⟨_,e⟩| ⟨_,e⟩;·rw[e];exact h'.rng a b
  ·rw[e];exact h.rng a b
 ·have h1:=h.anti a b;have h2:=h'.anti a b;rcases ev a b with⟨e0,e⟩| ⟨e0,e⟩<;>rcases ev b a with⟨f0,f⟩| ⟨f0,f⟩<;>rw[e,f]<;>omega
 ·rcases ev a b with⟨e0,e⟩| ⟨e0,e⟩<;>rcases ev b d with⟨f0,f⟩| ⟨f0,f⟩<;>rw[e]at h1<;>rw[f]at h2
  ·have g:=h.eql (d:=d) e0;rcases ev a d with⟨g0,g'⟩| ⟨g0,g'⟩;·rw[g'];exact h'.tr a b d h1 h2
   ·omega
  ·have g:=h.eql (d:=d) e0;rcases ev a d with⟨g0,g'⟩| ⟨g0,g'⟩;·omega
   ·rw[g'];omega
  ·have g:=h.eqr (a:=a) f0;rcases ev a d with⟨g0,g'⟩| ⟨g0,g'⟩;·omega
   ·rw[g'];omega
  ·have g:=h.ltl (d:=d) (show c a b<0 by omega) h2;rcases ev a d with⟨g0,g'⟩| ⟨g0,g'⟩;·omega
   ·rw[g'];omega
theorem neg(h:TPO c):TPO (fun a b=> -c a b):=⟨fun a b=>by have:=h.rng a b;omega,fun a b=>by have:=h.anti a b;omega,fun a b d h1 h2=>by have a1:=h.anti a b;have a2:=h.anti b d;have a3:=h.anti a d;have:=h.tr d b a (by omega) (by omega);omega⟩
end TPO
def xP(a b:Int):Int:=bif decide (a<b)then -1 else bif decide (b<a)then 1 else 0
theorem fB(a b:Int):(a<b∧xP a b= -1)∨(a=b∧xP a b=0)∨(b<a∧xP a b=1):=by
 unfold xP;by_cases h:a<b;·exact .inl ⟨h,by simp[h]⟩
 ·by_cases h2:b<a;·exact .inr (.inr ⟨h2,by simp[h,h2]⟩)
  ·exact .inr (.inl ⟨by omega,by simp[h,h2]⟩)
theorem aio:TPO xP:=⟨fun a b=>by rcases fB a b with⟨_,h⟩| ⟨_,h⟩| ⟨_,h⟩<;>omega,fun a b=>by
 rcases fB a b with⟨h1,h⟩| ⟨h1,h⟩| ⟨h1,h⟩<;>rcases fB b a with⟨g1,g⟩| ⟨g1,g⟩| ⟨g1,g⟩<;>omega,fun a b d h1 h2=>by
 rcases fB a b with⟨p1,p⟩| ⟨p1,p⟩| ⟨p1,p⟩<;>rcases fB b d with⟨g1,g⟩| ⟨g1,g⟩| ⟨g1,g⟩<;>rcases fB a d with⟨q1,q⟩| ⟨q1,q⟩| ⟨q1,q⟩<;>omega⟩
def cmpL{A:Type}(c:A->A->Int):List A->List A->Int
 |a::r,b::s=>bif c a b !=0 then c a b else cmpL c r s
 | [],[]=>0
 | [],_::_=> -1
 |_::_,[]=>1
theorem anw{A:Type}{c:A->A->Int}(h:TPO c):TPO (cmpL c):=by
 have hd:∀(a b:A)(r s:List A),(c a b=0∧cmpL c (a::r) (b::s)=cmpL c r s)∨(c a b≠0∧cmpL c (a::r) (b::s)=c a b):=fun a b r s=>by
  by_cases e:c a b=0;·exact .inl ⟨e,zA e⟩
  ·exact .inr ⟨e,vM e⟩
 have hanti:∀a b,cmpL c b a= -cmpL c a b:=by
  intro a;induction a with
  |nil=>intro b;cases b<;>rfl
  |cons x a ih=>
   intro b;cases b with
   |nil=>rfl
   |    cons y b=>
        have:=ih b;have:=h.anti x y;rcases hd x y a b with⟨e0,e⟩| ⟨e0,e⟩<;>rcases hd y x b a with⟨f0,f⟩| ⟨f0,f⟩<;>rw[e,f]<;>omega
 refine⟨?_,hanti,?_⟩
 ·intro a;induction a with
  |nil=>intro b;cases b<;>simp[cmpL]
  |cons x a ih=>
   intro b;cases b with
   |nil=>simp[cmpL]
   |    cons y b=>
        rcases hd x y a b with⟨_,e⟩| ⟨_,e⟩;·rw[e];exact ih b
        ·rw[e];exact h.rng x y
 ·intro  a;induction a with
  |nil=>
   intro b d h1 h2;cases d with
   |nil=>exact Int.le_refl 0
   |cons z d=>simp[cmpL]
  |cons x a ih=>
   intro b d h1 h2;cases b with
   |nil=>simp[cmpL]at h1
   |    cons y b=>
        cases d with
        |nil=>simp[cmpL]at h2
        |cons z d=>
         rcases hd x y a b with⟨e0,e⟩| ⟨e0,e⟩<;>rcases hd y z b d with⟨f0,f⟩| ⟨f0,f⟩<;>rw[e]at h1<;>rw[f]at h2
         ·have g:=h.eql (d:=z) e0;rcases hd x z a d with⟨g0,g'⟩| ⟨g0,g'⟩;·rw[g'];exact ih b d h1 h2
          ·omega
         ·have g:=h.eql (d:=z) e0;rcases hd x z a d with⟨g0,g'⟩| ⟨g0,g'⟩;·omega
          ·rw[g'];omega
         ·have g:=h.eqr (a:=x) f0;rcases hd x z a d with⟨g0,g'⟩| ⟨g0,g'⟩;·omega
          ·rw[g'];omega
         ·have g:=h.ltl (d:=z) (show c x y<0 by omega) h2;rcases hd x z a d with⟨g0,g'⟩| ⟨g0,g'⟩;·omega
          ·rw[g'];omega
theorem Eh{A:Type}{c c':A->A->Int}:∀{l r:List A},(∀a∈l,∀b∈r,c a b=c' a b)->cmpL c l r=cmpL c' l r
 | [],[],_=>rfl
 | [],_::_,_=>rfl
 |_::_,[],_=>rfl
 |a::l,b::r,h=>by simp only[cmpL,h a (by simp) b (by simp),Eh (l:=l) (r:=r) fun x hx y hy=>h x (by simp[hx]) y (by simp[hy])]
theorem anx{A:Type}(k:A->Int)(f:Int->A->A->Int)(h:∀i,TPO (f i)):TPO (fun a b=>bif k a !=k b then xP (k a) (k b)else f (k a) a b):=by
 have ev:∀a b,(k a=k b∧(bif k a !=k b then xP (k a) (k b)else f (k a) a b)=f (k a) a b)∨(k a≠k b∧(bif k a !=k b then xP (k a) (k b)else f (k a) a b)=xP (k a) (k b)):=fun a b=>by
  by_cases e:k a=k b;·exact .inl ⟨e,zA e⟩
  ·exact .inr ⟨e,vM e⟩
 refine⟨fun a b=>?_,fun a b=>?_,fun a b d h1 h2=>?_⟩
 ·rcases ev a b with⟨_,e⟩| ⟨_,e⟩;·rw[e];exact(h _).rng a b
  ·rw[e];exact aio.rng _ _
 ·rcases ev a b with⟨e0,e⟩| ⟨e0,e⟩<;>rcases ev b a with⟨f0,g⟩| ⟨f0,g⟩<;>rw[e,g];·rw[←e0];exact(h _).anti a b
  ·exact absurd e0.symm f0
  ·exact absurd f0.symm e0
  ·exact aio.anti _ _
 ·rcases ev a b with⟨e0,e⟩| ⟨e0,e⟩<;>rcases ev b d with⟨f0,g⟩| ⟨f0,g⟩<;>rcases ev a d with⟨g0,g'⟩| ⟨g0,g'⟩<;>rw[e]at h1<;>rw[g]at h2<;>rw[g'];·rw[←e0]at h2;exact(h _).tr a b d h1 h2
  ·exact absurd (e0.trans f0) g0
  ·exact absurd (e0.symm.trans g0) f0
  ·rw[e0];exact h2
  ·exact absurd (g0.trans f0.symm) e0
  ·rw[←f0];exact h1
  ·have c1:=fB (k a) (k b);have c2:=fB (k b) (k d);omega
  ·exact aio.tr _ _ _ h1 h2
def NK(a b:UInt8):Int:=xP (a.toNat:Int) (b.toNat:Int)
theorem TG:∀l r:List UInt8,Lib.compareBytes l r=cmpL NK l r
 | [],[]=>rfl
 | [],_::_=>rfl
 |_::_,[]=>rfl
 |a::l,b::r=>by
  simp only[Lib.compareBytes,cmpL,TG l r];have hab:a<b↔a.toNat<b.toNat:=UInt8.lt_iff_toNat_lt;have hba:b<a↔b.toNat<a.toNat:=UInt8.lt_iff_toNat_lt;rcases fB (a.toNat:Int) (b.toNat:Int)with⟨h,e⟩| ⟨h,e⟩| ⟨h,e⟩
  ·have h1:a<b:=hab.2 (by omega);have e':NK a b= -1:=e;simp[h1,e']
  ·have h1:¬a<b:=fun x=>by have:=hab.1 x;omega
   have h2:¬b<a:=fun x=>by have:=hba.1 x;omega
   have e':NK a b=0:=e;simp[h1,h2,e']
  ·have h1:¬a<b:=fun x=>by have:=hab.1 x;omega
   have h2:b<a:=hba.2 (by omega);have e':NK a b=1:=e;simp[h1,h2,e']
def JR(a b:ByteArray):Int:=Lib.compareBytes a.data.toList b.data.toList
theorem Ya:TPO JR:=by
 have h:TPO (fun a b:ByteArray=>cmpL NK a.data.toList b.data.toList):=(anw (aio.key fun u:UInt8=>(u.toNat:Int))).key (fun a:ByteArray=>a.data.toList);have e:JR=fun a b:ByteArray=>cmpL NK a.data.toList b.data.toList:=by funext a b;exact TG _ _
 rw[e];exact h
def NM(c:Dt->Dt->Int)(f g:Dt):Int:=bif JR (S f 0) (S g 0) !=0 then JR (S f 0) (S g 0)else c (fld f 1) (fld g 1)
def acY(c:Dt->Dt->Int)(k:Int)(a b:Dt):Int:=
 bif (k==3||k==9||k==10)then xP (I a 1) (I b 1)
 else bif (k==4||k==7||k==8)then JR (S a 2) (S b 2)
 else bif k==6 then cmpL c (L a 3) (L b 3)
 else bif k==5 then cmpL (NM c) (L a 4) (L b 4)else 0
def vP:Nat->Dt->Dt->Int
 |0,_,_=>0
 |n+1,a,b=>bif (I a 0 !=I b 0)then xP (I a 0) (I b 0)else acY (vP n) (I a 0) a b
theorem akf:∀n,TPO (vP n)
 |0=>TPO.zero
 |n+    1=>by
  have ih:=akf n;have hF:TPO (NM (vP n)):=(Ya.key fun f=>S f 0).lex (ih.key fun f=>fld f 1);refine anx (fun a=>I a 0) (fun k=>acY (vP n) k) fun k=>?_;unfold acY;cases (k==3||k==9||k==10)
  ·cases (k==4||k==7||k==8)
   ·    cases k==6
        ·cases k==5;·exact TPO.zero
         ·exact(anw hF).key fun a=>L a 4
        ·exact(anw ih).key fun a=>L a 3
   ·exact Ya.key fun a=>S a 2
  ·exact aio.key fun a=>I a 1
end Go.Am
namespace Go.Am.Srt
variable{A:Type}(lt:A->A->Bool)
structure SWO:Prop where
 irr:∀x,lt x x=false
 tr:∀x y z,lt x y=true->lt y z=true->lt x z=true
 ntr:∀x y z,lt x y=false->lt y z=false->lt x z=false
def ins(x:A):List A->List A
 | []=>[x]
 |y::r=>bif lt y x then y::ins x r else x::y::r
def bL:List A->List A
 | []=>[]
 |x::r=>ins lt x (bL r)
def Asc:List A->Prop
 | []=>True
 |x::r=>(∀y∈r,lt y x=false)∧Asc r
variable{lt}
theorem SWO.asy(h:SWO lt){x y:A}(hxy:lt x y=true):lt y x=false:=by
 cases e:lt y x with
 |false=>rfl
 |true=>have:=h.tr _ _ _ hxy e;rw[h.irr]at this;cases this
theorem abw(h:SWO lt){a b:A}(hb:lt b a=true):∀s,ins lt a (ins lt b s)=ins lt b (ins lt a s)
 | []=>by simp[ins,hb,h.asy hb]
 |y::r=>by
  cases e:lt y b with
  |true=>
   have e2:lt y a=true:=h.tr _ _ _ e hb;simp[ins,e,e2,abw h hb r]
  |false=>
   cases e2:lt y a with
   |true=>simp[ins,e,e2,hb]
   |false=>simp[ins,e,e2,hb,h.asy hb]
theorem uI(X B:List A):bL lt (X++B)=X.foldr (ins lt) (bL lt B):=by
 induction X with
 |nil=>rfl
 |cons x r ih=>simp[bL,ih]
theorem Ei(h:SWO lt){a b:A}(hb:lt b a=true)(X B:List A):bL lt (X++a::b::B)=bL lt (X++b::a::B):=by rw[uI,uI];simp only[bL,abw h hb]
theorem QO(h:SWO lt)(x:A):∀(Y B:List A),bL lt (ins lt x Y++B)=bL lt (x::Y++B)
 | [],B=>rfl
 |y::r,B=>by
  cases e:lt y x with
  |true=>
   have h1:=Ei h e [] (r++B);simp only[List.nil_append]at h1;simp only[ins,e,cond_true,List.cons_append];rw[h1];show ins lt y (bL lt (ins lt x r++B))=ins lt y (bL lt (x::r++B));rw[QO h x r B]
  |false=>simp[ins,e]
theorem iT(h:SWO lt):∀(X B:List A),bL lt (bL lt X++B)=bL lt (X++B)
 | [],B=>rfl
 |x::r,B=>by show bL lt (ins lt x (bL lt r)++B)=ins lt x (bL lt (r++B));rw[QO h,List.cons_append];show ins lt x (bL lt (bL lt r++B))=_;rw[iT h r B]
theorem QS(h:SWO lt){X Y:List A}(e:bL lt X=bL lt Y)(C B:List A):bL lt (C++X++B)=bL lt (C++Y++B):=by rw[List.append_assoc,List.append_assoc,uI C,uI C,←iT h X,←iT h Y,e]
theorem Ej(h:SWO lt){X Y X' Y':List A}(e:bL lt X=bL lt X')(e':bL lt Y=bL lt Y'):bL lt (X++Y)=bL lt (X'++Y'):=by have h1:=QS h e [] Y;have h2:=QS h e' X' [];simp only[List.nil_append,List.append_nil]at h1 h2;exact h1.trans h2
theorem mG:∀{s:List A},Asc lt s->bL lt s=s
 | [],_=>rfl
 |x::r,h=>by
  show ins lt x (bL lt r)=_;rw[mG h.2];cases r with
  |nil=>rfl
  |cons y r=>simp[ins,h.1 y (by simp)]
theorem abx{x z:A}:∀{s:List A},z∈ins lt x s↔z=x∨z∈s
 | []=>by simp[ins]
 |y::r=>by
  cases e:lt y x with
  |true=>simp[ins,e,abx (s:=r)];constructor<;>rintro(h|h|h)<;>simp[h]
  |false=>simp[ins,e]
theorem aby(h:SWO lt)(x:A):∀{s:List A},Asc lt s->Asc lt (ins lt x s)
 | [],_=>⟨by simp,trivial⟩
 |y::r,hs=>by
  cases e:lt y x with
  |true=>
   simp only[ins,e,cond_true];refine⟨fun z hz=>?_,aby h x hs.2⟩;rcases abx.1 hz with rfl|hz;·exact h.asy e
   ·exact hs.1 z hz
  |false=>
   simp only[ins,e,cond_false];refine⟨fun z hz=>?_,hs⟩;rcases List.mem_cons.1 hz with rfl|hz;·exact e
   ·exact h.ntr _ _ _ (hs.1 z hz) e
theorem nR(h:SWO lt):∀X:List A,Asc lt (bL lt X)
 | []=>trivial
 |x::r=>aby h x (nR h r)
theorem WJ(x:A):∀s:List A,(ins lt x s).Perm (x::s)
 | []=>List.Perm.refl _
 |y::r=>by
  cases e:lt y x with
  |true=>simp only[ins,e,cond_true];exact((WJ x r).cons y).trans (List.Perm.swap x y r)
  |false=>simp only[ins,e,cond_false];exact List.Perm.refl _
theorem ze:∀X:List A,(bL lt X).Perm X
 | []=>List.Perm.refl _
 |x::r=>(WJ x _).trans ((ze r).cons x)
theorem isort_len(X:List A):(bL lt X).length=X.length:=(ze X).length_eq
theorem mem_isort{X:List A}{z:A}:z∈bL lt X↔z∈X:=(ze X).mem_iff
theorem rW:∀{X Y:List A},Asc lt X->Asc lt Y->(∀x∈X,∀y∈Y,lt y x=false)->Asc lt (X++Y)
 | [],_,_,hy,_=>hy
 |x::r,Y,hx,hy,h=>⟨fun z hz=>by
   rcases List.mem_append.1 hz with hz|hz;·exact hx.1 z hz
   ·exact h x (by simp) z hz,rW hx.2 hy fun a ha b hb=>h a (by simp[ha]) b hb⟩
theorem gG:∀{X Y:List A},Asc lt (X++Y)->Asc lt X∧Asc lt Y∧∀x∈X,∀y∈Y,lt y x=false
 | [],_,h=>⟨trivial,h,by simp⟩
 |x::r,Y,h=>by
  obtain⟨h1,h2,h3⟩:=gG h.2;refine⟨⟨fun z hz=>h.1 z (by simp[hz]),h1⟩,h2,fun a ha b hb=>?_⟩;rcases List.mem_cons.1 ha with rfl|ha;·exact h.1 b (by simp[hb])
  ·exact h3 a ha b hb
theorem Jl(h:SWO lt){X Y:List A}(hxy:∀x∈X,∀y∈Y,lt y x=false):bL lt (X++Y)=bL lt X++bL lt Y:=by have h1:bL lt (X++Y)=bL lt (bL lt X++bL lt Y):=Ej h (by have:=iT h X [];simpa using this.symm) (by have:=iT h Y [];simpa using this.symm);rw[h1];exact mG (rW (nR h X) (nR h Y) fun a ha b hb=>hxy a (mem_isort.1 ha) b (mem_isort.1 hb))
theorem El(h:SWO lt)(u:A):∀(V C B:List A),(∀v∈V,lt v u=true)->bL lt (C++u::V++B)=bL lt (C++(V++u::B))
 | [],C,B,_=>by simp
 |v::V,C,B,hv=>by
  have h1:=Ei h (hv v (by simp)) C (V++B);have h2:=El h u V (C++[v]) B (fun w hw=>hv w (by simp[hw]));simp only[List.append_assoc,List.cons_append,List.nil_append]at h1 h2 ⊢
  exact h1.trans h2
theorem BP(h:SWO lt):∀(U V C B:List A),(∀u∈U,∀v∈V,lt v u=true)->bL lt (C++(U++(V++B)))=bL lt (C++(V++(U++B)))
 | [],V,C,B,_=>by simp
 |u::U,V,C,B,hv=>by
  have h1:=BP h U V (C++[u]) B (fun a ha=>hv a (by simp[ha]));have h2:=El h u V C (U++B) (hv u (by simp));simp only[List.append_assoc,List.cons_append,List.nil_append]at h1 h2 ⊢
  exact h1.trans h2
end Go.Am.Srt
namespace Go.Proofs.YtmecfjhdnbgfeaaGreatDoor
open Go.Am Dt
theorem YX{c c':Dt->Dt->Int}{f g:Dt}(h:c (fld f 1) (fld g 1)=c' (fld f 1) (fld g 1)):NM c f g=NM c' f g:=by unfold NM;rw[h]
theorem IL:∀(n n':Nat)(a b:Dt),a.bulk<=n->a.bulk<=n'->vP n a b=vP n' a b
 |0,_,a,_,h,_=>by have:=o8 a;omega
 |_,0,a,_,_,h=>by have:=o8 a;omega
 |n+1,n'+1,a,b,h,h'=>by
  simp only[vP];congr 1;unfold acY;rw[Eh (l:=L a 3) (c:=vP n) (c':=vP n') fun x hx y _=>IL n n' x y (by have:=oK hx;omega) (by have:=oK hx;omega),
   Eh (l:=L a 4) (c:=NM (vP n)) (c':=NM (vP n')) fun x hx y _=>YX (IL n n' _ _ (by have:=oK hx;have:=mF x 1;omega) (by have:=oK hx;have:=mF x 1;omega))]
def cmpD(a b:Dt):Int:=vP (a.bulk+b.bulk) a b
theorem YZ{n:Nat}{a b:Dt}(h:a.bulk<=n):vP n a b=cmpD a b:=IL _ _ _ _ h (by omega)
theorem vQ:TPO cmpD:=by
 have e:∀(a b:Dt)(n:Nat),a.bulk<=n->cmpD a b=vP n a b:=fun a b n h=>(YZ h).symm;refine⟨fun a b=>?_,fun a b=>?_,fun a b d h1 h2=>?_⟩;·exact(akf _).rng a b
 ·rw[e a b (a.bulk+b.bulk) (by omega),e b a (a.bulk+b.bulk) (by omega)];exact(akf _).anti a b
 ·rw[e a b (a.bulk+b.bulk+d.bulk) (by omega)]at h1;rw[e b d (a.bulk+b.bulk+d.bulk) (by omega)]at h2;rw[e a d (a.bulk+b.bulk+d.bulk) (by omega)];exact(akf _).tr a b d h1 h2
theorem TH(m:Nat)(a b:Int):eX (m+2) a b=some (xP a b):=by
 have e:∀x:Int,(x !=x)=false:=fun x=>by simp
 simp only[eX,qw,ah,e,cond_false,xP];cases decide (a<b)<;>cases decide (b<a)<;>rfl
theorem anz{A:Type}{c:A->A->Int}:∀{l r:List A},(l=[]∨r=[])->cmpL c l r=xP (l.length:Int) (r.length:Int)
 | [],[],_=>rfl
 | [],_::r,_=>by
   show (-1:Int)=_;rcases fB (([]:List A).length:Int) ((‹A› ::r).length:Int)with⟨_,e⟩| ⟨h,e⟩| ⟨h,e⟩;·rw[e]
   ·simp at h;omega
   ·simp at h;omega
 | _::l,[],_=>by
   show (1:Int)=_;rcases fB ((‹A› ::l).length:Int) (([]:List A).length:Int)with⟨h,e⟩| ⟨h,e⟩| ⟨_,e⟩;·simp at h;omega
   ·simp at h;omega
   ·rw[e]
 |_::_,_::_,h=>by simp at h
theorem Y0(a b k:Int):xP (a+k) (b+k)=xP a b:=by rcases fB a b with⟨h,e⟩| ⟨h,e⟩| ⟨h,e⟩<;>rcases fB (a+k) (b+k)with⟨g,f⟩| ⟨g,f⟩| ⟨g,f⟩<;>omega
theorem wV{A:Type}{c:A->A->Int}{l r:List A}{i:Nat}(hl:i<=l.length)(hr:i<=r.length)(h:i=l.length∨i=r.length):cmpL c (l.drop i) (r.drop i)=xP (l.length:Int) (r.length:Int):=by
 rw[anz];·rw[List.length_drop,List.length_drop,show ((l.length:Nat):Int)=((l.length-i:Nat):Int)+i by omega,show ((r.length:Nat):Int)=((r.length-i:Nat):Int)+i by omega,Y0]
 ·rcases h with h|h;·exact .inl (List.drop_eq_nil_of_le (by omega))
  ·exact .inr (List.drop_eq_nil_of_le (by omega))
theorem abz(m:Nat)(self:Dt->Dt->Option Int)(c:Dt->Dt->Int)(a b:Dt)(hl:(L a 3).length<1000000000000)(hs:∀x∈L a 3,∀y,self x y=some (c x y)):∀(M i:Nat),i<=(L a 3).length->i<=(L b 3).length->min (L a 3).length (L b 3).length-i<M->
  lK (m+2) self M ((min (L a 3).length (L b 3).length:Nat):Int) (i:Int) a b=some (cmpL c ((L a 3).drop i) ((L b 3).drop i))
 |0,i,_,_,h=>by omega
 |M+1,i,hi,hi2,h=>by
  simp only[lK,dlt];by_cases h1:i<min (L a 3).length (L b 3).length
  ·have ha:i<(L a 3).length:=by omega
   have hb:i<(L b 3).length:=by omega
   simp only[h1,decide_true,cond_true,bI ha,bI hb,ah,hs _ (aF ha),bX (show i<9223372036854775807 by omega)];rw[abz m self c a b hl hs M (i+1) (by omega) (by omega) (by omega),aG ha,aG hb];simp only[cmpL];cases (c (L a 3)[i] (L b 3)[i] !=0)<;>rfl
  ·simp only[h1,decide_false,cond_false,TH,ah];rw[wV hi hi2 (by omega)]
theorem abA(m:Nat)(self:Dt->Dt->Option Int)(c:Dt->Dt->Int)(a b:Dt)(hl:(L a 4).length<1000000000000)(hs:∀x∈L a 4,∀y,self (fld x 1) (fld y 1)=some (c (fld x 1) (fld y 1))):∀(M i:Nat),i<=(L a 4).length->i<=(L b 4).length->min (L a 4).length (L b 4).length-i<M->
  lM (m+2) self M ((min (L a 4).length (L b 4).length:Nat):Int) (i:Int) a b=some (cmpL (NM c) ((L a 4).drop i) ((L b 4).drop i))
 |0,i,_,_,h=>by omega
 |M+    1,i,hi,hi2,h=>by
  simp only[lM,dlt];by_cases h1:i<min (L a 4).length (L b 4).length
  ·have ha:i<(L a 4).length:=by omega
   have hb:i<(L b 4).length:=by omega
   simp only[h1,decide_true,cond_true,bI ha,bI hb,ah,strings_Compare,hs _ (aF ha),bX (show i<9223372036854775807 by omega)];rw[abA m self c a b hl hs M (i+1) (by omega) (by omega) (by omega),aG ha,aG hb];simp only[cmpL,NM,JR];by_cases e1:Lib.compareBytes (S (L a 4)[i] 0).data.toList (S (L b 4)[i] 0).data.toList=0
   ·    rw[zA e1,zA e1];by_cases e2:c (fld (L a 4)[i] 1) (fld (L b 4)[i] 1)=0;·rw[zA e2,zA e2]
        ·rw[vM e2,vM e2]
   ·rw[vM e1,vM e1,vM e1]
  ·simp only[h1,decide_false,cond_false,TH,ah];rw[wV hi hi2 (by omega)]
theorem akg(x y:Nat):(bif decide ((y:Int)<(x:Int))then(y:Int)else(x:Int))=((min x y:Nat):Int):=by
 rw[dlt];by_cases h:y<x;·simp only[h,decide_true,cond_true];omega
 ·simp only[h,decide_false,cond_false];omega
theorem akh(m:Nat)(self:Dt->Dt->Option Int)(a b:Dt):oM m self a b=
  bif (I a 0==3||I a 0==9||I a 0==10)then eX m (I a 1) (I b 1)
  else bif (I a 0==4||I a 0==7||I a 0==8)then strings_Compare (S a 2) (S b 2)
  else bif I a 0==6 then rG m self ((min (L a 3).length (L b 3).length:Nat):Int) 0 a b
  else bif I a 0==5 then rH m self ((min (L a 4).length (L b 4).length:Nat):Int) 0 a b else vS m self:=by
 have hb:∀x:Option Int,(x.bind fun r=>some r)=x:=fun x=>by cases x<;>rfl
 simp only[oM,lQ,lN,akg,hb];cases (I a 0==3)<;>cases (I a 0==9)<;>cases (I a 0==10)<;>cases (I a 0==4)<;>cases (I a 0==7)<;>cases (I a 0==8)<;>rfl
theorem TK:∀(n:Nat)(a b:Dt),a.bulk<=n->n<1000000000000->∀m,n<=m->aW (m+3) a b=some (vP n a b)
 |0,a,_,h,_,_,_=>by have:=o8 a;omega
 |n+    1,a,b,h,hn,m,hm=>by
  obtain⟨m,rfl⟩:∃k,m=k+1:=⟨m-1,by omega⟩;have h3:=oh a 3;have h4:=oh a 4;have e3:=abz (m+1) (aW (m+3)) (vP n) a b (by omega) (fun x hx y=>TK n x y (by have:=oK hx;omega) (by omega) m (by omega)) (m+4) 0 (aI _) (aI _) (by omega);have e4:=abA (m+1) (aW (m+3)) (vP n) a b (by omega) (fun x hx y=>TK n _ _ (by have:=oK hx;have:=mF x 1;omega) (by omega) m (by omega)) (m+4) 0 (aI _) (aI _) (by omega);rw[aQ,aQ]at e3 e4;have e3':rG (m+3) (aW (m+3)) ((min (L a 3).length (L b 3).length:Nat):Int) 0 a b=_:=e3;have e4':rH (m+3) (aW (m+3)) ((min (L a 4).length (L b 4).length:Nat):Int) 0 a b=_:=e4;show (bif (I a 0 !=I b 0)then(eX (m+3) (I a 0) (I b 0)).bind (fun r=>some r)else oM (m+3) (aW (m+3)) a b)=_;simp only[akh,show m+3=(m+1)+2 from rfl,TH,vP,ah];cases (I a 0 !=I b 0)
  ·simp only[cond_false,acY];cases (I a 0==3||I a 0==9||I a 0==10)
   ·    cases (I a 0==4||I a 0==7||I a 0==8)
        ·cases (I a 0==6)
         ·cases (I a 0==5);·rfl
          ·exact e4'
         ·exact e3'
        ·rfl
   ·rfl
  ·rfl
theorem qR(a b:Dt)(m:Nat)(hm:a.bulk<=m)(hm2:a.bulk<1000000000000):aW (m+3) a b=some (cmpD a b):=by rw[TK a.bulk a b (aj _) hm2 m hm,YZ (aj _)]
theorem wW(m:Nat)(a b:Int):dQ (m+1) a b=some (xP a b):=by simp only[dQ,xP];cases decide (a<b)<;>cases decide (b<a)<;>rfl
theorem NN(m:Nat)(a b:ByteArray)(ha:a.size<1000000000000):∀(M i:Nat),i<=a.size->i<=b.size->a.size-i<M->oo (m+1) M a b (i:Int)=some (cmpL NK (a.data.toList.drop i) (b.data.toList.drop i))
 |0,i,_,_,h=>by omega
 |M+    1,i,hi,hi2,h=>by
  have la:a.data.toList.length=a.size:=by rw[Array.length_toList];rfl
  have lb:b.data.toList.length=b.size:=by rw[Array.length_toList];rfl
  simp only[oo,dlt];by_cases h1:i<a.size
  ·by_cases h2:i<b.size
   ·    have e1:a.data.toList.drop i=a[i]::a.data.toList.drop (i+1):=by rw[aG (by omega)];rfl
        have e2:b.data.toList.drop i=b[i]::b.data.toList.drop (i+1):=by rw[aG (by omega)];rfl
        have hwr:∀u:UInt8,IntKind.wrap IntKind.i64 (u.toNat:Int)=(u.toNat:Int):=fun u=>wrap64 (by omega) (by have:=u.toNat_lt;omega);simp only[h1,h2,decide_true,cond_true,pY h1,pY h2,ah,hwr,wW,bX (show i<9223372036854775807 by omega)];rw[NN m a b ha M (i+1) (by omega) (by omega) (by omega),e1,e2];simp only[cmpL];by_cases e:((a[i].toNat:Int))=(b[i].toNat:Int)
        ·have e3:NK a[i] b[i]=0:=by
          rcases fB (a[i].toNat:Int) (b[i].toNat:Int)with⟨g,f⟩| ⟨g,f⟩| ⟨g,f⟩;·omega
          ·exact f
          ·omega
         rw[zA e,zA e3]
        ·have e3:NK a[i] b[i]≠0:=by
          rcases fB (a[i].toNat:Int) (b[i].toNat:Int)with⟨g,f⟩| ⟨g,f⟩| ⟨g,f⟩;·intro x;rw[show NK a[i] b[i]= -1 from f]at x;omega
          ·omega
          ·intro x;rw[show NK a[i] b[i]=1 from f]at x;omega
         rw[vM e,vM e3];rfl
   ·    have:i=b.size:=by omega
        simp only[h1,h2,decide_true,decide_false,cond_true,cond_false,wW,ah];rw[wV (by omega) (by omega) (.inr (by omega)),la,lb]
  ·simp only[h1,decide_false,cond_false,wW,ah];rw[wV (by omega) (by omega) (.inl (by omega)),la,lb]
theorem WK(m:Nat)(a b:ByteArray)(hm:a.size<=m)(hm2:m<1000000000000):jw (m+2) a b=some (JR a b):=by have:=NN m a b (by omega) (m+2) 0 (by omega) (by omega) (by omega);rw[JR,TG];exact this
theorem abB(m:Nat)(self:Dt->Dt->Option Int)(c:Dt->Dt->Int)(a b:Dt)(hl:(L a 3).length<1000000000000)(hs:∀x∈L a 3,∀y,self x y=some (c x y)):∀(M i:Nat),i<=(L a 3).length->i<=(L b 3).length->(L a 3).length-i<M->
  lC (m+1) self M (i:Int) a b=some (cmpL c ((L a 3).drop i) ((L b 3).drop i))
 |0,i,_,_,h=>by omega
 |M+    1,i,hi,hi2,h=>by
  simp only[lC,dlt];by_cases ha:i<(L a 3).length
  ·by_cases hb:i<(L b 3).length
   ·    simp only[ha,hb,decide_true,cond_true,bI ha,bI hb,ah,hs _ (aF ha),bX (show i<9223372036854775807 by omega)];rw[abB m self c a b hl hs M (i+1) (by omega) (by omega) (by omega),aG ha,aG hb];simp only[cmpL];cases (c (L a 3)[i] (L b 3)[i] !=0)<;>rfl
   ·    simp only[ha,hb,decide_true,decide_false,cond_true,cond_false,lg,wW,ah];rw[wV hi hi2 (by omega)]
  ·simp only[ha,decide_false,cond_false,lg,wW,ah];rw[wV hi hi2 (by omega)]
theorem abC(m:Nat)(hm:1<=m)(self:Dt->Dt->Option Int)(c:Dt->Dt->Int)(a b:Dt)(hl:(L a 4).length<1000000000000)(ht:∀x∈L a 4,∀y,jw (m+1) (S x 0) (S y 0)=some (JR (S x 0) (S y 0)))(hs:∀x∈L a 4,∀y,self (fld x 1) (fld y 1)=some (c (fld x 1) (fld y 1))):∀(M i:Nat),i<=(L a 4).length->i<=(L b 4).length->(L a 4).length-i<M->
  gX (m+1) self M (i:Int) a b=some (cmpL (NM c) ((L a 4).drop i) ((L b 4).drop i))
 |0,i,_,_,h=>by omega
 |M+    1,i,hi,hi2,h=>by
  simp only[gX,dlt];by_cases ha:i<(L a 4).length
  ·by_cases hb:i<(L b 4).length
   ·    simp only[ha,hb,decide_true,cond_true,nS,bI ha,bI hb,ah,ht _ (aF ha),hs _ (aF ha),bX (show i<9223372036854775807 by omega)];rw[abC m hm self c a b hl ht hs M (i+1) (by omega) (by omega) (by omega),aG ha,aG hb];simp only[cmpL,NM];by_cases e:JR (S (L a 4)[i] 0) (S (L b 4)[i] 0)=0
        ·have e1:(JR (S (L a 4)[i] 0) (S (L b 4)[i] 0)==0)=true:=by simpa using e
         rw[e1];simp only[cond_true];rw[zA e];by_cases e2:c (fld (L a 4)[i] 1) (fld (L b 4)[i] 1)=0;·rw[zA e2,zA e2]
         ·rw[vM e2,vM e2]
        ·have e1:(JR (S (L a 4)[i] 0) (S (L b 4)[i] 0)==0)=false:=by simpa using e
         rw[e1];simp only[cond_false];rw[vM e,vM e,vM e]
   ·    simp only[ha,hb,decide_true,decide_false,cond_true,cond_false,kr,wW,ah];rw[wV hi hi2 (by omega)]
  ·simp only[ha,decide_false,cond_false,kr,wW,ah];rw[wV hi hi2 (by omega)]
theorem aki(m:Nat)(self:Dt->Dt->Option Int)(a b:Dt):oL m self a b=
  bif (I a 0==3||I a 0==9||I a 0==10)then dQ m (I a 1) (I b 1)
  else bif (I a 0==4||I a 0==7||I a 0==8)then jw m (S a 2) (S b 2)
  else bif I a 0==6 then rA m self 0 a b
  else bif I a 0==5 then rF m self 0 a b else vR m self:=by
 have hb:∀x:Option Int,(x.bind fun r=>some r)=x:=fun x=>by cases x<;>rfl
 simp only[oL,lF,lD,hb];cases (I a 0==3)<;>cases (I a 0==9)<;>cases (I a 0==10)<;>cases (I a 0==4)<;>cases (I a 0==7)<;>cases (I a 0==8)<;>rfl
theorem TL:∀(n:Nat)(a b:Dt),a.bulk<=n->n<900000000000->∀m,n<=m->m<900000000000->bP (m+3) a b=some (vP n a b)
 |0,a,_,h,_,_,_,_=>by have:=o8 a;omega
 |n+    1,a,b,h,hn,m,hm,hm2=>by
  obtain⟨m,rfl⟩:∃k,m=k+1:=⟨m-1,by omega⟩;have h3:=oh a 3;have h4:=oh a 4;have e3:=abB (m+2) (bP (m+3)) (vP n) a b (by omega) (fun x hx y=>TL n x y (by have:=oK hx;omega) (by omega) m (by omega) (by omega)) (m+4) 0 (aI _) (aI _) (by omega);have e4:=abC (m+2) (by omega) (bP (m+3)) (vP n) a b (by omega) (fun x hx y=>WK (m+1) _ _ (by have:=oK hx;have:=NC x 0;omega) (by omega)) (fun x hx y=>TL n _ _ (by have:=oK hx;have:=mF x 1;omega) (by omega) m (by omega) (by omega)) (m+4) 0 (aI _) (aI _) (by omega);rw[aQ,aQ]at e3 e4;have e3':rA (m+3) (bP (m+3)) 0 a b=_:=e3;have e4':rF (m+3) (bP (m+3)) 0 a b=_:=e4;show (bif (I a 0 !=I b 0)then(dQ (m+3) (I a 0) (I b 0)).bind (fun r=>some r)else oL (m+3) (bP (m+3)) a b)=_;simp only[aki,show m+3=(m+2)+1 from rfl,wW,vP,ah];cases (I a 0 !=I b 0)
  ·simp only[cond_false,acY];cases (I a 0==3||I a 0==9||I a 0==10)
   ·    cases (I a 0==4||I a 0==7||I a 0==8)
        ·cases (I a 0==6)
         ·cases (I a 0==5);·rfl
          ·exact e4'
         ·exact e3'
        ·exact WK (m+1) _ _ (by have:=NC a 2;omega) (by omega)
   ·rfl
  ·rfl
theorem aip(a b:Dt)(m:Nat)(hm:a.bulk<=m)(hm2:m<900000000000):bP (m+3) a b=some (cmpD a b):=by rw[TL a.bulk a b (aj _) (by omega) m hm hm2,YZ (aj _)]
def Em(d:Dt):Int×Int×ByteArray×List Dt×List Dt:=(I d 0,I d 1,S d 2,L d 3,L d 4)
def NP(d:Dt):Prop:=∃k i t l ds,d= .agg [.int k,.int i,.str t,.lst l,.lst ds]
theorem BQ{d:Dt}(h:NP d):agg [.int (Em d).1,.int (Em d).2.1,.str (Em d).2.2.1,.lst (Em d).2.2.2.1,.lst (Em d).2.2.2.2]=d:=by obtain⟨k,i,t,l,ds,rfl⟩:=h;rfl
theorem WV.isVal{d:Dt}(h:WV d):NP d:=by
 cases h with
 |mk hl hd=>exact⟨_,_,_,_,_,rfl⟩
theorem zB(m:Nat)(self:Dt->Option (Int×Int×ByteArray×List Dt×List Dt))(l:List Dt)(hl:l.length<9223372036854775807)(hs:∀e∈l,NP e∧self e=some (Em e))(z x3 x4:Dt)(x5 x6:Int)(x7:ByteArray)(x9:List Dt):∀(M i:Nat),i<=l.length->l.length-i<M->
  lZ m self M l (l.length:Int) (i:Int) x3 x4 x5 x6 x7 (l.take i++List.replicate (l.length-i) z) x9=jP m self x3 x4 x5 x6 x7 l x9
 |0,i,_,h=>by omega
 |M+1,i,hi,h=>by
  simp only[lZ,dlt];by_cases hlt:i<l.length
  ·have hx:i<(l.take i++List.replicate (l.length-i) z).length:=by rw[FU l z i hi];exact hlt
   obtain⟨e1,e2⟩:=hs _ (aF hlt);simp only[hlt,decide_true,cond_true,bI hlt,ah,e2,BQ e1,tZ hx,Int.toNat_natCast,aA hx,Bl l z i hlt,bX (show i<9223372036854775807 by omega)];exact zB m self l hl hs z x3 x4 x5 x6 x7 x9 M (i+1) (by omega) (by omega)
  ·have e:i=l.length:=by omega
   subst e;simp
theorem zC(m:Nat)(self:Dt->Option (Int×Int×ByteArray×List Dt×List Dt))(l:List Dt)(hl:l.length<9223372036854775807)(hf:∀f∈l,∃s v,f= .agg [.str s,v]∧NP v∧self v=some (Em v))(z x3:Dt)(x4 x5:Int)(x6:ByteArray)(x7:List Dt):∀(M i:Nat),i<=l.length->l.length-i<M->
  oD m self M l (l.length:Int) (i:Int) x3 x4 x5 x6 x7 (l.take i++List.replicate (l.length-i) z)=some (x4,x5,x6,x7,l)
 |0,i,_,h=>by omega
 |M+1,i,hi,h=>by
  simp only[oD,dlt];by_cases hlt:i<l.length
  ·have hx:i<(l.take i++List.replicate (l.length-i) z).length:=by rw[FU l z i hi];exact hlt
   obtain⟨s,v,e1,e2,e3⟩:=hf _ (aF hlt);have e5:agg [.str (S l[i] 0),v]=l[i]:=by rw[e1];rfl
   have e4:fld l[i] 1=v:=by rw[e1];rfl
   simp only[hlt,decide_true,cond_true,bI hlt,ah,e4,e3,BQ e2,e5,tZ hx,Int.toNat_natCast,aA hx,Bl l z i hlt,bX (show i<9223372036854775807 by omega)];exact zC m self l hl hf z x3 x4 x5 x6 x7 M (i+1) (by omega) (by omega)
  ·have e:i=l.length:=by omega
   subst e;simp[]
theorem JU(m:Nat)(self:Dt->Option (Int×Int×ByteArray×List Dt×List Dt))(d x4:Dt)(x5 x6:Int)(x7:ByteArray)(x8:List Dt)(hm:(L d 4).length<=m)(hl:(L d 4).length<=137438953472)(hf:∀f∈L d 4,∃s v,f= .agg [.str s,v]∧NP v∧self v=some (Em v)):
  jP m self d x4 x5 x6 x7 x8 []=some (x5,x6,x7,x8,L d 4):=by
 unfold jP;by_cases h0:0<(L d 4).length
 ·have e0:decide ((0:Int)<(((L d 4).length:Nat):Int))=true:=by simp;omega
  rw[e0];simp only[cond_true];rw[uG hl,ah];have key:=fun z=>zC m self (L d 4) (by omega) hf z x4 x5 x6 x7 x8 (Nat.succ m) 0 (by omega) (by omega);simp only[List.take_zero,List.nil_append,Nat.sub_zero]at key;exact key _
 ·have e0:decide ((0:Int)<(((L d 4).length:Nat):Int))=false:=by rw[decide_eq_false_iff_not];omega
  have e1:L d 4=[]:=List.length_eq_zero_iff.1 (by omega);rw[e0,e1];rfl
theorem qU:∀(N:Nat)(d:Dt),d.bulk<=N->N<=137438953472->WV d->∀m,N<=m->dx (m+1) d=some (Em d)
 |0,d,h,_,_,_,_=>by have:=iR d;omega
 |N +   1,d,h,hN,hw,m,hm=>by
  cases hw with
  | @mk   k i t l ds hl hd=>
    rw[nK]at h;obtain⟨m,rfl⟩:∃q,m=q+1:=⟨m-1,by omega⟩;have hself:∀e∈l,NP e∧dx (m+1) e=some (Em e):=fun e he=>⟨(hl e he).isVal,qU N e (by have:=kR he;omega) (by omega) (hl e he) m (by omega)⟩;have hfld:∀f∈ds,∃s v,f= .agg [.str s,v]∧NP v∧dx (m+1) v=some (Em v):=fun f hf=>by
        have hb:=kR hf;cases hd f hf with
        | @mk s v hv=>
          rw[vL]at hb;exact⟨s,v,rfl,hv.isVal,qU N v (by omega) (by omega) hv m (by omega)⟩
    have hl1:=jr l;have hd1:=jr ds;have key4:=fun(x4:Dt)(x8:List Dt)=>JU (m+1) (dx (m+1)) (.agg [.int k,.int i,.str t,.lst l,.lst ds]) x4 k i t x8 (show ds.length<=m+1 by omega) (show ds.length<=137438953472 by omega) hfld;show (bif (decide ((0:Int)<((l.length:Nat):Int)))then _ else _)=_;by_cases h0:0<l.length
    ·   have e0:decide ((0:Int)<((l.length:Nat):Int))=true:=by simp;omega
        have key:=fun(x3 x4:Dt)(z:Dt)=>zB (m+1) (dx (m+1)) l (by omega) hself z x3 x4 k i t [] (m+2) 0 (by omega) (by omega);simp only[List.take_zero,List.nil_append,Nat.sub_zero]at key;rw[e0];simp only[cond_true];show Option.bind (mkL ((l.length:Nat):Int) ((l.length:Nat):Int) _) _=_;rw[uG (by omega),ah];show lZ (m+1) (dx (m+1)) (m+2) l ((l.length:Nat):Int) ((0:Nat):Int) _ _ k i t _ _=_;rw[key,key4];rfl
    ·   have e0:decide ((0:Int)<((l.length:Nat):Int))=false:=by rw[decide_eq_false_iff_not];omega
        have e3:l=[]:=List.length_eq_zero_iff.1 (by omega);rw[e0];simp only[cond_false];show jP (m+1) (dx (m+1)) _ _ k i t [] []=_;rw[key4,e3];rfl
end Go.Proofs.YtmecfjhdnbgfeaaGreatDoor
namespace Go.Proofs.YtmecfjhdnbgfeaaGreatDoor
open Go.Am
theorem TM{l:List Dt}{x:Dt}(h:l.length<137438953472):app l [x]=some (l++[x]):=by unfold app;rw[if_pos (by simp;omega)]
theorem QT{l:List Dt}{i:Nat}(h:i<l.length):l.take i++[l[i]]=l.take (i+1):=by rw[List.take_add_one,aA h];rfl
theorem WL(m:Nat)(self:Dt->Option Dt)(l:List Dt)(hl:l.length<=137438953472)(hs:∀e∈l,self e=some e)(x3 x4:Dt)(x5 x6:Int)(x7:ByteArray)(x9:List Dt):∀(M i:Nat),i<=l.length->l.length-i<M->
  fV m self M l (l.length:Int) (i:Int) x3 x4 x5 x6 x7 (l.take i) x9=sP m self x3 x4 x5 x6 x7 l x9
 |0,i,_,h=>by omega
 |M+1,i,hi,h=>by
  simp only[fV,dlt];by_cases hlt:i<l.length
  ·have hx:(l.take i).length<137438953472:=by rw[List.length_take];omega
   simp only[hlt,decide_true,cond_true,bI hlt,ah,hs _ (aF hlt),TM hx,QT hlt,bX (show i<9223372036854775807 by omega)];exact WL m self l hl hs x3 x4 x5 x6 x7 x9 M (i+1) (by omega) (by omega)
  ·have e:i=l.length:=by omega
   subst e;simp
theorem WM(m:Nat)(self:Dt->Option Dt)(l:List Dt)(hl:l.length<=137438953472)(hf:∀f∈l,∃s v,f= .agg [.str s,v]∧self v=some v)(x3:Dt)(x4 x5:Int)(x6:ByteArray)(x7:List Dt):∀(M i:Nat),i<=l.length->l.length-i<M->
  iL m self M l (l.length:Int) (i:Int) x3 x4 x5 x6 x7 (l.take i)=some (.agg [.int x4,.int x5,.str x6,.lst x7,.lst l])
 |0,i,_,h=>by omega
 |M+1,i,hi,h=>by
  simp only[iL,dlt];by_cases hlt:i<l.length
  ·have hx:(l.take i).length<137438953472:=by rw[List.length_take];omega
   obtain⟨s,v,e1,e2⟩:=hf _ (aF hlt);have e5:Dt.agg [.str (Dt.S l[i] 0),v]=l[i]:=by rw[e1];rfl
   have e4:Dt.fld l[i] 1=v:=by rw[e1];rfl
   simp only[hlt,decide_true,cond_true,bI hlt,ah,e4,e2,e5,TM hx,QT hlt,bX (show i<9223372036854775807 by omega)];exact WM m self l hl hf x3 x4 x5 x6 x7 M (i+1) (by omega) (by omega)
  ·have e:i=l.length:=by omega
   subst e;simp[]
theorem NQ:∀(N:Nat)(d:Dt),d.bulk<=N->N<=137438953472->WV d->∀m,N<=m->bR (m+1) d=some d
 |0,d,h,_,_,_,_=>by have:=iR d;omega
 |N +   1,d,h,hN,hw,m,hm=>by
  cases hw with
  | @mk   k i t l ds hl hd=>
    rw[nK]at h;obtain⟨m,rfl⟩:∃q,m=q+1:=⟨m-1,by omega⟩;have hself:∀e∈l,bR (m+1) e=some e:=fun e he=>NQ N e (by have:=kR he;omega) (by omega) (hl e he) m (by omega);have hfld:∀f∈ds,∃s v,f= .agg [.str s,v]∧bR (m+1) v=some v:=fun f hf=>by
        have hb:=kR hf;cases hd f hf with
        | @mk s v hv=>
          rw[vL]at hb;exact⟨s,v,rfl,NQ N v (by omega) (by omega) hv m (by omega)⟩
    have hl1:=jr l;have hd1:=jr ds;have key:=fun(x3 x4:Dt)=>WL (m+1) (bR (m+1)) l (by omega) hself x3 x4 k i t [] (m+2) 0 (by omega) (by omega);have key6:=fun(x3:Dt)(x7:List Dt)=>WM (m+1) (bR (m+1)) ds (by omega) hfld x3 k i t x7 (m+2) 0 (by omega) (by omega);simp only[List.take_zero]at key key6;show fV (m+1) (bR (m+1)) (m+2) l ((l.length:Nat):Int) ((0:Nat):Int) _ _ k i t [] []=_;rw[key];exact key6 _ _
end Go.Proofs.YtmecfjhdnbgfeaaGreatDoor
namespace Go.Proofs.YtmecfjhdnbgfeaaGreatDoor
open Go.Am Dt
def fi(s:ByteArray):List Dt->Option Nat
 | []=>none
 |f::r=>bif ByteArray.toList (S f 0)==ByteArray.toList s then some 0 else(fi s r).map (· +1)
def oI(i:Nat):Option Nat->Int
 |some k=>((i+k:Nat):Int)
 |none=> -1
theorem anA(i:Nat)(o:Option Nat):oI i (o.map (· +1))=oI (i+1) o:=by cases o<;>simp[oI];omega
theorem aiq{s:ByteArray}:∀{L:List Dt}{k:Nat},fi s L=some k->k<L.length
 | [],k,h=>by cases h
 |f::r,k,h=>by
  rw[fi]at h;cases hc:(ByteArray.toList (S f 0)==ByteArray.toList s)with
  |true=>rw[hc]at h;cases h;simp
  |false=>
   rw[hc,cond_false]at h;cases hr:fi s r with
   |none=>rw[hr]at h;cases h
   |some j=>rw[hr]at h;cases h;have:=aiq hr;simp;omega
def mkV(v:Dt)(l fs:List Dt):Dt:= .agg [.int (I v 0),.int (I v 1),.str (S v 2),.lst l,.lst fs]
def chF(v:Dt)(k:Nat):Dt:=fld ((L v 4).getD k (.int 0)) 1
def air(v:Dt)(k:Nat)(c:Dt):Dt:=mkV v (L v 3) ((L v 4).set k (.agg [.str (S ((L v 4).getD k (.int 0)) 0),c]))
def ap8(v:Dt)(s:ByteArray)(c:Dt):Dt:=mkV v (L v 3) (L v 4++[.agg [.str s,c]])
theorem oI0(k:Nat):oI 0 (some k)=(k:Int):=by simp[oI]
theorem getD_lt{l:List Dt}{k:Nat}{z:Dt}(h:k<l.length):l.getD k z=l[k]:=by rw[List.getD,aA h];rfl
theorem wv6{d:Dt}(hw:WV d):6<=d.bulk:=by cases hw with|mk hl hd=>rw[nK];omega
theorem aqE{v:Dt}(hw:WV v){k:Nat}(hk:k<(L v 4).length):chF v k=fld (L v 4)[k] 1∧WV (chF v k)∧(chF v k).bulk<v.bulk:=by
 have e:chF v k=fld (L v 4)[k] 1:=by unfold chF;rw[getD_lt hk]
 rw[e];exact⟨rfl,(Bn hw).2.2.2 _ (aF hk)⟩
theorem b5{k:Int}(h:k=5):(k==5)=true∧(k !=5)=false:=by subst h;exact⟨rfl,rfl⟩
theorem dn1:decide ((0:Int)<= -1)=false:=rfl
theorem dp1(k:Nat):decide ((0:Int)<=(k:Int))=true:=decide_eq_true (by omega)
theorem oIn:oI 0 none= -1:=rfl
theorem Y1{v:Dt}(hw:WV v):(∀e∈L v 3,WV e)∧(∀f∈L v 4,WF f)∧v.bulk=bulkL (L v 3)+bulkL (L v 4)+((S v 2).size+6):=by
 cases hw with
 |mk hl hd=>exact⟨hl,hd,nK⟩
theorem ap9{v:Dt}(hw:WV v){k:Nat}(hk:k<(L v 4).length):(L v 4)[k]= .agg [.str (S (L v 4)[k] 0),chF v k]∧(L v 4)[k].bulk=(chF v k).bulk+(S (L v 4)[k] 0).size+2:=by
 have h:=(Y1 hw).2.1 _ (aF hk);have hc:=(aqE hw hk).1;rw[hc];generalize (L v 4)[k]=f at h;cases h with
 |mk h=>exact⟨rfl,vL⟩
theorem ais(v:Dt){l fs:List Dt}(hl:∀e∈l,WV e)(hd:∀f∈fs,WF f):WV (mkV v l fs):= .mk hl hd
theorem WO(v:Dt)(l fs:List Dt):(mkV v l fs).bulk=bulkL l+bulkL fs+((S v 2).size+6):=nK
theorem QU:∀{l:List Dt}{k:Nat}(x:Dt)(h:k<l.length),bulkL (l.set k x)+l[k].bulk=bulkL l+x.bulk
 |a::r,0,x,h=>by simp only[List.set_cons_zero,bulkL,List.getElem_cons_zero];omega
 |a::r,k+1,x,h=>by have:=QU x (show k<r.length by simpa using h);simp only[List.set_cons_succ,bulkL,List.getElem_cons_succ];omega
theorem ait{l:List Dt}{k:Nat}{x e:Dt}{Q:Dt->Prop}(h:∀e∈l,Q e)(hx:Q x)(he:e∈l.set k x):Q e:=by
 rcases List.mem_or_eq_of_mem_set he with h'|rfl;·exact h _ h'
 ·exact hx
theorem akj{v c:Dt}(hw:WV v)(hc:WV c)(k:Nat):WV (air v k c):=ais v (Y1 hw).1 fun _ he=>ait (Y1 hw).2.1 (.mk hc) he
theorem acZ{v c:Dt}(hw:WV v){k:Nat}(hk:k<(L v 4).length):(air v k c).bulk+(chF v k).bulk=v.bulk+c.bulk:=by have h1:=QU (agg [.str (S (L v 4)[k] 0),c]) hk;have h2:=(ap9 hw hk).2;rw[vL]at h1;rw[air,WO,getD_lt hk,(Y1 hw).2.2];omega
theorem abD(m:Nat)(s:ByteArray)(v:Dt)(hl:(L v 4).length<9223372036854775807):∀(M i:Nat),i<=(L v 4).length->(L v 4).length-i<M->pG m M s ((L v 4).length:Int) (i:Int) v=some (oI i (fi s ((L v 4).drop i)))
 |0,i,_,h=>by omega
 |M+    1,i,hi,h=>by
  simp only[pG,dlt];by_cases hlt:i<(L v 4).length
  ·rw[aG hlt];simp only[hlt,decide_true,cond_true,bI hlt,ah,fi,bX (show i<9223372036854775807 by omega)];cases (ByteArray.toList (S (L v 4)[i] 0)==ByteArray.toList s)
   ·    simp only[cond_false];rw[abD m s v hl M (i+1) (by omega) (by omega),anA]
   ·simp[oI]
  ·have e:i=(L v 4).length:=by omega
   rw[e,List.drop_length];simp[fi,oI]
theorem aiu(m:Nat)(s:ByteArray)(v:Dt)(h5:I v 0=5)(hm:(L v 4).length<=m)(hm2:m<9223372036854775807):qc (m+1) v s=some (oI 0 (fi s (L v 4))):=by have h:=abD m s v (by omega) (m+1) 0 (aI _) (by omega);rw[aQ]at h;rw[qc,(b5 h5).2,cond_false];exact h
def JV(v:Dt)(s:ByteArray)(r:Dt):Dt:=match fi s (L v 4)with
 |some k=>air v k r
 |none=>ap8 v s r
theorem akk{v r:Dt}{s:ByteArray}(hw:WV v)(hr:WV r):WV (JV v s r):=by
 unfold JV;split;·exact akj hw hr _
 ·refine ais v (Y1 hw).1 fun f hf=>?_;rcases List.mem_append.1 hf with h|h;·exact(Y1 hw).2.1 f h
  ·rw[List.mem_singleton.1 h];exact .mk hr
theorem akl(m:Nat)(s:ByteArray)(v r:Dt)(hw:WV v)(hr:WV r)(h5:I v 0=5)(hm:v.bulk<=m)(hb:v.bulk<=137438953472)(hm':r.bulk<=m)(hb':r.bulk<=137438953472)(hm2:m<9223372036854775807):rJ (m+2) v s r=some (JV v s r):=by
 have hn:=oh v 4;have ev:=qU _ v (aj _) hb hw m hm;have er:=qU _ r (aj _) hb' hr m hm';have hv:=BQ hw.isVal;have hr5:=BQ hr.isVal;have hf:=aiu m s v h5 (by omega) hm2;rw[rJ,ev,ah,show (Em v).1=I v 0 from rfl,(b5 h5).2,cond_false];rw[show I v 0=(Em v).1 from rfl];unfold Et;rw[hv,hf,ah];unfold JV;cases h:fi s (L v 4)with
 |some k=>
  have hk:=aiq h;have hk':k<(Em v).2.2.2.2.length:=hk;simp only[oI0,dp1,cond_true,er,ah,hr5,tZ hk',Int.toNat_natCast,aA hk'];rw[air,getD_lt hk];rfl
 |none=>
  have ha:(Em v).2.2.2.2.length<137438953472:=by show (L v 4).length<_;omega
  simp only[oIn,dn1,cond_false,er,ah,hr5,cond_true,TM ha];rfl
end Go.Proofs.YtmecfjhdnbgfeaaGreatDoor
namespace Go.Proofs.YtmecfjhdnbgfeaaGreatDoor
open Go.Am
def vld(l:List Dt):Bool:=decide (1<=l.length)&&decide (l.length<=16)&&l.all fun e=>nm e.toStr
theorem QV(m:Nat)(s:ByteArray)(hs:s.size<9223372036854775807):∀(M i:Nat),i<=s.size->s.size-i<M->fO m M s (s.size:Int) (i:Int)=some (!((s.data.toList.drop i).all okB))
 |0,i,_,h=>by omega
 |M+1,i,hi,h=>by
  simp only[fO,dlt];by_cases hlt:i<s.size
  ·rw[Tw s i hlt];simp only[hlt,decide_true,cond_true,nu,pY hlt,ah,bX (show i<9223372036854775807 by omega),QV m s hs M (i+1) (by omega) (by omega),List.all_cons,okB];cases decide (((s[i]).toNat:Int)<33)<;>cases decide ((126:Int)<((s[i]).toNat:Int))<;>cases (((s[i]).toNat:Int)==46)<;>rfl
  ·have:i=s.size:=by omega
   subst this;rw[List.drop_eq_nil_of_le (by rw[IK];omega)];simp[]
theorem Y2(m:Nat)(hm:33<=m)(s:ByteArray):mR (m+1) s=some (!nm s):=by
 rw[mR];by_cases h1:s.size<1
 ·rw[decide_eq_true (show ((s.size:Nat):Int)<1 by omega),cond_true,NG s h1];rfl
 rw[decide_eq_false (show ¬((s.size:Nat):Int)<1 by omega),cond_false];by_cases h2:32<s.size
 ·rw[decide_eq_true (show (32:Int)<((s.size:Nat):Int) by omega),cond_true,Kq s h2];rfl
 rw[decide_eq_false (show ¬(32:Int)<((s.size:Nat):Int) by omega),cond_false];have hx:idxS s 0=some (s[0].toNat:Int):=pY (s:=s) (i:=0) (by omega);have hl:=QV m s (by omega) (m+1) 0 (by omega) (by omega);rw[aQ]at hl;have hl':fO m (Nat.succ m) s (s.size:Int) 0=some (!s.data.toList.all okB):=hl;simp only[hx,ah,ny,hl',ND s (by omega) (by omega)];cases (((s[0]).toNat:Int)==36)<;>rfl
theorem WQ(m:Nat)(hm:34<=m)(l:List Dt)(hl:l.length<9223372036854775807):∀(M i:Nat),i<=l.length->l.length-i<M->∃r,F4 m M l (l.length:Int) (i:Int)=some r∧decide ((0:Int)<=r)=!((l.drop i).all fun e=>nm e.toStr)
 |0,i,_,h=>by omega
 |M+1,i,hi,h=>by
  obtain⟨m,rfl⟩:∃k,m=k+1:=⟨m-1,by omega⟩;simp only[F4,dlt];by_cases hlt:i<l.length
  ·rw[aG hlt];obtain⟨r,h1,h2⟩:=WQ (m+1) hm l hl M (i+1) (by omega) (by omega);simp only[hlt,decide_true,cond_true,bI hlt,ah,bX (show i<9223372036854775807 by omega),Y2 m (by omega),h1,List.all_cons];cases hn:nm (l[i]).toStr;·exact⟨(i:Int),by simp,by simp⟩
   ·exact⟨r,by simp,by simpa using h2⟩
  ·have:i=l.length:=by omega
   subst this;exact⟨-1,by simp[],by simp⟩
theorem valid_eq(m:Nat)(hm:40<=m)(l:List Dt):mU (m+3) l=some (vld l):=by
 rw[mU,vld];by_cases h1:1<=l.length
 ·rw[decide_eq_true (show (1:Int)<=((l.length:Nat):Int) by omega),cond_true,decide_eq_true h1,Bool.true_and];by_cases h2:l.length<=16
  ·rw[decide_eq_true (show ((l.length:Nat):Int)<=(16:Int) by omega),cond_true,decide_eq_true h2,Bool.true_and];obtain⟨r,h3,h4⟩:=WQ m (by omega) l (by omega) (m+1) 0 (by omega) (by omega);have h3':F4 m (Nat.succ m) l (l.length:Int) 0=some r:=h3;simp only[i79,i80,h3',ah,h4,Bool.not_not,aQ]
  ·rw[decide_eq_false (show ¬((l.length:Nat):Int)<=(16:Int) by omega),cond_false,decide_eq_false h2,Bool.false_and]
 ·rw[decide_eq_false (show ¬(1:Int)<=((l.length:Nat):Int) by omega),cond_false,decide_eq_false h1,Bool.false_and,Bool.false_and]
theorem NR(m:Nat)(hm:34<=m)(l:List Dt)(hl:l.length<9223372036854775807):∀(M i:Nat),i<=l.length->l.length-i<M->lS m M l (i:Int)=some ((l.drop i).all fun e=>nm e.toStr)
 |0,i,_,h=>by omega
 |M+1,i,hi,h=>by
  obtain⟨m,rfl⟩:∃k,m=k+1:=⟨m-1,by omega⟩;simp only[lS,dlt];by_cases hlt:i<l.length
  ·rw[aG hlt];simp only[hlt,decide_true,cond_true,lT,bI hlt,ah,bX (show i<9223372036854775807 by omega),Kr m (by omega),NR (m+1) hm l hl M (i+1) (by omega) (by omega),List.all_cons];cases nm (l[i]).toStr<;>rfl
  ·have:i=l.length:=by omega
   subst this;simp[lT]
theorem WR(m:Nat)(hm:40<=m)(l:List Dt):iO (m+1) l=some (vld l):=by
 rw[iO,vld];by_cases h1:l.length<1
 ·rw[decide_eq_true (show ((l.length:Nat):Int)<(1:Int) by omega),cond_true,decide_eq_false (show ¬1<=l.length by omega),Bool.false_and,Bool.false_and];rfl
 rw[decide_eq_false (show ¬((l.length:Nat):Int)<(1:Int) by omega),cond_false,decide_eq_true (show 1<=l.length by omega),Bool.true_and];by_cases h2:16<l.length
 ·rw[decide_eq_true (show (16:Int)<((l.length:Nat):Int) by omega),decide_eq_false (show ¬l.length<=16 by omega),Bool.false_and];rfl
 rw[decide_eq_false (show ¬(16:Int)<((l.length:Nat):Int) by omega),decide_eq_true (show l.length<=16 by omega),Bool.true_and];have h3:=NR m (by omega) l (by omega) (m+1) 0 (by omega) (by omega);have h3':lS m (Nat.succ m) l 0=_:=h3;simp only[cond_false,lT,h3',aQ]
end Go.Proofs.YtmecfjhdnbgfeaaGreatDoor
namespace Go.Proofs.YtmecfjhdnbgfeaaGreatDoor
open Go.Am Dt
def O1(op:Int):Int:=
 bif op==1||op==2||op==3 then 0 else bif (op==18||op==22||op==23||op==24||op==26||op==30||op==31||op==36)then 1 else bif op==32||op==33 then 3 else bif op==19||op==25 then 4 else
 bif (op==4||op==6||op==16||op==17||op==21||op==29||op==37)then 5 else bif op==35 then 6 else bif op==34 then 7 else 2
def ehk(s n:Int):Bool:=bif s==0 then n==0 else bif s==1 then n==1 else bif (s==2||s==3)then n==2 else bif s==4 then n==3 else bif s==7 then decide (1<=n)else true
theorem Bo{op:Int}(h1:1<=op)(h2:op<=37):op=1∨op=2∨op=3∨op=4∨op=5∨op=6∨op=7∨op=8∨op=9∨op=10∨op=11∨op=12∨op=13∨op=14∨op=15∨op=16∨op=17∨op=18∨op=19∨op=20∨op=21∨op=22∨op=23∨op=24∨op=25∨op=26∨op=27∨op=28∨op=29∨op=30∨op=31∨op=32∨op=33∨op=34∨op=35∨op=36∨op=37:=by omega
theorem WS(m:Nat){op:Int}(h1:1<=op)(h2:op<=37):oC (m+1) op=some (O1 op):=by rcases Bo h1 h2 with rfl|rfl|rfl|rfl|rfl|rfl|rfl|rfl|rfl|rfl|rfl|rfl|rfl|rfl|rfl|rfl|rfl|rfl|rfl|rfl|rfl|rfl|rfl|rfl|rfl|rfl|rfl|rfl|rfl|rfl|rfl|rfl|rfl|rfl|rfl|rfl|rfl<;>rfl
theorem aqa(m:Nat){op:Int}(h1:1<=op)(h2:op<=37)(n:Int):oN (m+1) (O1 op) n=some (ehk (O1 op) n):=by rcases Bo h1 h2 with rfl|rfl|rfl|rfl|rfl|rfl|rfl|rfl|rfl|rfl|rfl|rfl|rfl|rfl|rfl|rfl|rfl|rfl|rfl|rfl|rfl|rfl|rfl|rfl|rfl|rfl|rfl|rfl|rfl|rfl|rfl|rfl|rfl|rfl|rfl|rfl|rfl<;>rfl
theorem akm{op:Int}(h1:1<=op)(h2:op<=37):(O1 op==3)=(op==32||op==33):=by rcases Bo h1 h2 with rfl|rfl|rfl|rfl|rfl|rfl|rfl|rfl|rfl|rfl|rfl|rfl|rfl|rfl|rfl|rfl|rfl|rfl|rfl|rfl|rfl|rfl|rfl|rfl|rfl|rfl|rfl|rfl|rfl|rfl|rfl|rfl|rfl|rfl|rfl|rfl|rfl<;>rfl
theorem aqb(m:Nat){op:Int}(h1:1<=op)(h2:op<=37)(n:Nat):∃k,ow (m+1) op=some k∧((op=34∧decide (0<=k)=false)∨(op≠34∧(decide (0<=k)&&((n:Int) !=k))=!(ehk (O1 op) n))):=by
 rcases Bo h1 h2 with rfl|rfl|rfl|rfl|rfl|rfl|rfl|rfl|rfl|rfl|rfl|rfl|rfl|rfl|rfl|rfl|rfl|rfl|rfl|rfl|rfl|rfl|rfl|rfl|rfl|rfl|rfl|rfl|rfl|rfl|rfl|rfl|rfl|rfl|rfl|rfl|rfl;all_goals first
  |exact⟨_,rfl,.inl ⟨rfl,rfl⟩⟩
  |exact⟨_,rfl,.inr ⟨by decide,rfl⟩⟩
theorem anB(n:Nat):ehk (O1 34) (n:Int)=!((n:Int)==0):=by
 show decide ((1:Int)<=n)=_;by_cases h:n=0;·subst h;rfl
 ·rw[decide_eq_true (by omega),show ((n:Int)==0)=false by rw[beq_eq_false_iff_ne];omega];rfl
theorem akn(s:ByteArray):vld [.str s]=nm s:=by show (true&&true&&(nm s&&true))=nm s;simp
theorem WT(m:Nat)(hm:40<=m)(s:ByteArray):kD (m+4) s=some (nm s):=by rw[kD,valid_eq m hm,ah,akn]
def dnm(l:List Dt):Bool:=WG nm [] (l.map toStr)
theorem QW(m:Nat)(hm:44<=m)(L:List Dt)(hl:L.length<9223372036854775807):∀(M i:Nat)(mp:List Dt),i<=L.length->L.length-i<M->ail mp ((L.take i).map toStr)->
  eH m M L (L.length:Int) (i:Int) mp=some (WG nm ((L.take i).map toStr) ((L.drop i).map toStr))
 |0,i,_,_,h,_=>by omega
 |M+    1,i,mp,hi,h,hmp=>by
  obtain⟨m,rfl⟩:∃q,m=q+4:=⟨m-4,by omega⟩;rw[eH,dlt];by_cases hlt:i<L.length
  ·have hp:=hmp (toStr L[i]);have hmp':=WC hmp (toStr L[i]);have et:(L.take (i+1)).map toStr=((L.take i).map toStr)++[toStr L[i]]:=by rw[List.take_succ_eq_append_getElem hlt,List.map_append];rfl
   rw[←et]at hmp';have ih:=QW (m+4) hm L hl M (i+1) _ (by omega) (by omega) hmp';rw[aG hlt,List.map_cons,WG,←et];simp only[hlt,decide_true,cond_true,jZ,bI hlt,ah,hp,WT m (by omega),bX (show i<9223372036854775807 by omega),ih];cases nm (toStr L[i])<;>cases ((L.take i).map toStr).any (eqb (toStr L[i]))<;>rfl
  ·have:i=L.length:=by omega
   subst this;simp[WG]
theorem ako(m:Nat)(hm:44<=m)(L:List Dt)(hl:L.length<=m)(hm2:m<9223372036854775000):eY (m+1) L=some (dnm L):=by have h:=QW m hm L (by omega) (m+1) 0 [] (aI _) (by omega) WB;exact h
theorem aiv(m:Nat)(rec1:List Dt->Int->Option Bool)(L:List Dt)(i:Nat)(hi:i<L.length)(hl:L.length<9223372036854775807):∀(M k:Nat),k<=i->i-k<M->
  ou m rec1 M L (i:Int) (k:Int)=bif (((L.take i).drop k).map toStr).any (eqb (toStr L[i]))then some false else rec1 L ((i+1:Nat):Int)
 |0,k,_,h=>by omega
 |M+1,k,hk,h=>by
  rw[ou,dlt];by_cases hlt:k<i
  ·have hk2:k<(L.take i).length:=by simp;omega
   rw[aG hk2,List.getElem_take,List.map_cons,List.any_cons];simp only[hlt,decide_true,cond_true,bI hi,bI (show k<L.length by omega),ah,bX (show k<9223372036854775807 by omega),aiv m rec1 L i hi hl M (k+1) (by omega) (by omega)];rw[NH];show (bif eqb (toStr L[k]) (toStr L[i])then _ else _)=_;cases eqb (toStr L[k]) (toStr L[i])<;>rfl
  ·have:k=i:=by omega
   subst this;rw[List.drop_eq_nil_of_le (by simp;omega)];simp[bX (show k<9223372036854775807 by omega)]
theorem WU(m:Nat)(hm:34<=m)(L:List Dt)(hl:L.length<=m)(hm2:m<9223372036854775000):∀(M i:Nat),i<=L.length->L.length-i<M->
  jM m M L (i:Int)=some (WG nm ((L.take i).map toStr) ((L.drop i).map toStr))
 |0,i,_,h=>by omega
 |M+    1,i,hi,h=>by
  obtain⟨m,rfl⟩:∃q,m=q+1:=⟨m-1,by omega⟩;rw[jM,dlt];by_cases hlt:i<L.length
  ·have et:(L.take (i+1)).map toStr=((L.take i).map toStr)++[toStr L[i]]:=by rw[List.take_succ_eq_append_getElem hlt,List.map_append];rfl
   have hin:=aiv (m+1) (jM (m+1) M) L i hlt (by omega) (m+2) 0 (aI _) (by omega);rw[aQ]at hin;rw[aG hlt,List.map_cons,WG,←et];simp only[hlt,decide_true,cond_true,bI hlt,ah,Kr m (by omega)];cases nm (toStr L[i])with
   |false=>rfl
   |    true=>
        rw[show Nat.succ (m+1)=m+2 from rfl,show (0:Int)=((0:Nat):Int)from rfl,hin];rw[WU (m+1) hm L hl hm2 M (i+1) (by omega) (by omega)];cases ((L.take i).map toStr).any (eqb (toStr L[i]))<;>rfl
  ·have:i=L.length:=by omega
   subst this;simp[WG]
theorem anC(m:Nat)(hm:34<=m)(L:List Dt)(hl:L.length<=m)(hm2:m<9223372036854775000):mJ (m+1) L=some (dnm L):=WU m hm L hl hm2 (m+1) 0 (aI _) (by omega)
def zvl(d:Dt):Bool:=(I d 0==0)&&(I d 1==0)&&(ByteArray.toList (S d 2)==[])&&(((L d 3).length:Int)==0)&&(((L d 4).length:Int)==0)
theorem NS(m:Nat)(d:Dt):oz (m+1) d=some (zvl d):=by rw[oz,zvl];cases (I d 0==0)<;>cases (I d 1==0)<;>cases (ByteArray.toList (S d 2)==[])<;>cases (((L d 3).length:Int)==0)<;>rfl
def zVl:Dt:= .agg [.int 0,.int 0,.str (ByteArray.mk (List.toArray [])),.lst [],.lst []]
theorem WW(m:Nat)(d:Dt):bH (m+2) d zVl=some (zvl d):=by
 have hI0:I zVl 0=0:=rfl;have hI1:I zVl 1=0:=rfl;have hS:ByteArray.toList (S zVl 2)=[]:=by show ByteArray.toList _=[];rw[ByteArray.toList_eq];rfl
 have hL3:L zVl 3=[]:=rfl;have hL4:L zVl 4=[]:=rfl;rw[bH,zvl,hI0,hI1,hS,hL3,hL4,List.length_nil];have b:∀x y:Int,(x !=y)=!(x==y):=fun _ _=>rfl;simp only[b,show ((0:Nat):Int)=0 from rfl];cases (I d 0==0)with
 |false=>simp only[Bool.not_false,cond_true,dY,Bool.false_and]
 |true=>
  cases (I d 1==0)with
  |false=>simp only[Bool.not_false,Bool.not_true,cond_true,cond_false,dY,Bool.false_and,Bool.true_and]
  |true=>
   cases (ByteArray.toList (S d 2)==[])with
   |false=>simp only[Bool.not_false,Bool.not_true,cond_true,cond_false,dY,Bool.false_and,Bool.true_and]
   |    true=>
        cases h3:(((L d 3).length:Int)==0)with
        |false=>simp only[Bool.not_false,Bool.not_true,cond_true,cond_false,dY,Bool.false_and,Bool.true_and]
        |true=>
         cases h4:(((L d 4).length:Int)==0)with
         |false=>simp only[Bool.not_false,Bool.not_true,cond_true,cond_false,dY,Bool.false_and,Bool.true_and]
         |true=>
          have e3:L d 3=[]:=List.length_eq_zero_iff.1 (by have:=(beq_iff_eq).1 h3;omega);have e4:L d 4=[]:=List.length_eq_zero_iff.1 (by have:=(beq_iff_eq).1 h4;omega);simp only[Bool.not_true,cond_false,Bool.true_and,lU,dY];rw[sG];simp only[e3,List.length_nil,show ((0:Nat):Int)=0 from rfl,Int.lt_irrefl,decide_false,cond_false,lU,dY];rw[nO];simp only[e4,List.length_nil,show ((0:Nat):Int)=0 from rfl,Int.lt_irrefl,decide_false,cond_false,lU,dY]
def sA(d:Dt):Int:=bif (!(I d 0==1)&&!(zvl (fld d 4)))||(I d 5 !=0)then 4 else 0
def sB(x0 x1:Bool)(d:Dt):Int:=bif (!x0&&decide ((0:Int)<((L d 1).length:Int)))||((!x1&&!(ByteArray.toList (S d 2)==[]))||(!(I d 0==34)&&decide ((0:Int)<((L d 3).length:Int))))then 4 else sA d
def sC(x0 x1:Bool)(d:Dt):Int:=bif (I d 0==1)&&!(okV (fld d 4))then 8 else sB x0 x1 d
def sD(x0 x1:Bool)(d:Dt):Int:=bif (x1&&!(nm (S d 2)))||((I d 0==34)&&!(dnm (L d 3)))then 9 else sC x0 x1 d
def sE(x0 x1:Bool)(d:Dt):Int:=bif x0&&(!(vld (L d 1))&&((I d 0==2)||decide ((0:Int)<((L d 1).length:Int))))then 10 else sD x0 x1 d
def nodeS(d:Dt):Int:=bif decide (I d 0<1)||decide (37<I d 0)then 11 else
 bif !(ehk (O1 (I d 0)) ((L d 6).length:Int))||((I d 0==34)&&(((L d 6).length:Int) !=((L d 3).length:Int)))then 11 else sE (I d 0==2||I d 0==3) (I d 0==3||(I d 0==32||I d 0==33)) d
theorem aiw(x y:Int):(x !=y)=!(x==y):=rfl
section
variable(k:Nat)(d:Dt)
theorem pA:qd (k+1) d=some (sA d):=by rw[qd,NS,ah,sA];simp only[jQ,aiw];cases (I d 0==1)<;>cases zvl (fld d 4)<;>cases (I d 5==0)<;>rfl
theorem pB(x0 x1:Bool):qg (k+1) x0 x1 d=some (sB x0 x1 d):=by rw[qg,sB];simp only[dh,pA,aiw];cases x0<;>cases x1<;>cases decide ((0:Int)<((L d 1).length:Int))<;>cases (ByteArray.toList (S d 2)==[])<;>cases (I d 0==34)<;>cases decide ((0:Int)<((L d 3).length:Int))<;>rfl
theorem pC(x0 x1:Bool)(hw:WV (fld d 4))(hk:3*(fld d 4).bulk+300<=k)(hb:(fld d 4).bulk<=100000000000):qH (k+3) x0 x1 d=some (sC x0 x1 d):=by rw[qH,QN hw k hk hb,ah,sC];simp only[mX,pB];cases (I d 0==1)<;>cases okV (fld d 4)<;>rfl
theorem pD(x0 x1:Bool)(hw:WV (fld d 4))(hk:3*(fld d 4).bulk+300<=k)(hb:(fld d 4).bulk<=100000000000)(hn:(L d 3).length<=k)(hk2:k<9223372036854770000):qI (k+4) x0 x1 d=some (sD x0 x1 d):=by rw[qI,WT k (by omega),ako (k+3) (by omega) (L d 3) (by omega) (by omega),ah,ah,sD];simp only[gM,pC (k+1) d x0 x1 hw (by omega) hb];cases x1<;>cases nm (S d 2)<;>cases (I d 0==34)<;>cases dnm (L d 3)<;>rfl
theorem pE(x0 x1:Bool)(hw:WV (fld d 4))(hk:3*(fld d 4).bulk+300<=k)(hb:(fld d 4).bulk<=100000000000)(hn:(L d 3).length<=k)(hk2:k<9223372036854770000):kJ (k+4) x0 x1 d=some (sE x0 x1 d):=by rw[kJ,valid_eq (k+1) (by omega),ah,sE];simp only[iU,pD k d x0 x1 hw hk hb hn hk2];cases x0<;>cases vld (L d 1)<;>cases (I d 0==2)<;>cases decide ((0:Int)<((L d 1).length:Int))<;>rfl
theorem ac0(hw:WV (fld d 4))(hk:3*(fld d 4).bulk+300<=k)(hb:(fld d 4).bulk<=100000000000)(hn:(L d 3).length<=k)(hk2:k<9223372036854770000):jR (k+5) d=some (nodeS d):=by
 rw[jR,nodeS];by_cases h1:I d 0<1;·rw[decide_eq_true h1,cond_true,Bool.true_or,cond_true];rfl
 by_cases h2:37<I d 0;·rw[decide_eq_false h1,decide_eq_true h2,cond_false,cond_true,Bool.or_true,cond_true];rfl
 rw[decide_eq_false h1,decide_eq_false h2,cond_false,cond_false,Bool.or_false,cond_false,WS (k+3) (by omega) (by omega),ah,aqa (k+3) (by omega) (by omega),ah];have hE:=fun x0 x1=>pE k d x0 x1 hw hk hb hn hk2;have hl:(O1 (I d 0)==3)=(I d 0==32||I d 0==33):=akm (by omega) (by omega);simp only[kK,nU,nT,WS (k+3) (show 1<=I d 0 by omega) (by omega),ah,hE,hl,aiw];cases ehk (O1 (I d 0)) ((L d 6).length:Int)<;>cases (I d 0==34)<;>cases (((L d 6).length:Int)==((L d 3).length:Int))<;>cases (I d 0==2)<;>cases (I d 0==3)<;>rfl
theorem rB(x0:Bool)(x1:Bool)(h:x0=(I d 0==2||I d 0==3)):xB (k+2) x1 d=some (sB x0 x1 d):=by subst h;have hs:bH (k+2) (fld d 4) (agg [(int 0),(int 0),(str (ByteArray.mk (List.toArray []))),(lst []),(lst [])])=some (zvl (fld d 4)):=WW k (fld d 4);have hs2:bH (k+2) (fld d 4) aC=some (zvl (fld d 4)):=WW k (fld d 4);rw[xB,sB,sA];simp only[bC,hs,hs2,ah,aiw];cases (I d 0==2)<;>cases (I d 0==3)<;>cases decide ((0:Int)<((L d 1).length:Int))<;>cases x1<;>cases (ByteArray.toList (S d 2)==[])<;>cases (I d 0==34)<;>cases decide ((0:Int)<((L d 3).length:Int))<;>cases (I d 0==1)<;>cases zvl (fld d 4)<;>cases (I d 5==0)<;>rfl
theorem rC(x0 x1:Bool)(h:x0=(I d 0==2||I d 0==3))(hw:WV (fld d 4))(hk:2*(fld d 4).bulk+300<=k)(hb:(fld d 4).bulk<=100000000000)(hk2:k<9223372036854770000):xC (k+4) x1 d=some (sC x0 x1 d):=by rw[xC,BO hw k hk (by omega) hb,ah,sC];simp only[sI,rB (k+2) d x0 x1 h];cases (I d 0==1)<;>cases okV (fld d 4)<;>rfl
theorem rD(x0 x1:Bool)(h:x0=(I d 0==2||I d 0==3))(hw:WV (fld d 4))(hk:2*(fld d 4).bulk+300<=k)(hb:(fld d 4).bulk<=100000000000)(hn:(L d 3).length<=k)(hk2:k<9223372036854770000):nP (k+4) x1 d=some (sD x0 x1 d):=by rw[nP,Kr (k+3) (by omega),anC (k+3) (by omega) (L d 3) (by omega) (by omega),ah,ah,sD];simp only[kX,rC k d x0 x1 h hw hk hb hk2];cases x1<;>cases nm (S d 2)<;>cases (I d 0==34)<;>cases dnm (L d 3)<;>rfl
theorem rE(hw:WV (fld d 4))(hk:2*(fld d 4).bulk+300<=k)(hb:(fld d 4).bulk<=100000000000)(hn:(L d 3).length<=k)(hk2:k<9223372036854770000):xD (k+4) d=some (sE (I d 0==2||I d 0==3) (I d 0==3||(I d 0==32||I d 0==33)) d):=by rw[xD,WR (k+3) (by omega),ah,ah,sE];have hD:=fun x1=>rD k d _ x1 rfl hw hk hb hn hk2;simp only[iH,hD];cases h2:(I d 0==2)<;>cases h3:(I d 0==3)<;>cases vld (L d 1)<;>cases decide ((0:Int)<((L d 1).length:Int))<;>cases (I d 0==32)<;>first|rfl|(exfalso;have a2:=(beq_iff_eq).1 h2;have a3:=(beq_iff_eq).1 h3;omega)
theorem aix(hw:WV (fld d 4))(hk:2*(fld d 4).bulk+300<=k)(hb:(fld d 4).bulk<=100000000000)(hn:(L d 3).length<=k)(hk2:k<9223372036854770000):qb (k+5) d=some (nodeS d):=by
 rw[qb,nodeS];by_cases h1:I d 0<1;·rw[decide_eq_true h1,cond_true,Bool.true_or,cond_true];rfl
 by_cases h2:37<I d 0;·rw[decide_eq_false h1,decide_eq_true h2,cond_false,cond_true,Bool.or_true,cond_true];rfl
 obtain⟨c,c1,c2⟩:=aqb (k+3) (show 1<=I d 0 by omega) (by omega) (L d 6).length;rw[decide_eq_false h1,decide_eq_false h2,cond_false,cond_false,Bool.or_false,cond_false,c1,ah,ah];have hE:=rE k d hw hk hb hn hk2;simp only[fJ,hE];rcases c2 with⟨e,c2⟩| ⟨e,c2⟩
 ·rw[c2,e,anB];simp only[cond_false,aiw,beq_self_eq_true,cond_true,Bool.true_and];cases (((L d 6).length:Int)==0)<;>cases (((L d 6).length:Int)==((L d 3).length:Int))<;>rfl
 ·have e':(I d 0==34)=false:=by rw[beq_eq_false_iff_ne];exact e
  rw[e'];simp only[cond_false,Bool.false_and,Bool.or_false];rw[←c2];cases decide (0<=c)<;>cases (((L d 6).length:Int) !=c)<;>rfl
end
inductive WE:Dt->Prop where
 |mk {d:Dt} (h4:WV (fld d 4)) (h6:∀e∈L d 6,WE e):WE d
theorem aiy:∀(N:Nat)(d:Dt),d.bulk<=N->HasTy Tryz.prog 29 d->WE d
 |0,d,h,_=>by have:=iR d;omega
 |N+1,d,h,ht=>by have hs:=(anl Tryz.underlying29 ht).2;have t4:HasTy Tryz.prog 26 (fld d 4):=hs 4 _ rfl;have t6:HasTy Tryz.prog 27 (fld d 6):=hs 6 _ rfl;refine .mk (abm t4) fun e he=>?_;have tp:=(Tt Tryz.underlying27 t6).2.2 e he;have h1:=oK (d:=d) (i:=6) he;exact aiy N _ (by omega) tp
def ckL(f:Dt->Nat->Nat×Int):List Dt->Nat->Nat×Int
 | [],n=>(n,0)
 |e::r,n=>bif (f e n).2 !=0 then f e n else ckL f r (f e n).1
def ckE:Nat->Dt->Nat->Nat×Int
 |0,_,n=>(n,2)
 |r+1,d,n=>bif Nat.beq n 256 then(n,2)else bif nodeS d !=0 then(n+1,nodeS d)else ckL (ckE r) (L d 6) (n+1)
theorem Y3{f:Dt->Nat->Nat×Int}(h:∀e n,n<=256->(f e n).1<=256):∀(l:List Dt)(n:Nat),n<=256->(ckL f l n).1<=256
 | [],n,hn=>hn
 |e::r,n,hn=>by
  rw[ckL];cases ((f e n).2 !=0)with
  |true=>exact h e n hn
  |false=>exact Y3 h r _ (h e n hn)
theorem NT:∀(r:Nat)(d:Dt)(n:Nat),n<=256->(ckE r d n).1<=256
 |0,d,n,hn=>hn
 |r+1,d,n,hn=>by
  rw[ckE];cases hb:Nat.beq n 256 with
  |true=>exact hn
  |false=>
   have:n≠256:=fun h=>by subst h;cases hb
   cases (nodeS d !=0)with
   |true=>show n+1<=256;omega
   |false=>exact Y3 (fun e n h=>NT r e n h) _ _ (by omega)
theorem WX(m:Nat)(self:Dt->Int->Int->Option (Int×Int))(f:Dt->Nat->Nat×Int)(lv:Int)(h0:0<=lv∧lv<=17)(L:List Dt)(hl:L.length<9223372036854775807)(hf:∀e n,n<=256->(f e n).1<=256)
  (hs:∀e∈L,∀n:Nat,n<=256->self e (lv+1) (n:Int)=some ((f e n).2,((f e n).1:Int))):∀(M i n:Nat),i<=L.length->L.length-i<M->n<=256->
  F9 m self M lv L (L.length:Int) (i:Int) (n:Int)=some ((ckL f (L.drop i) n).2,((ckL f (L.drop i) n).1:Int))
 |0,i,_,_,h,_=>by omega
 |M+    1,i,n,hi,h,hn=>by
  rw[F9,dlt];by_cases hlt:i<L.length
  ·have hsi:=hs _ (aF hlt) n hn;have hfi:=hf L[i] n hn;rw[decide_eq_true hlt,cond_true,bI hlt,ah,wrap64 (n:=lv+1) (by omega) (by omega),hsi,ah,aG hlt,ckL];show (bif (f L[i] n).2 !=0 then some ((f L[i] n).2,((f L[i] n).1:Int))else Xb m self (F9 m self M) lv L (L.length:Int) (i:Int) ((f L[i] n).1:Int))=_;cases ((f L[i] n).2 !=0)with
   |true=>rfl
   |    false=>
        rw[cond_false,cond_false,Xb,bX (by omega)];exact WX m self f lv h0 L hl hf hs M (i+1) _ (by omega) (by omega) hfi
  ·have e:i=L.length:=by omega
   subst e;rw[decide_eq_false hlt,List.drop_length,ckL];rfl
theorem WY(B:Nat)(hB:B<=100000000)(k:Nat)(hk:3*B+400<=k)(hk2:k<9223372036854760000):∀(r:Nat),r<=16->∀(d:Dt)(n:Nat),WE d->d.bulk<=B->n<=256->
  i50 (k+r+6) d ((17:Int)-(r:Int)) (n:Int)=some ((ckE r d n).2,((ckE r d n).1:Int))
 |0,_,d,n,_,_,_=>rfl
 |r+    1,hr,d,n,hw,hb,hn=>by
  rw[show k+(r+1)+6=(k+r+6)+1 by omega,i50,decide_eq_false (by omega),cond_false,Rh,ckE];by_cases h256:n=256;·subst h256;rfl
  ·have e1:(((n:Nat):Int)==256)=false:=by rw[beq_eq_false_iff_ne];omega
   have e2:Nat.beq n 256=false:=by
        cases hh:Nat.beq n 256 with
        |false=>rfl
        |true=>exact absurd (aU hh) h256
   have hw':=hw;cases hw' with
   |    mk h4 h6=>
        have hb4:=mF d 4;have hl3:=oh d 3;have hl6:=oh d 6;rw[e1,e2,cond_false,cond_false,show k+r+6=(k+r+1)+5 by omega,ac0 (k+r+1) d h4 (by omega) (by omega) (by omega) (by omega),ah,bX (by omega)];cases (nodeS d !=0)with
        |true=>rfl
        |false=>
         rw[cond_false,cond_false];have key:=WX ((k+r+1)+5) (i50 ((k+r+1)+5)) (ckE r) ((17:Int)-((r+1:Nat):Int)) (by omega) (L d 6) (by omega) (fun e n h=>NT r e n h) (fun e he n hn=>by have hm:=oK he;have:=WY B hB k hk hk2 r (by omega) e n (h6 e he) (by omega) hn;rw[show k+r+6=(k+r+1)+5 by omega]at this;rw[←this];congr 1;omega) ((k+r+1)+6) 0 (n+1) (aI _) (by omega) (by omega)
         rw[aQ]at key;exact key
theorem QX(B:Nat)(hB:B<=100000000)(k:Nat)(hk:3*B+400<=k)(hk2:k<9223372036854760000)(d:Dt)(hw:WE d)(hb:d.bulk<=B):qh (k+23) d=some (ckE 16 d 0).2:=by have h:=WY B hB k hk hk2 16 (aj _) d 0 hw hb (by omega);rw[qh];have h':i50 (k+22) d 1 0=some ((ckE 16 d 0).2,((ckE 16 d 0).1:Int)):=h;rw[h'];rfl
theorem abE(m:Nat)(self:Dt->Int->Int->Option (Int×Int))(f:Dt->Nat->Nat×Int)(lv:Int)(h0:0<=lv∧lv<=17)(d:Dt)(hl:(L d 6).length<9223372036854775807)(hf:∀e n,n<=256->(f e n).1<=256)
  (hs:∀e∈L d 6,∀n:Nat,n<=256->∃a,self e (((n+1:Nat)):Int) (lv+1)=some (a,(f e n).2)∧((f e n).2=0->a=((f e n).1:Int))):∀(M i n:Nat),i<=(L d 6).length->(L d 6).length-i<M->n<=256->
  ∃a,lV m self M (n:Int) lv (i:Int) d=some (a,(ckL f ((L d 6).drop i) n).2)∧((ckL f ((L d 6).drop i) n).2=0->a=((ckL f ((L d 6).drop i) n).1:Int))
 |0,i,_,_,h,_=>by omega
 |M+    1,i,n,hi,h,hn=>by
  rw[lV,dlt];by_cases hlt:i<(L d 6).length
  ·obtain⟨a,a1,a2⟩:=hs _ (aF hlt) n hn;have hfi:=hf (L d 6)[i] n hn;rw[decide_eq_true hlt,cond_true,bI hlt,ah,wrap64 (n:=lv+1) (by omega) (by omega),bX (by omega),a1,ah,aG hlt,ckL];show ∃a',(bif (f (L d 6)[i] n).2 !=0 then some (a,(f (L d 6)[i] n).2)else uO m self (lV m self M) lv (i:Int) a d)=_∧_;cases hz:((f (L d 6)[i] n).2 !=0)with
   |    true=>
        refine⟨a,rfl,fun h=>?_⟩;rw[cond_true]at h;rw[h]at hz;cases hz
   |    false=>
        have hz':(f (L d 6)[i] n).2=0:=by simpa [bne]using hz
        rw[cond_false,cond_false,uO,bX (by omega),a2 hz'];exact abE m self f lv h0 d hl hf hs M (i+1) _ (by omega) (by omega) hfi
  ·have e:i=(L d 6).length:=by omega
   subst e;rw[decide_eq_false hlt,List.drop_length,ckL];exact⟨_,rfl,fun _=>rfl⟩
theorem abF(B:Nat)(hB:B<=100000000)(k:Nat)(hk:3*B+400<=k)(hk2:k<9223372036854760000):∀(r:Nat),r<=16->∀(d:Dt)(n:Nat),WE d->d.bulk<=B->n<=256->
  ∃a,fG (k+r+6) d ((n+1:Nat):Int) ((17:Int)-(r:Int))=some (a,(ckE r d n).2)∧((ckE r d n).2=0->a=((ckE r d n).1:Int))
 |0,_,d,n,_,_,_=>⟨_,rfl,fun h=>by cases h⟩
 |r+    1,hr,d,n,hw,hb,hn=>by
  rw[show k+(r+1)+6=(k+r+6)+1 by omega,fG,decide_eq_false (by omega),cond_false,qC,ckE];by_cases h256:n=256;·subst h256;exact⟨_,rfl,fun h=>by cases h⟩
  ·have e1:decide ((256:Int)<((n+1:Nat):Int))=false:=decide_eq_false (by omega);have e2:Nat.beq n 256=false:=by
        cases hh:Nat.beq n 256 with
        |false=>rfl
        |true=>exact absurd (aU hh) h256
   have hw':=hw;cases hw' with
   |    mk h4 h6=>
        have hb4:=mF d 4;have hl3:=oh d 3;have hl6:=oh d 6;rw[e1,e2,cond_false,cond_false,show k+r+6=(k+r+1)+5 by omega,aix (k+r+1) d h4 (by omega) (by omega) (by omega) (by omega),ah];cases hz:(nodeS d !=0)with
        |true=>
         refine⟨_,rfl,fun h=>?_⟩;have h:nodeS d=0:=h;rw[h]at hz;cases hz
        |false=>
         rw[cond_false,cond_false];have key:=abE ((k+r+1)+5) (fG ((k+r+1)+5)) (ckE r) ((17:Int)-((r+1:Nat):Int)) (by omega) d (by omega) (fun e n h=>NT r e n h) (fun e he n hn=>by have hm:=oK he;obtain⟨a,a1,a2⟩:=abF B hB k hk hk2 r (by omega) e n (h6 e he) (by omega) hn;rw[show k+r+6=(k+r+1)+5 by omega]at a1;refine⟨a,?_,a2⟩;rw[←a1];congr 1;omega) ((k+r+1)+6) 0 (n+1) (aI _) (by omega) (by omega)
         rw[aQ]at key;exact key
theorem NU(B:Nat)(hB:B<=100000000)(k:Nat)(hk:3*B+400<=k)(hk2:k<9223372036854760000)(d:Dt)(hw:WE d)(hb:d.bulk<=B):kC (k+23) d=some (ckE 16 d 0).2:=by obtain⟨a,h,_⟩:=abF B hB k hk hk2 16 (aj _) d 0 hw hb (by omega);rw[kC];have h':fG (k+22) d 1 1=some (a,(ckE 16 d 0).2):=h;rw[h'];rfl
