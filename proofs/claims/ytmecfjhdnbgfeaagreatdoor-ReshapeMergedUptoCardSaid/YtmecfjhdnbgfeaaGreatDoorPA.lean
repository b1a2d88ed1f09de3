/- The abstract machine, part 21: from the kit's reading of arguments to plain data; what a law's contract says of every argument.
Small facts on the primitive functions of the shallow texts.
Data of the seat's types,taken apart.
Values:well-formed data,and their sizes.
Values:their integers are 64-bit.
How much the parts of a datum hold.
Lengths of encodings:the program's,as a plain function.
Values:their parts.
Values:how many values are within a value,and how many levels it has:the program's functions and the reference's,in plain Lean.
UTF-8:the library's decoder and the reference's test agree,in plain Lean.
Names,in plain Lean.
UTF-8:the reference's test is the library's.
Sets of strings as maps:what a map of 'true' holds is what was put in.
Valid and well-formed values:the program's test and the reference's,in plain Lean.
Values:how many levels a value has;valid and well-formed values:the program and the reference agree.
Lengths of encodings:the reference's,by the encoding itself.
Fields by name,numbers,the reference's Set (out of layer 4's texts). -/
import Derived.Test.YtmecfjhdnbgfeaaGreatDoorA2
import Derived.OpenShut
import Derived.Carry
import Derived.Test.YtmecfjhdnbgfeaaGreatDoorA4
import Derived.Test.YtmecfjhdnbgfeaaGreatDoorProg
import Derived.Test.YtmecfjhdnbgfeaaGreatDoorSh
import Derived.Lib.MapLaws
import Derived.Lib.ValidU
set_option linter.all false
namespace Go.Am
open Go.RowKit Go.ChangeShapes Dt
def avj(P:Program)(fs:List Field)(n:Nat):Bool:=(List.range n).all fun j=>fs.any fun f=>Nat.ble f.offset j&&Nat.blt j (f.offset+P.cellsOf f.type)
def aip(P:Program)(Ts:List TypeId):Bool:=Ts.all fun T=>match P.underlying T with
 |some (.int _)=>true
 |some .bool=>true
 |some .string=>true
 |some (.slice e)=>dV e Ts&&!Nat.beq (P.cellsOf e) 0
 |some (.struct fs)=>(fs.toList.all fun f=>dV f.type Ts)&&avj P fs.toList (P.cellsOf T)
 |_=>false
mutual
def Dt.bulk:Dt->Nat
 | .int _=>1
 | .bool _=>1
 | .str s=>s.size+1
 | .agg ds=>Dt.bulkL ds+1
 | .lst es=>Dt.bulkL es+1
def Dt.bulkL:List Dt->Nat
 | []=>0
 |d::r=>Dt.bulk d+Dt.bulkL r
end
structure BulkOK {H:Type} (B:DataW H->Nat) (BA:List (DataW H)->Nat):Prop where
 str:∀l,B (.lit (.string l))=l.length+1
 lit:∀l,1<=B (.lit l)
 nil:1<=B .nil
 slice:∀es sp,B (.slice es sp)=BA es+BA sp+1
 agg:∀ps,B (.agg ps)=BA ps+1
 none:BA []=0
 cons:∀d r,BA (d::r)=B d+BA r
theorem BulkOK.le{H:Type}{B:DataW H->Nat}{BA:List (DataW H)->Nat}(h:BulkOK B BA):∀{ds:List Dt}{Ds:List (DataW H)},ds.length=Ds.length->(∀(i:Nat)(d:Dt)(D:DataW H),ds[i]? =some d->Ds[i]? =some D->d.bulk<=B D)->bulkL ds<=BA Ds
 | [],[],_,_=>by simp[bulkL,h.none]
 |d::ds,D::Ds,hl,hp=>by have h1:=hp 0 d D rfl rfl;have h2:=BulkOK.le h (ds:=ds) (Ds:=Ds) (by simpa using hl) fun i d D h3 h4=>hp (i+1) d D (by simpa using h3) (by simpa using h4);rw[h.cons];simp only[bulkL];omega
 | [],_::_,hl,_=>by simp at hl
 |_::_,[],hl,_=>by simp at hl
def HasTy(P:Program)(T:TypeId)(d:Dt):Prop:=∃(ok:Nat->Prop)(w:World)(cs:List Value),RD P ok w T d cs
section
variable{H:Type}{enc:TypeId×Value->H}{P:Program}{w:World}{sp:Nat->Bool}{Ts:List TypeId}
theorem aiq{k:IntKind}{n:Int}(h:(Lit.int k n).wf=true):k.min<=n∧n<=k.max:=by simpa [Lit.wf]using h
theorem lT{A:Type}{Q:Nat->A->Prop}:∀(n:Nat),(∀i,i<n->∃d,Q i d)->∃ds:List A,ds.length=n∧∀i d,ds[i]? =some d->Q i d
 |0,_=>⟨[],rfl,fun i d h=>by simp at h⟩
 |n+    1,h=>by
  obtain⟨ds,h1,h2⟩:=lT n fun i hi=>h i (Nat.lt_succ_of_lt hi);obtain⟨d,hd⟩:=h n (Nat.lt_succ_self n);refine⟨ds++[d],by simp[h1],fun i x hx=>?_⟩;by_cases hi:i<ds.length;·rw[List.getElem?_append_left hi]at hx;exact h2 i x hx
  ·rw[List.getElem?_append_right (by omega)]at hx;have h3:i-ds.length=0:=by have:=(au.1 hx).1;simp at this;omega
   rw[h3]at hx;simp at hx;subst hx
   rwa [show i=n by omega]
theorem Eu{a:Addr}{n:Nat}{cs:List Value}(h:w.cells? 0 a n=some cs):cs.length=n∧∀j v,cs[j]? =some v->w.cell? (a.add j)=some v:=by
 unfold World.cells? at h;rw[if_pos (aS _)]at h;have hl:=mapM_some_length h;simp at hl;refine⟨hl,fun j v hv=>?_⟩;have hj:j<n:=by rw[←hl];exact(au.1 hv).1
 have:=mapM_some_get h j j (by simp[hj]);rw[this];exact hv
theorem akq{a:Addr}{v:Value}(h:w.cell? a=some v):a.block<w.heap.size:=by
 rcases Nat.lt_or_ge a.block w.heap.size with h1|h1;·exact h1
 ·unfold World.cell? at h;rw[Array.getElem?_eq_none h1]at h;simp at h
theorem Oe{B:DataW H->Nat}{BA:List (DataW H)->Nat}(hB:BulkOK B BA)(hc:aip P Ts=true):∀(n:Nat)(t:TypeId)(cs:List Value)(x:DataW H×List MemPlace),t∈Ts->DataW.trod enc P w 0 sp true n t cs=some x->(∀c∈cs,c.oneCell'=true)∧∃d,RD P (fun b=>b<w.heap.size) w t d cs∧d.bulk<=B x.1:=by
 intro n;induction n with
 |zero=>intro t cs x _ h;simp[DataW.trod]at h
 |succ n ih=>
  intro t cs x ht h;have hT:=List.all_eq_true.1 hc t ht;split at hT
  ·rename_i k hu;obtain⟨m,rfl,rfl,hwf⟩:=DataW.trod_int hu h;exact⟨by simp[Value.oneCell'],.int m,.int hu (aiq hwf).1 (aiq hwf).2,by simpa [Dt.bulk]using hB.lit _⟩
  ·rename_i hu;obtain⟨b,rfl,rfl⟩:=DataW.trod_bool hu h;exact⟨by simp[Value.oneCell'],.bool b,.bool hu,by simpa [Dt.bulk]using hB.lit _⟩
  ·rename_i hu;obtain⟨s,rfl,rfl,hs⟩:=DataW.trod_string hu h;refine⟨by simp[Value.oneCell'],.str s,.str hu hs,?_⟩;rw[hB.str,Array.length_toList];exact aM _
  ·rename_i e hu;rw[aJ]at hT;have he:e∈Ts:=jK.1 hT.1;have hz:P.cellsOf e≠0:=fun e0=>by rw[e0]at hT;simp at hT
   rcases DataW.trod_slice hu h with⟨rfl,rfl⟩| ⟨a,len,cap,elems,rest,m,hm,rfl,rfl,_,hlc,hcm,hel,hget,_,_⟩;·exact⟨by simp[Value.oneCell'],.lst [],RD.nil hu,by simpa [Dt.bulk,bulkL]using hB.nil⟩
   ·    obtain rfl:n=m:=by omega
        refine⟨by simp[Value.oneCell'],?_⟩;have hi:∀i,i<len->∃q:List Value×Dt,w.cells? 0 (a.add (i*P.cellsOf e)) (P.cellsOf e)=some q.1∧(∀c∈q.1,c.oneCell'=true)∧RD P (fun b=>b<w.heap.size) w e q.2 q.1∧∀D,elems[i]? =some D->q.2.bulk<=B D.1:=by intro i hi;have h1:=hget i hi;have hei:=aG (show i<elems.length by omega);rw[hei]at h1;obtain⟨cs,h2,h3⟩:=aj.1 h1;obtain⟨h4,d,h5,h6⟩:=ih e cs _ he h3;exact⟨(cs,d),h2,h4,h5,fun D hD=>by rw[hei]at hD;cases hD;exact h6⟩
        obtain⟨qs,hql,hq⟩:=lT len hi;refine⟨.lst (qs.map (·.2)),.lst a (fun i=>(qs.getD i ([],.int 0)).1) hu (by simp[hql]) hlc hcm (fun h0=>⟨rfl,?_⟩) (fun i hi=>?_) (fun i d hd=>?_),?_⟩
        ·have hq0:=hq 0 _ (aG (by omega));obtain⟨h1,_,h3,_⟩:=hq0;obtain⟨h4,h5⟩:=Eu h1;have h6:0<(qs[0]'(by omega)).1.length:=by omega
         have:=akq (h5 0 _ (aG h6))
         rwa [add_add,block_add]at this
        ·have hq1:=hq i _ (aG (by omega));obtain⟨h1,h2,_,_⟩:=hq1;obtain⟨h4,h5⟩:=Eu h1;have e1:(qs.getD i ([],.int 0))=qs[i]'(by omega):=by simp[List.getD,aG (show i<qs.length by omega)]
         rw[e1];refine⟨h4,h2,fun j v hv=>?_⟩;have:=h5 j v hv
         rwa [add_add]at this
        ·rw[List.getElem?_map]at hd;obtain⟨q,hq1,rfl⟩:=aT.1 hd;obtain⟨_,_,h3,_⟩:=hq i q hq1;have e1:(qs.getD i ([],.int 0))=q:=by simp[List.getD,hq1]
         rw[e1];exact h3
        ·rw[hB.slice];have hle:=hB.le (ds:=qs.map (·.2)) (Ds:=elems.map (·.1)) (by simp[hql,hel]) fun i d D h1 h2=>by rw[List.getElem?_map]at h1 h2;obtain⟨q,hq1,rfl⟩:=aT.1 h1;obtain⟨y,hy1,rfl⟩:=aT.1 h2;exact(hq i q hq1).2.2.2 y hy1
         simp only[Dt.bulk];omega
  ·rename_i fs hu;obtain⟨xs,m,hm,rfl,hlen,hxl,hget⟩:=DataW.trod_struct hu h;obtain rfl:n=m:=by omega
   rw[aJ]at hT;have hf:∀i,i<fs.size->∃d,∀f,fs[i]? =some f->(∀c∈(cs.drop f.offset).take (P.cellsOf f.type),c.oneCell'=true)∧RD P (fun b=>b<w.heap.size) w f.type d ((cs.drop f.offset).take (P.cellsOf f.type))∧∀D,xs[i]? =some D->d.bulk<=B D.1:=by intro i hi;have hfi:fs[i]? =some fs[i]:=Array.getElem?_eq_getElem hi;have h1:=hget i _ hfi;have hxi:=aG (show i<xs.length by omega);rw[hxi]at h1;have hm:fs[i].type∈Ts:=jK.1 (List.all_eq_true.1 hT.1 fs[i] (by simp));obtain⟨h2,d,h3,h4⟩:=ih _ _ _ hm h1;exact⟨d,fun f hf=>by rw[hfi]at hf;cases hf;exact⟨h2,h3,fun D hD=>by rw[hxi]at hD;cases hD;exact h4⟩⟩
   obtain⟨ds,hdl,hd⟩:=lT fs.size hf;have hone:∀c∈cs,c.oneCell'=true:=by intro c hcm;obtain⟨j,hj,rfl⟩:=List.getElem_of_mem hcm;have hcov:=List.all_eq_true.1 hT.2 j (List.mem_range.2 (by omega));obtain⟨f,hfm,hfj⟩:=List.any_eq_true.1 hcov;rw[aJ]at hfj;have h1:=ak hfj.1;have h2:j<f.offset+P.cellsOf f.type:=ak hfj.2;obtain⟨i,hi⟩:=List.getElem?_of_mem hfm;rw[Array.getElem?_toList]at hi;have hil:i<fs.size:=(Array.getElem?_eq_some_iff.1 hi).1;have h3:=(hd i _ (aG (by omega)) f hi).1;refine h3 _ (aK (i:=j-f.offset) ?_);rw[List.getElem?_take,if_pos (by omega),List.getElem?_drop,show f.offset+(j-f.offset)=j by omega,aG hj]
   refine⟨hone,.agg ds,.agg hu hdl hlen hone fun i f d hf1 hd1=>(hd i d hd1 f hf1).2.1,?_⟩;rw[hB.agg];have hle:=hB.le (ds:=ds) (Ds:=xs.map (·.1)) (by simp[hdl,hxl]) fun i d D h1 h2=>by
        rw[List.getElem?_map]at h2;obtain⟨y,hy1,rfl⟩:=aT.1 h2;have hil:i<fs.size:=by rw[←hdl];exact(au.1 h1).1
        exact(hd i d h1 _ (Array.getElem?_eq_getElem hil)).2.2 y hy1
   simp only[Dt.bulk];omega
  ·cases hT
theorem akr{base:Nat}{t:TypeId}{v:Value}(ht:bO P t=false)(hs:(P.underlying t).isSome=true)(hv:Value.okWide P w .any base t v):v.cells= #[v]:=by
 cases v with
 |agg cs=>
  exfalso;unfold Value.okWide at hv;unfold bO at ht;cases hu:P.underlying t with
  |none=>rw[hu]at hs;cases hs
  |some D=>rw[hu]at hv ht;cases D<;>simp_all [Cell.okWide,Cell.ok]
 |_=>rfl
theorem air(hc:aip P Ts=true){t:TypeId}(ht:t∈Ts):(P.underlying t).isSome=true:=by have hT:=List.all_eq_true.1 hc t ht;split at hT<;>simp_all
theorem Og{B:DataW H->Nat}{BA:List (DataW H)->Nat}(hB:BulkOK B BA)(hc:aip P Ts=true){base:Nat}{t:TypeId}{v:Value}{D:DataW H}{p:List MemPlace}(ht:t∈Ts)(hv:Value.okWide P w .any base t v)(h:DataW.Trod enc P w 0 sp true t v D p):
  ∃d,RV P (fun b=>b<w.heap.size) w (fun _=>none) (.dat t d) v∧HasTy P t d∧d.bulk<=B D:=by
 obtain⟨n,hn⟩:=h;obtain⟨_,d,hd,hbk⟩:=Oe hB hc n t _ _ ht hn;refine⟨d,?_,⟨_,_,_,hd⟩,hbk⟩;cases ha:bO P t with
 |false=>
  rw[akr ha (air hc ht) hv]at hd;exact(RV.dat_one ha).2 (by simpa using hd)
 |true=>
  refine(RV.dat_agg ha).2 ?_;unfold Value.okWide at hv;unfold bO at ha;split at hv
  ·obtain⟨cs,rfl,_⟩:=hv;exact⟨cs.toList,by simp,hd⟩
  ·obtain⟨cs,rfl,_⟩:=hv;exact⟨cs.toList,by simp,hd⟩
  ·split at ha<;>simp_all
inductive HasTys (P:Program):List TypeId->List Dt->Prop where
 |nil:HasTys P [] []
 |cons {t:TypeId} {d:Dt} {ts:List TypeId} {ds:List Dt} (h:HasTy P t d) (r:HasTys P ts ds):HasTys P (t::ts) (d::ds)
def aks:List TypeId->List Dt->List AV
 |t::ts,d::ds=> .dat t d::aks ts ds
 |_,_=>[]
theorem vU{B:DataW H->Nat}{BA:List (DataW H)->Nat}(hB:BulkOK B BA)(hc:aip P Ts=true){base:Nat}:∀{ts:List TypeId}{vs:List Value}{Ds:List (DataW H)}{p:List MemPlace},(∀t∈ts,t∈Ts)->(∀(j:Nat) t v,ts[j]? =some t->vs[j]? =some v->Value.okWide P w .any base t v)->DataW.TrodAll enc P w 0 sp true ts vs Ds p->
   ∃ds,HasTys P ts ds∧bulkL ds<=BA Ds∧RVsX P (fun b=>b<w.heap.size) w (fun _=>none) (aks ts ds) vs
 | [],vs,Ds,p,_,_,h=>by obtain⟨rfl,rfl,rfl⟩:=trodAll_nil h;exact⟨[],.nil,by simp[bulkL],.nil⟩
 | t::ts,vs,Ds,p,hm,hv,h=>by obtain⟨v,vs',d,ds',p',q',rfl,rfl,rfl,h1,h2⟩:=trodAll_cons h;obtain⟨x,hx,hty,hb1⟩:=Og hB hc (hm t (by simp)) (hv 0 t v rfl rfl) h1;obtain⟨xs,hty2,hb2,hxs⟩:=vU hB hc (fun t ht=>hm t (by simp[ht])) (fun j t v h3 h4=>hv (j+1) t v (by simpa using h3) (by simpa using h4)) h2;exact⟨x::xs,.cons hty hty2,by rw[hB.cons];simp only[bulkL];omega,.cons hx hxs⟩
theorem oD(hl:laidOutB P=true){W W':World}(hb:Below W.heap.size W W'):∀{ts:List TypeId}{vs:List Value}{Ds:List (DataW H)}{p:List MemPlace},(ts.all fun t=>P.readableRec t&&decide (t<P.types.size))=true->DataW.TrodAll enc P W 0 (fun _=>true) true ts vs Ds p->(∀x∈p,x.block<W.heap.size)->
   DataW.TrodAll enc P W' 0 (fun b=>decide (b<W.heap.size)) true ts vs Ds p
 | [],vs,Ds,p,_,h,_=>by obtain⟨rfl,rfl,rfl⟩:=trodAll_nil h;rfl
 | t::ts,vs,Ds,p,hr,h,hlt=>by obtain⟨v,vs',d,ds',p',q',rfl,rfl,rfl,h1,h2⟩:=trodAll_cons h;simp only[List.all_cons,aJ,decide_eq_true_eq]at hr;exact trodAll_cons_mk (Below.trod hl hr.1.1 hr.1.2 h1 hb fun x hx=>hlt x (by simp[hx])) (oD hl hb (by simpa using hr.2) h2 fun x hx=>hlt x (by simp[hx]))
theorem vV{base:Nat}{held:Bool}:∀{ts:List TypeId}{vs:List Value}{Ds:List (DataW H)}{p:List MemPlace},DataW.TrodAll enc P w base sp held ts vs Ds p->Ds.length=ts.length
 | [],vs,Ds,p,h=>by obtain⟨_,rfl,_⟩:=trodAll_nil h;rfl
 |t::ts,vs,Ds,p,h=>by obtain⟨v,vs',d,ds',p',q',rfl,rfl,rfl,h1,h2⟩:=trodAll_cons h;simp[vV h2]
theorem ais{B:DataW H->Nat}{BA:List (DataW H)->Nat}(hB:BulkOK B BA){N:Nat}{f:FuncId}{fn:Func}{s:ChangeSpec}{TB:TypeId}(hl:laidOutB P=true)(hc:aip P Ts=true)(hsub:(fn.params.toList.all fun t=>dV t Ts)=true)(hread:(fn.params.toList.all fun t=>P.readableRec t&&decide (t<P.types.size))=true)
  (hu:P.underlying TB=some .bool)(hrt:fn.resultTypes= #[TB])(hvars:s.vars=[])(hspec:∀Ds:List (DataW H),Ds.length=fn.params.toList.length->s.fn H Ds={results:=[.lit (.bool true)],args:=Ds})
  (hfx:∀ds,HasTys P fn.params.toList ds->bulkL ds<=N->FX P f (aks fn.params.toList ds) [] (.dat TB (.bool true)) [])
  {W:World}{base:Nat}{args:Array Value}{Ds gs:List (DataW H)}{before:List MemPlace}
  (hval:∀(j:Nat) t v,fn.params[j]? =some t->args[j]? =some v->Value.okWide P W .any base t v)
  (htab:TabOK (fun b=>b<W.heap.size) W)(hN:BA Ds<=N)(hW:DataW.Whole enc P fn.params.toList s.vars false W args.toList Ds gs before):
  Calls P f args W fun e W'=>∃v,e= .returned v∧s.post enc P fn false true false false W args v W':=by
 have hW':=hW;obtain⟨p,q,hA,hV,rfl,hfz,hnd⟩:=hW;rw[hvars]at hV;obtain⟨rfl,rfl⟩:=trodVars_none hV;obtain⟨ds,hty,hbk,hrv⟩:=vU hB hc (ts:=fn.params.toList) (fun t ht=>jK.1 (List.all_eq_true.1 hsub t ht)) (fun j t v h1 h2=>hval j t v (by simpa using h1) (by simpa using h2)) hA;have no:∀(Z:Nat->Option Value) l b,¬owns [] Z l b:=fun Z l b h=>by obtain⟨h1,_⟩:=h;cases l<;>cases h1
 have walk:=hfx ds hty (Nat.le_trans hbk hN) (fun b=>b<W.heap.size) W (fun _=>none) args.toList (fun b hb=>⟨hb,fun⟨l,hx⟩=>no _ _ _ hx⟩) (fun l=>by cases l<;>rfl) (fun l l' b h1=>(no _ _ _ h1).elim) hrv htab;rw[show args.toList.toArray=args by simp]at walk;refine walk.mono ?_;rintro e W' ⟨v,Z',rfl,fin,hr⟩;have hbel:Below W.heap.size W W':=⟨fin.below.os,fin.below.tape,fin.below.output,fin.below.size,fun b hb=>fin.below.block b hb (fun⟨l,hx⟩=>no _ _ _ hx)⟩;obtain⟨_,rfl⟩:=RV.bool hu hr;have hlt:∀x∈p,x.block<W.heap.size:=fun x hx=>hW'.lt x (by simp[hx]);have hlen:=vV hA;refine⟨_,rfl,Ds,[],p++[],[],p,[],hW',?_,?_,?_,hbel.frame _,fun h=>by cases h⟩
 ·rw[List.append_nil,hspec Ds hlen,hrt];exact trodAll_mk1 (shut_bool hu _)
 ·rw[List.append_nil,hspec Ds hlen];exact oD hl hbel hread hA hlt
 ·rw[List.append_nil,hspec Ds hlen,hvars];rfl
end
end Go.Am
namespace Go.Am
theorem wrap64{n:Int}(h1: -9223372036854775808<=n)(h2:n<=9223372036854775807):IntKind.wrap IntKind.i64 n=n:=by unfold IntKind.wrap;simp only[IntKind.bits,IntKind.signed,Bool.true_and,Nat.add_one_sub_one];split<;>rename_i h<;>simp only[ge_iff_le,decide_eq_true_eq]at h<;>omega
theorem bK{i:Nat}(h:i<9223372036854775807):IntKind.wrap IntKind.i64 ((i:Int)+1)=((i+1:Nat):Int):=by rw[wrap64 (by omega) (by omega)];omega
theorem bE{l:List Dt}{i:Nat}(h:i<l.length):idx l (i:Int)=some l[i]:=by unfold idx;rw[if_pos (by omega)];simp[h]
theorem fV{s:ByteArray}{i:Nat}(h:i<s.size):idxS s (i:Int)=some ((s[i]).toNat:Int):=by unfold idxS;rw[if_pos (by omega)];simp[h]
theorem lU{l r:List Dt}(h:l.length+r.length<=137438953472):app l r=some (l++r):=by unfold app;rw[if_pos h]
theorem dlt{i j:Nat}:decide ((i:Int)<(j:Int))=decide (i<j):=by simp
theorem dle{i j:Nat}:decide ((i:Int)<=(j:Int))=decide (i<=j):=by simp
end Go.Am
namespace Go.Proofs.YtmecfjhdnbgfeaaGreatDoor
open Go.Am
theorem ait{T E:TypeId}{P:Program}{d:Dt}(hu:P.underlying T=some (.slice E))(h:HasTy P T d):d= .lst d.toLst∧d.toLst.length<=maxLen∧∀e∈d.toLst,HasTy P E e:=by obtain⟨ok,w,_,h⟩:=h;obtain⟨h1,a,cap,ad,g,_,h2,h3,_,_,h4⟩:=h.lst_inv hu;refine⟨h1,Nat.le_trans h2 h3,fun e he=>?_⟩;obtain⟨i,hi⟩:=List.getElem?_of_mem he;exact⟨ok,w,_,h4 i e hi⟩
end Go.Proofs.YtmecfjhdnbgfeaaGreatDoor
namespace Go.Proofs.YtmecfjhdnbgfeaaGreatDoor
open Go.Am Dt
mutual
inductive WV:Dt->Prop where
 |mk {k i:Int} {t:ByteArray} {l ds:List Dt} (hl:∀e∈l,WV e) (hd:∀f∈ds,WF f):WV (.agg [.int k,.int i,.str t,.lst l,.lst ds])
inductive WF:Dt->Prop where
 |mk {s:ByteArray} {v:Dt} (h:WV v):WF (.agg [.str s,v])
end
theorem aos{A:Type}{l:List A}(h:l.length=2):∃a b,l=[a,b]:=by
 match l,h with
 | [a,b],_=>exact⟨a,b,rfl⟩
theorem aiu{A:Type}{l:List A}(h:l.length=5):∃a b c d e,l=[a,b,c,d,e]:=by
 match l,h with
 | [a,b,c,d,e],_=>exact⟨a,b,c,d,e,rfl⟩
structure TQ (T:TypeId) (d:Dt):Prop where
 i:T=3->∃n,d= .int n
 s:T=9->∃s,d= .str s
 v:T=26->WV d
 f:T=48->WF d
 l:T=23->∃l,d= .lst l∧∀e∈l,WV e
 d:T=24->∃l,d= .lst l∧∀e∈l,WF e
theorem auV{ok:Nat->Prop}{w:World}{T:TypeId}{d:Dt}{cs:List Value}(h:RD Tryz.prog ok w T d cs):TQ T d:=by
 induction h with
 | @int T k n hu _ _=>
   refine⟨fun _=>⟨n,rfl⟩,?_,?_,?_,?_,?_⟩<;>rintro rfl;·have:=hu.symm.trans Tryz.underlying9;cases this
   ·have:=hu.symm.trans Tryz.underlying26;cases this
   ·have:=hu.symm.trans Tryz.underlying48;cases this
   ·have:=hu.symm.trans Tryz.underlying23;cases this
   ·have:=hu.symm.trans Tryz.underlying24;cases this
 | @bool T b hu=>
   refine⟨?_,?_,?_,?_,?_,?_⟩<;>rintro rfl;·have:=hu.symm.trans Tryz.underlying3;cases this
   ·have:=hu.symm.trans Tryz.underlying9;cases this
   ·have:=hu.symm.trans Tryz.underlying26;cases this
   ·have:=hu.symm.trans Tryz.underlying48;cases this
   ·have:=hu.symm.trans Tryz.underlying23;cases this
   ·have:=hu.symm.trans Tryz.underlying24;cases this
 | @str T s hu _=>
   refine⟨?_,fun _=>⟨s,rfl⟩,?_,?_,?_,?_⟩<;>rintro rfl;·have:=hu.symm.trans Tryz.underlying3;cases this
   ·have:=hu.symm.trans Tryz.underlying26;cases this
   ·have:=hu.symm.trans Tryz.underlying48;cases this
   ·have:=hu.symm.trans Tryz.underlying23;cases this
   ·have:=hu.symm.trans Tryz.underlying24;cases this
 | @agg T fs ds cs hu hl _ _ _ ih=>
   refine⟨?_,?_,?_,?_,?_,?_⟩<;>rintro rfl;·have:=hu.symm.trans Tryz.underlying3;cases this
   ·have:=hu.symm.trans Tryz.underlying9;cases this
   ·have e:=hu.symm.trans Tryz.underlying26;simp only[aA,TypeDesc.struct.injEq]at e;subst e;obtain⟨a,b,c,d,e,rfl⟩:=aiu hl;obtain⟨n0,rfl⟩:=(ih 0 _ a rfl rfl).i rfl;obtain⟨n1,rfl⟩:=(ih 1 _ b rfl rfl).i rfl;obtain⟨n2,rfl⟩:=(ih 2 _ c rfl rfl).s rfl;obtain⟨l,rfl,hl'⟩:=(ih 3 _ d rfl rfl).l rfl;obtain⟨ds,rfl,hd'⟩:=(ih 4 _ e rfl rfl).d rfl;exact .mk hl' hd'
   ·have e:=hu.symm.trans Tryz.underlying48;simp only[aA,TypeDesc.struct.injEq]at e;subst e;obtain⟨a,b,rfl⟩:=aos hl;obtain⟨s,rfl⟩:=(ih 0 _ a rfl rfl).s rfl;exact .mk ((ih 1 _ b rfl rfl).v rfl)
   ·have:=hu.symm.trans Tryz.underlying23;cases this
   ·have:=hu.symm.trans Tryz.underlying24;cases this
 | @lst T E es a len cap ad g hu _ _ _ _ _ _ ih=>
   refine⟨?_,?_,?_,?_,?_,?_⟩<;>rintro rfl;·have:=hu.symm.trans Tryz.underlying3;cases this
   ·have:=hu.symm.trans Tryz.underlying9;cases this
   ·have:=hu.symm.trans Tryz.underlying26;cases this
   ·have:=hu.symm.trans Tryz.underlying48;cases this
   ·have e:=hu.symm.trans Tryz.underlying23;simp only[aA,TypeDesc.slice.injEq]at e;subst e;refine⟨es,rfl,fun e he=>?_⟩;obtain⟨i,hi⟩:=List.getElem?_of_mem he;exact(ih i e hi).v rfl
   ·have e:=hu.symm.trans Tryz.underlying24;simp only[aA,TypeDesc.slice.injEq]at e;subst e;refine⟨es,rfl,fun e he=>?_⟩;obtain⟨i,hi⟩:=List.getElem?_of_mem he;exact(ih i e hi).f rfl
 | @arr T E q es cs hu _ _ _ _ ih=>
   refine⟨?_,?_,?_,?_,?_,?_⟩<;>rintro rfl;·have:=hu.symm.trans Tryz.underlying3;cases this
   ·have:=hu.symm.trans Tryz.underlying9;cases this
   ·have:=hu.symm.trans Tryz.underlying26;cases this
   ·have:=hu.symm.trans Tryz.underlying48;cases this
   ·have:=hu.symm.trans Tryz.underlying23;cases this
   ·have:=hu.symm.trans Tryz.underlying24;cases this
 | @opq T K V z hu _=>
   refine⟨?_,?_,?_,?_,?_,?_⟩<;>rintro rfl;·have:=hu.symm.trans Tryz.underlying3;cases this
   ·have:=hu.symm.trans Tryz.underlying9;cases this
   ·have:=hu.symm.trans Tryz.underlying26;cases this
   ·have:=hu.symm.trans Tryz.underlying48;cases this
   ·have:=hu.symm.trans Tryz.underlying23;cases this
   ·have:=hu.symm.trans Tryz.underlying24;cases this
 | @nilp T E hu=>
   refine⟨?_,?_,?_,?_,?_,?_⟩<;>rintro rfl;·have:=hu.symm.trans Tryz.underlying3;cases this
   ·have:=hu.symm.trans Tryz.underlying9;cases this
   ·have:=hu.symm.trans Tryz.underlying26;cases this
   ·have:=hu.symm.trans Tryz.underlying48;cases this
   ·have:=hu.symm.trans Tryz.underlying23;cases this
   ·have:=hu.symm.trans Tryz.underlying24;cases this
 | @ptr T E d cs ad hu _ _ _ _ _=>
   refine⟨?_,?_,?_,?_,?_,?_⟩<;>rintro rfl;·have:=hu.symm.trans Tryz.underlying3;cases this
   ·have:=hu.symm.trans Tryz.underlying9;cases this
   ·have:=hu.symm.trans Tryz.underlying26;cases this
   ·have:=hu.symm.trans Tryz.underlying48;cases this
   ·have:=hu.symm.trans Tryz.underlying23;cases this
   ·have:=hu.symm.trans Tryz.underlying24;cases this
theorem aot{d:Dt}(h:HasTy Tryz.prog 26 d):WV d:=by obtain⟨_,_,_,h⟩:=h;exact(auV h).v rfl
theorem bQ(d:Dt):1<=d.bulk:=by cases d<;>simp[Dt.bulk]
theorem bU{e:Dt}:∀{l:List Dt},e∈l->e.bulk<=bulkL l
 |a::r,h=>by
  simp only[bulkL];rcases List.mem_cons.1 h with rfl|h;·omega
  ·have:=bU h;omega
theorem bW:∀l:List Dt,l.length<=bulkL l
 | []=>by simp[bulkL]
 |a::r=>by have:=bW r;have:=bQ a;simp only[bulkL,List.length_cons];omega
theorem dM{k i:Int}{t:ByteArray}{l ds:List Dt}:Dt.bulk (.agg [.int k,.int i,.str t,.lst l,.lst ds])=bulkL l+bulkL ds+(t.size+6):=by simp only[Dt.bulk,bulkL];omega
theorem gH{s:ByteArray}{v:Dt}:Dt.bulk (.agg [.str s,v])=v.bulk+s.size+2:=by simp only[Dt.bulk,bulkL];omega
theorem fI{A:Type}(l:List A)(z:A)(i:Nat)(h:i<l.length):(l.take i++List.replicate (l.length-i) z).set i l[i]=l.take (i+1)++List.replicate (l.length-(i+1)) z:=by
 rw[List.set_append_right _ _ (by simp;omega)];have h1:i-(l.take i).length=0:=by simp;omega
 rw[h1,show l.length-i=(l.length-(i+1))+1 by omega,List.replicate_succ,List.set_cons_zero,List.take_succ_eq_append_getElem h,List.append_assoc];rfl
theorem gV{A:Type}(l:List A)(z:A)(i:Nat)(h:i<=l.length):(l.take i++List.replicate (l.length-i) z).length=l.length:=by simp;omega
theorem fJ{l:List Dt}{i:Nat}(h:i<l.length):inL l (i:Int)=some ():=by unfold inL;rw[if_pos (by omega)]
theorem fZ{n:Nat}{z:Dt}(h:n<=137438953472):mkL (n:Int) (n:Int) z=some (List.replicate n z):=by unfold mkL;rw[if_pos (by omega)];simp
theorem cK{d:Dt}(hw:WV d):(L d 3).length<=d.bulk∧(L d 4).length<=d.bulk∧(∀e∈L d 3,WV e∧e.bulk<d.bulk)∧(∀f∈L d 4,WV (fld f 1)∧(fld f 1).bulk<d.bulk):=by
 cases hw with
 | @mk  k i t l ds hl hd=>
   rw[dM];have h3:=bW l;have h4:=bW ds;refine⟨by show l.length<=_;omega,by show ds.length<=_;omega,fun e he=>⟨hl e he,?_⟩,fun f hf=>?_⟩;·have:=bU (show e∈l from he);omega
   ·have hb:=bU (show f∈ds from hf);cases hd f hf with
    |   @mk s v hv=>
        rw[gH]at hb;exact⟨hv,by show v.bulk<_;omega⟩
def rgI(i:Int):Prop:= -9223372036854775808<=i∧i<=9223372036854775807
mutual
inductive WR:Dt->Prop where
 |mk {k i:Int} {t:ByteArray} {l ds:List Dt} (hi:rgI i) (hl:∀e∈l,WR e) (hd:∀f∈ds,WRF f):WR (.agg [.int k,.int i,.str t,.lst l,.lst ds])
inductive WRF:Dt->Prop where
 |mk {s:ByteArray} {v:Dt} (h:WR v):WRF (.agg [.str s,v])
end
structure TR (T:TypeId) (d:Dt):Prop where
 i:T=3->∃n,d= .int n∧rgI n
 s:T=9->∃s,d= .str s
 v:T=26->WR d
 f:T=48->WRF d
 l:T=23->∃l,d= .lst l∧∀e∈l,WR e
 d:T=24->∃l,d= .lst l∧∀e∈l,WRF e
theorem auW{ok:Nat->Prop}{w:World}{T:TypeId}{d:Dt}{cs:List Value}(h:RD Tryz.prog ok w T d cs):TR T d:=by
 induction h with
 | @int T k n hu h1 h2=>
   refine⟨?_,?_,?_,?_,?_,?_⟩<;>rintro rfl
   ·have e:=hu.symm.trans Tryz.underlying3;simp only[aA,TypeDesc.int.injEq]at e;subst e;exact⟨n,rfl,h1,h2⟩
   ·have:=hu.symm.trans Tryz.underlying9;cases this
   ·have:=hu.symm.trans Tryz.underlying26;cases this
   ·have:=hu.symm.trans Tryz.underlying48;cases this
   ·have:=hu.symm.trans Tryz.underlying23;cases this
   ·have:=hu.symm.trans Tryz.underlying24;cases this
 | @bool T b hu=>
   refine⟨?_,?_,?_,?_,?_,?_⟩<;>rintro rfl;·have:=hu.symm.trans Tryz.underlying3;cases this
   ·have:=hu.symm.trans Tryz.underlying9;cases this
   ·have:=hu.symm.trans Tryz.underlying26;cases this
   ·have:=hu.symm.trans Tryz.underlying48;cases this
   ·have:=hu.symm.trans Tryz.underlying23;cases this
   ·have:=hu.symm.trans Tryz.underlying24;cases this
 | @str T s hu _=>
   refine⟨?_,fun _=>⟨s,rfl⟩,?_,?_,?_,?_⟩<;>rintro rfl;·have:=hu.symm.trans Tryz.underlying3;cases this
   ·have:=hu.symm.trans Tryz.underlying26;cases this
   ·have:=hu.symm.trans Tryz.underlying48;cases this
   ·have:=hu.symm.trans Tryz.underlying23;cases this
   ·have:=hu.symm.trans Tryz.underlying24;cases this
 | @agg T fs ds cs hu hl _ _ _ ih=>
   refine⟨?_,?_,?_,?_,?_,?_⟩<;>rintro rfl;·have:=hu.symm.trans Tryz.underlying3;cases this
   ·have:=hu.symm.trans Tryz.underlying9;cases this
   ·have e:=hu.symm.trans Tryz.underlying26;simp only[aA,TypeDesc.struct.injEq]at e;subst e;obtain⟨a,b,c,d,e,rfl⟩:=aiu hl;obtain⟨n0,rfl,_⟩:=(ih 0 _ a rfl rfl).i rfl;obtain⟨n1,rfl,hr⟩:=(ih 1 _ b rfl rfl).i rfl;obtain⟨n2,rfl⟩:=(ih 2 _ c rfl rfl).s rfl;obtain⟨l,rfl,hl'⟩:=(ih 3 _ d rfl rfl).l rfl;obtain⟨ds,rfl,hd'⟩:=(ih 4 _ e rfl rfl).d rfl;exact .mk hr hl' hd'
   ·have e:=hu.symm.trans Tryz.underlying48;simp only[aA,TypeDesc.struct.injEq]at e;subst e;obtain⟨a,b,rfl⟩:=aos hl;obtain⟨s,rfl⟩:=(ih 0 _ a rfl rfl).s rfl;exact .mk ((ih 1 _ b rfl rfl).v rfl)
   ·have:=hu.symm.trans Tryz.underlying23;cases this
   ·have:=hu.symm.trans Tryz.underlying24;cases this
 | @lst T E es a len cap ad g hu _ _ _ _ _ _ ih=>
   refine⟨?_,?_,?_,?_,?_,?_⟩<;>rintro rfl;·have:=hu.symm.trans Tryz.underlying3;cases this
   ·have:=hu.symm.trans Tryz.underlying9;cases this
   ·have:=hu.symm.trans Tryz.underlying26;cases this
   ·have:=hu.symm.trans Tryz.underlying48;cases this
   ·have e:=hu.symm.trans Tryz.underlying23;simp only[aA,TypeDesc.slice.injEq]at e;subst e;refine⟨es,rfl,fun e he=>?_⟩;obtain⟨i,hi⟩:=List.getElem?_of_mem he;exact(ih i e hi).v rfl
   ·have e:=hu.symm.trans Tryz.underlying24;simp only[aA,TypeDesc.slice.injEq]at e;subst e;refine⟨es,rfl,fun e he=>?_⟩;obtain⟨i,hi⟩:=List.getElem?_of_mem he;exact(ih i e hi).f rfl
 | @arr T E q es cs hu _ _ _ _ ih=>
   refine⟨?_,?_,?_,?_,?_,?_⟩<;>rintro rfl;·have:=hu.symm.trans Tryz.underlying3;cases this
   ·have:=hu.symm.trans Tryz.underlying9;cases this
   ·have:=hu.symm.trans Tryz.underlying26;cases this
   ·have:=hu.symm.trans Tryz.underlying48;cases this
   ·have:=hu.symm.trans Tryz.underlying23;cases this
   ·have:=hu.symm.trans Tryz.underlying24;cases this
 | @opq T K V z hu _=>
   refine⟨?_,?_,?_,?_,?_,?_⟩<;>rintro rfl;·have:=hu.symm.trans Tryz.underlying3;cases this
   ·have:=hu.symm.trans Tryz.underlying9;cases this
   ·have:=hu.symm.trans Tryz.underlying26;cases this
   ·have:=hu.symm.trans Tryz.underlying48;cases this
   ·have:=hu.symm.trans Tryz.underlying23;cases this
   ·have:=hu.symm.trans Tryz.underlying24;cases this
 | @nilp T E hu=>
   refine⟨?_,?_,?_,?_,?_,?_⟩<;>rintro rfl;·have:=hu.symm.trans Tryz.underlying3;cases this
   ·have:=hu.symm.trans Tryz.underlying9;cases this
   ·have:=hu.symm.trans Tryz.underlying26;cases this
   ·have:=hu.symm.trans Tryz.underlying48;cases this
   ·have:=hu.symm.trans Tryz.underlying23;cases this
   ·have:=hu.symm.trans Tryz.underlying24;cases this
 | @ptr T E d cs ad hu _ _ _ _ _=>
   refine⟨?_,?_,?_,?_,?_,?_⟩<;>rintro rfl;·have:=hu.symm.trans Tryz.underlying3;cases this
   ·have:=hu.symm.trans Tryz.underlying9;cases this
   ·have:=hu.symm.trans Tryz.underlying26;cases this
   ·have:=hu.symm.trans Tryz.underlying48;cases this
   ·have:=hu.symm.trans Tryz.underlying23;cases this
   ·have:=hu.symm.trans Tryz.underlying24;cases this
theorem aou{d:Dt}(h:HasTy Tryz.prog 26 d):WR d:=by obtain⟨_,_,_,h⟩:=h;exact(auW h).v rfl
theorem jO{d:Dt}(hw:WR d):rgI (I d 1)∧(∀e∈L d 3,WR e)∧(∀f∈L d 4,WR (fld f 1)):=by
 cases hw with
 | @mk k i t l ds hi hl hd=>
   refine⟨hi,hl,fun f hf=>?_⟩;cases hd f hf with
   |mk h=>exact h
theorem j3{d:Dt}(hw:WV d):d.bulk=bulkL (L d 3)+bulkL (L d 4)+((S d 2).size+6):=by
 cases hw with
 |mk hl hd=>rw[dM];rfl
theorem j4{d:Dt}(hw:WV d):∀f∈L d 4,f.bulk=(fld f 1).bulk+(S f 0).size+2:=by
 cases hw with
 |mk hl hd=>
  intro f hf;cases hd f hf with
  |mk h=>rw[gH];rfl
theorem fF(d:Dt):1<=d.bulk:=by cases d<;>simp[Dt.bulk]
theorem uO{e:Dt}:∀{l:List Dt},e∈l->e.bulk<=bulkL l
 |a::r,h=>by
  simp only[bulkL];rcases List.mem_cons.1 h with rfl|h;·omega
  ·have:=uO h;omega
theorem Ew:∀l:List Dt,l.length<=bulkL l
 | []=>by simp[bulkL]
 |a::r=>by have:=Ew r;have:=fF a;simp only[bulkL,List.length_cons];omega
theorem iG(d:Dt)(i:Nat):(fld d i).bulk<=d.bulk:=by
 cases d with
 |agg ds=>
  simp only[fld,Dt.bulk,List.getD];cases h:ds[i]? with
  |none=>simp[Dt.bulk]
  |some e=>have:=uO (aK h);simp;omega
 |_=>simp only[fld,Dt.bulk];omega
theorem aiv(d:Dt)(i:Nat):bulkL (L d i)<d.bulk:=by
 have h:=iG d i;unfold L;cases e:fld d i with
 |lst es=>rw[e]at h;simp only[Dt.bulk]at h;simp only[toLst];omega
 |_=>have:=fF d;simp only[toLst,bulkL];omega
theorem lV{d e:Dt}{i:Nat}(h:e∈L d i):e.bulk<d.bulk:=by have:=aiv d i;have:=uO h;omega
theorem Ey(d:Dt)(i:Nat):(L d i).length<d.bulk:=by have:=aiv d i;have:=Ew (L d i);omega
theorem aiw(d:Dt)(i:Nat):(S d i).size<d.bulk:=by
 have h:=iG d i;unfold S;cases e:fld d i with
 |str s=>rw[e]at h;simp only[Dt.bulk]at h;simp only[toStr];omega
 |_=>have:=fF d;simp only[toStr];exact Nat.lt_of_lt_of_le (by decide) this
end Go.Proofs.YtmecfjhdnbgfeaaGreatDoor
namespace Go.Proofs.YtmecfjhdnbgfeaaGreatDoor
open IntKind (wrap)
open Go.Am Dt
def zz(n:Int):Nat:=if 0<=n then(2*n).toNat else(-2*n-1).toNat
def gr:Nat->Nat->Nat
 |0,_=>0
 |k+1,u=>if u<128 then 0 else gr k (u/128)+1
theorem aov:∀k u,gr k u<=k
 |0,_=>aM _
 |k+1,u=>by
  rw[gr];split;·omega
  ·have:=aov k (u/128);omega
theorem dZ(x:Int):wrap IntKind.u64 x=x%18446744073709551616:=by unfold wrap;simp[IntKind.bits,IntKind.signed]
theorem LB{n:Int}(h1: -9223372036854775808<=n)(h2:n<=9223372036854775807):zz n<18446744073709551616:=by unfold zz;split<;>omega
theorem aix(m:Nat)(n:Int)(h1: -9223372036854775808<=n)(h2:n<=9223372036854775807):zX (m+1) n=some ((zz n:Nat):Int):=by
 rw[zX];congr 1;have hs:shrI IntKind.i64 n (63:Int)=n.fdiv 9223372036854775808:=rfl;have hl:shlI IntKind.u64 (wrap IntKind.u64 n) (1:Int)=wrap IntKind.u64 (wrap IntKind.u64 n*2):=rfl;rw[hs,hl];unfold xorI zz;simp only[IntKind.bits];by_cases h:0<=n
 ·have e1:n.fdiv 9223372036854775808=0:=by rw[Int.fdiv_eq_ediv_of_nonneg _ (by omega)];omega
  have e2:wrap IntKind.u64 n=n:=by rw[dZ];omega
  have e3:wrap IntKind.u64 (n*2)=2*n:=by rw[dZ];omega
  have e4:wrap IntKind.u64 (0:Int)=0:=by rw[dZ];rfl
  rw[e1,e2,e3,e4,if_pos h];have e5:((BitVec.ofInt 64 (2*n)^^^BitVec.ofInt 64 0).toNat:Int)=2*n:=by
   have:(BitVec.ofInt 64 (2*n)^^^BitVec.ofInt 64 0)=BitVec.ofInt 64 (2*n):=by simp
   rw[this,BitVec.toNat_ofInt];omega
  refine(congrArg (wrap IntKind.u64) e5).trans ?_;rw[dZ];omega
 ·have e1:n.fdiv 9223372036854775808= -1:=by rw[Int.fdiv_eq_ediv_of_nonneg _ (by omega)];omega
  have e2:wrap IntKind.u64 n=n+18446744073709551616:=by rw[dZ];omega
  have e3:wrap IntKind.u64 ((n+18446744073709551616)*2)=2*n+18446744073709551616:=by rw[dZ];omega
  have e4:wrap IntKind.u64 (-1:Int)=18446744073709551615:=by rw[dZ];rfl
  rw[e1,e2,e3,e4,if_neg h];have e5:((BitVec.ofInt 64 (2*n+18446744073709551616)^^^BitVec.ofInt 64 18446744073709551615).toNat:Int)= -2*n-1:=by
   have e6:BitVec.ofInt 64 18446744073709551615=BitVec.allOnes 64:=by decide
   have:(BitVec.ofInt 64 (2*n+18446744073709551616)^^^BitVec.ofInt 64 18446744073709551615)= ~~~ BitVec.ofInt 64 (2*n+18446744073709551616):=by rw[e6,BitVec.xor_allOnes]
   rw[this,BitVec.toNat_not,BitVec.toNat_ofInt];omega
  refine(congrArg (wrap IntKind.u64) e5).trans ?_;rw[dZ];omega
theorem auX(u:Nat):shrI IntKind.u64 (u:Int) (7:Int)=((u/128:Nat):Int):=by have hs:shrI IntKind.u64 (u:Int) (7:Int)=(u:Int).fdiv 128:=rfl;rw[hs,Int.fdiv_eq_ediv_of_nonneg _ (by omega)];omega
theorem LC(m:Nat):∀(k M u b:Nat),u<128^(k+1)->k<M->b+k<1000000->wX m M (b:Int) (u:Int)=some ((b+gr k u:Nat):Int)
 |_,0,_,_,_,h,_=>by omega
 |0,M+1,u,b,hu,_,_=>by rw[wX,decide_eq_false (by simp at hu;omega),cond_false];rfl
 |k+    1,M+1,u,b,hu,hM,hb=>by
  rw[wX,gr];by_cases h:u<128
  ·rw[decide_eq_false (by omega),cond_false,if_pos h];rfl
  ·have hd:u/128<128^(k+1):=by rw[Nat.pow_succ]at hu;exact Nat.div_lt_of_lt_mul (by rw[Nat.mul_comm];exact hu)
   rw[decide_eq_true (by omega),cond_true,Xo,Xn,bK (by omega),auX,LC m k M (u/128) (b+1) hd (by omega) (by omega),if_neg h];congr 2;omega
def fB(n:Int):Nat:=1+gr 9 (zz n)
theorem eO(n:Int):1<=fB n∧fB n<=10:=by have:=aov 9 (zz n);unfold fB;omega
theorem rX(m:Nat)(hm:12<=m)(n:Int)(h1: -9223372036854775808<=n)(h2:n<=9223372036854775807):qX (m+1) n=some ((fB n:Nat):Int):=by obtain⟨q,rfl⟩:∃q,m=q+1:=⟨m-1,by omega⟩;rw[qX,aix q n h1 h2,ah,Xp];have hz:=LB h1 h2;exact LC (q+1) 9 (q+2) (zz n) 1 (by rw[show (128:Nat)^(9+1)=1180591620717411303424 from by decide];omega) (by omega) (by omega)
noncomputable def mG:Nat->Dt->Nat
 |0,_=>0
 |n+1,d=>1+(bif I d 0==3 then fB (I d 1)else bif I d 0==10 then fB (I d 1)else bif I d 0==9 then 1 else bif I d 0==4 then fB (S d 2).size+(S d 2).size else bif I d 0==7 then fB (S d 2).size+(S d 2).size else bif I d 0==8 then(S d 2).size else bif I d 0==6 then fB (L d 3).length+((L d 3).map (mG n)).sum else bif I d 0==5 then fB (L d 4).length+((L d 4).map fun f=>fB (S f 0).size+(S f 0).size+mG n (fld f 1)).sum else 0)
theorem RG{L:List Dt}{g:Dt->Nat}(h:∀e∈L,g e<=5*e.bulk):(L.map g).sum<=5*bulkL L:=by
 induction L with
 |nil=>simp[bulkL]
 |cons x r ih=>
  have h1:=h x bB;have h2:=ih fun e he=>h e (aY _ he);simp only[List.map_cons,List.sum_cons,bulkL];omega
theorem wJ:∀(N:Nat)(d:Dt),WV d->mG N d<=5*d.bulk
 |0,d,_=>by simp[mG]
 |N+1,d,hw=>by
  obtain⟨p1,p2,p3,p4⟩:=cK hw;have hz:=j3 hw;have s3:((L d 3).map (mG N)).sum<=5*bulkL (L d 3):=RG fun e he=>wJ N e (p3 e he).1;have s4:((L d 4).map fun f=>fB (S f 0).size+(S f 0).size+mG N (fld f 1)).sum<=5*bulkL (L d 4):=RG fun f hf=>by have e1:=wJ N _ (p4 f hf).1;have e2:=j4 hw f hf;have e3:=eO (S f 0).size;omega
  have n1:=eO (I d 1);have n2:=eO (S d 2).size;have n3:=eO (L d 3).length;have n4:=eO (L d 4).length;have q0:∀(b:Bool)(x y:Nat),x+1<=5*d.bulk->y+1<=5*d.bulk->(bif b then x else y)+1<=5*d.bulk:=fun b x y h1 h2=>by cases b<;>assumption
  rw[mG,Nat.add_comm];exact q0 _ _ _ (by omega) (q0 _ _ _ (by omega) (q0 _ _ _ (by omega) (q0 _ _ _ (by omega) (q0 _ _ _ (by omega) (q0 _ _ _ (by omega) (q0 _ _ _ (by omega) (q0 _ _ _ (by omega) (by omega))))))))
theorem Bd{a b:Nat}(h:a+b<9223372036854775807):wrap IntKind.i64 ((a:Int)+(b:Int))=((a+b:Nat):Int):=by rw[wrap64 (by omega) (by omega)];omega
theorem RH(m:Nat)(self:Dt->Option Int)(l:List Dt)(g:Dt->Nat)(hl:l.length<1000000000000)(hs:∀e∈l,self e=some ((g e:Nat):Int)):∀(M i b:Nat),i<=l.length->l.length-i<M->b+((l.drop i).map g).sum<1000000000000->Ch m self M (b:Int) l (l.length:Int) (i:Int)=some ((b+((l.drop i).map g).sum:Nat):Int)
 |0,i,b,_,h,_=>by omega
 |M+1,i,b,hi,h,hb=>by
  simp only[Ch,dlt];by_cases hlt:i<l.length
  ·rw[aD hlt,List.map_cons,List.sum_cons]at hb ⊢
   simp only[hlt,decide_true,cond_true,jw,wY,wZ,w9,oK,xg,xk,uU,uV,bE hlt,ah,hs _ (aI hlt),bK (show i<9223372036854775807 by omega),Bd (show b+g l[i]<9223372036854775807 by omega)];rw[RH m self l g hl hs M (i+1) (b+g l[i]) (by omega) (by omega) (by omega),Nat.add_assoc]
  ·have:l.drop i=[]:=List.drop_eq_nil_of_le (by omega);simp[hlt,this,jw,wY,wZ,w9,oK,xg,xk,uU,uV]
theorem RI(m:Nat)(hm:12<=m)(self:Dt->Option Int)(l:List Dt)(g:Dt->Nat)(hl:l.length<1000000000000)(hz:∀f∈l,(S f 0).size<1000000000000)(hs:∀f∈l,self (fld f 1)=some ((g f:Nat):Int)):∀(M i b:Nat),i<=l.length->l.length-i<M->b+((l.drop i).map fun f=>fB (S f 0).size+(S f 0).size+g f).sum<1000000000000->Ci (m+1) self M (b:Int) l (l.length:Int) (i:Int)=some ((b+((l.drop i).map fun f=>fB (S f 0).size+(S f 0).size+g f).sum:Nat):Int)
 |0,i,b,_,h,_=>by omega
 |M+1,i,b,hi,h,hb=>by
  simp only[Ci,dlt];by_cases hlt:i<l.length
  ·rw[aD hlt,List.map_cons,List.sum_cons]at hb ⊢
   have hn:=rX m hm (S l[i] 0).size (by omega) (by have:=hz _ (aI hlt);omega);simp only[hlt,decide_true,cond_true,jw,wY,wZ,w9,oK,xg,xk,uU,uV,bE hlt,ah,hn,hs _ (aI hlt),bK (show i<9223372036854775807 by omega),Bd (show fB (S l[i] 0).size+(S l[i] 0).size<9223372036854775807 by omega),Bd (show fB (S l[i] 0).size+(S l[i] 0).size+g l[i]<9223372036854775807 by omega),Bd (show b+(fB (S l[i] 0).size+(S l[i] 0).size+g l[i])<9223372036854775807 by omega)];rw[RI m hm self l g hl hz hs M (i+1) (b+(fB (S l[i] 0).size+(S l[i] 0).size+g l[i])) (by omega) (by omega) (by omega),Nat.add_assoc]
  ·have:l.drop i=[]:=List.drop_eq_nil_of_le (by omega);simp[hlt,this,jw,wY,wZ,w9,oK,xg,xk,uU,uV]
theorem Gq:∀(N:Nat)(d:Dt),WV d->WR d->d.bulk<=N->N<=100000000000->∀m,N+30<=m->qH (m+1) d=some ((mG N d:Nat):Int)
 |0,d,_,_,h,_,_,_=>by have:=bQ d;omega
 |N+1,d,hw,hr,h,hN,m,hm=>by
  obtain⟨p1,p2,p3,p4⟩:=cK hw;obtain⟨r1,r3,r4⟩:=jO hr;have hz:=j3 hw;have hle:=wJ (N+1) d hw;obtain⟨q,rfl⟩:∃q,m=q+1:=⟨m-1,by omega⟩;have k3:=RH (q+1) (qH (q+1)) (L d 3) (mG N) (by omega) (fun e he=>Gq N e (p3 e he).1 (r3 e he) (by have:=(p3 e he).2;omega) (by omega) q (by omega)) (q+2) 0;have k4:=RI q (by omega) (qH (q+1)) (L d 4) (fun f=>mG N (fld f 1)) (by omega) (fun f hf=>by have:=j4 hw f hf;have:=bU hf;omega) (fun f hf=>Gq N _ (p4 f hf).1 (r4 f hf) (by have:=(p4 f hf).2;omega) (by omega) q (by omega)) (q+2) 0;have n1:=rX q (by omega) (I d 1) r1.1 r1.2;have n2:=rX q (by omega) (S d 2).size (by omega) (by omega);have n3:=rX q (by omega) (L d 3).length (by omega) (by omega);have n4:=rX q (by omega) (L d 4).length (by omega) (by omega);have one:∀k:Nat,k<1000000000000->wrap IntKind.i64 ((1:Int)+(k:Int))=((1+k:Nat):Int):=fun k hk=>Bd (a:=1) (by omega);have o1:=one (fB (I d 1)) (by have:=eO (I d 1);omega);have l2:=eO (S d 2).size;have l3:=eO (L d 3).length;have l4:=eO (L d 4).length;rw[mG]at hle ⊢
  simp only[qH,jw,wY,wZ,w9,oK,xg,xk,uU,uV];cases e3:(I d 0==3)
  case true=>simp only[cond_true,n1,ah,o1]
  cases e10:(I d 0==10)
  case true=>simp only[cond_true,cond_false,n1,ah,o1]
  cases e9:(I d 0==9)
  case true=>simp only[cond_true,cond_false];rfl
  cases e4:(I d 0==4)
  case true=>simp only[cond_true,cond_false,n2,ah,Bd (show fB (S d 2).size+(S d 2).size<9223372036854775807 by omega),one (fB (S d 2).size+(S d 2).size) (by omega)]
  cases e7:(I d 0==7)
  case true=>simp only[cond_true,cond_false,n2,ah,Bd (show fB (S d 2).size+(S d 2).size<9223372036854775807 by omega),one (fB (S d 2).size+(S d 2).size) (by omega)]
  cases e8:(I d 0==8)
  case true=>simp only[cond_true,cond_false,one (S d 2).size (by omega)]
  cases e6:(I d 0==6)
  case true=>
   simp only[e3,e10,e9,e4,e7,e8,e6,cond_true,cond_false]at hle;simp only[cond_true,cond_false,n3,ah,one (fB (L d 3).length) (by omega)];have:=k3 (1+fB (L d 3).length) (aS _) (by omega) (by rw[aQ];omega);rw[aQ,Nat.add_assoc]at this;exact this
  cases e5:(I d 0==5)
  case true=>
   simp only[e3,e10,e9,e4,e7,e8,e6,e5,cond_true,cond_false]at hle;simp only[cond_true,cond_false,n4,ah,one (fB (L d 4).length) (by omega)];have:=k4 (1+fB (L d 4).length) (aS _) (by omega) (by rw[aQ];omega);rw[aQ,Nat.add_assoc]at this;exact this
  simp only[cond_false];rfl
end Go.Proofs.YtmecfjhdnbgfeaaGreatDoor
namespace Go.Proofs.YtmecfjhdnbgfeaaGreatDoor
open Go.Am Dt
def gM(d:Dt):List Dt:=bif I d 0==6 then L d 3 else bif I d 0==5 then(L d 4).map (·.fld 1)else[]
theorem LD(m:Nat)(d:Dt)(hl:(L d 4).length<=137438953472):∀(M i:Nat),i<=(L d 4).length->(L d 4).length-i<M->xq m M (i:Int) d (((L d 4).map (·.fld 1)).take i)=some ((L d 4).map (·.fld 1))
 |0,i,_,h=>by omega
 |M+    1,i,hi,h=>by
  simp only[xq,dlt];by_cases hlt:i<(L d 4).length
  ·have happ:app (((L d 4).map (·.fld 1)).take i) [(L d 4)[i].fld 1]=some (((L d 4).map (·.fld 1)).take (i+1)):=by rw[lU (by simp;omega),List.take_succ_eq_append_getElem (by simpa using hlt)];simp
   simp only[hlt,decide_true,cond_true,XC,XB,bE hlt,ah,happ,bK (show i<9223372036854775807 by omega)];exact LD m d hl M (i+1) (by omega) (by omega)
  ·have e:i=(L d 4).length:=by omega
   simp only[hlt,decide_false,cond_false,GK];rw[List.take_of_length_le (by simp;omega)]
theorem LG(m:Nat)(d:Dt)(hl:(L d 3).length<=137438953472):∀(M i:Nat),i<=(L d 3).length->(L d 3).length-i<M->xu m M (i:Int) d ((L d 3).take i)=Cm m d (L d 3)
 |0,i,_,h=>by omega
 |M+    1,i,hi,h=>by
  simp only[xu,dlt];by_cases hlt:i<(L d 3).length
  ·have happ:app ((L d 3).take i) [(L d 3)[i]]=some ((L d 3).take (i+1)):=by rw[lU (by simp;omega),List.take_succ_eq_append_getElem hlt]
   simp only[hlt,decide_true,cond_true,XA,Xz,bE hlt,ah,happ,bK (show i<9223372036854775807 by omega)];exact LG m d hl M (i+1) (by omega) (by omega)
  ·simp only[hlt,decide_false,cond_false];rw[List.take_of_length_le (by omega)]
theorem parts_eq(d:Dt)(hw:WV d)(m:Nat)(hm:d.bulk<=m)(hb:d.bulk<=137438953472):qQ (m+1) d=some (gM d):=by
 have hl3:(L d 3).length<=d.bulk:=by
  cases hw with
  | @mk k i t l ds hl hd=>rw[dM];have:=bW l;show l.length<=_;omega
 have hl4:(L d 4).length<=d.bulk:=by
  cases hw with
  | @mk k i t l ds hl hd=>rw[dM];have:=bW ds;show ds.length<=_;omega
 have h6:=LD m d (by omega) (m+1) 0 (aS _) (by omega);have h1:=LG m d (by omega) (m+1) 0 (aS _) (by omega);rw[List.take_zero]at h6 h1;have h6':xq m (Nat.succ m) 0 d []=_:=h6;have h1':xu m (Nat.succ m) 0 d []=_:=h1;unfold gM;simp only[qQ,XE,h1'];cases h:(I d 0==6)
 ·simp only[cond_false,Cm,XD,h6',GK];cases (I d 0==5)<;>rfl
 ·have e:I d 0=6:=by simpa using h
  simp only[cond_true,Cm,e];rfl
theorem mD{d:Dt}(hw:WV d):∀e∈gM d,WV e∧e.bulk<d.bulk:=by
 cases hw with
 | @mk  k i t l ds hl hd=>
   intro e he;rw[dM];unfold gM at he;have e1:I (.agg [.int k,.int i,.str t,.lst l,.lst ds]) 0=k:=rfl;have e2:L (.agg [.int k,.int i,.str t,.lst l,.lst ds]) 3=l:=rfl;have e3:L (.agg [.int k,.int i,.str t,.lst l,.lst ds]) 4=ds:=rfl;rw[e1,e2,e3]at he;cases h6:(k==6)
   ·rw[   h6]at he;simp only[cond_false]at he;cases h5:(k==5);·rw[h5]at he;simp at he
    ·   rw[h5]at he;simp only[cond_true,List.mem_map]at he;obtain⟨f,hf,rfl⟩:=he;have hb:=bU hf;cases hd f hf with
        | @mk s v hv=>
          rw[gH]at hb;exact⟨hv,by show v.bulk<_;omega⟩
   ·rw[h6]at he;simp only[cond_true]at he;have hb:=bU he;exact⟨hl e he,by omega⟩
theorem LH{d:Dt}(hw:WV d):(gM d).length<=d.bulk:=by
 cases hw with
 | @mk k i t l ds hl hd=>
   rw[dM];have h3:=bW l;have h4:=bW ds;unfold gM;cases (I (.agg [.int k,.int i,.str t,.lst l,.lst ds]) 0==6)<;>cases (I (.agg [.int k,.int i,.str t,.lst l,.lst ds]) 0==5)<;>simp[L,fld,toLst]<;>omega
def VQ:Nat->Dt->Nat
 |0,_=>1
 |n+1,d=>1+((gM d).map (VQ n)).sum
theorem Ez:∀(n n':Nat)(d:Dt),WV d->d.bulk<=n->d.bulk<=n'->VQ n d=VQ n' d
 |0,_,d,_,h,_=>by have:=bQ d;omega
 |_+1,0,d,_,_,h=>by have:=bQ d;omega
 |n+1,n'+1,d,hw,h,h'=>by simp only[VQ];congr 2;refine List.map_congr_left fun e he=>?_;have:=mD hw e he;exact Ez n n' e this.1 (by omega) (by omega)
def nds(d:Dt):Nat:=VQ d.bulk d
theorem Gr{d:Dt}(hw:WV d):nds d=1+((gM d).map nds).sum:=by obtain⟨k,hk⟩:∃k,d.bulk=k+1:=⟨d.bulk-1,by have:=bQ d;omega⟩;unfold nds;rw[hk];simp only[VQ];congr 2;refine List.map_congr_left fun e he=>?_;have:=mD hw e he;exact Ez _ _ e this.1 (by omega) (aM _)
theorem akt{d:Dt}(hw:WV d):1<=nds d:=by rw[Gr hw];omega
theorem sum_cons(f:Dt->Nat){L:List Dt}{i:Nat}(h:i<L.length):((L.drop i).map f).sum=f L[i]+((L.drop (i+1)).map f).sum:=by rw[aD h,List.map_cons,List.sum_cons]
theorem LJ(m:Nat)(self:Dt->Int->Option Int)(L:List Dt)(hl:L.length<9223372036854775807)(most:Nat)(hb:most<1000000)(hs:∀e∈L,∀k:Nat,1<=k->k<=most->self e (k:Int)=some ((min (nds e) k:Nat):Int)):∀(M i acc:Nat),i<=L.length->L.length-i<M->acc<=most->
  Cq m self M (most:Int) (acc:Int) L (i:Int)=some ((min (acc+((L.drop i).map nds).sum) most:Nat):Int)
 |0,i,_,_,h,_=>by omega
 |M+    1,i,acc,hi,h,ha=>by
  simp only[Cq,dlt];by_cases hlt:i<L.length
  ·simp only[hlt,decide_true,cond_true];by_cases hm:acc<most
   ·    have hw:IntKind.wrap IntKind.i64 ((most:Int)-(acc:Int))=((most-acc:Nat):Int):=by rw[wrap64 (by omega) (by omega)];omega
        have hr:=hs _ (aI hlt) (most-acc) (by omega) (by omega);have hw2:IntKind.wrap IntKind.i64 ((acc:Int)+((min (nds L[i]) (most-acc):Nat):Int))=((acc+min (nds L[i]) (most-acc):Nat):Int):=by rw[wrap64 (by omega) (by omega)];omega
        simp only[hm,decide_true,cond_true,XF,XG,Co,OI,bE hlt,ah,hw,hr,hw2,bK (show i<9223372036854775807 by omega),LJ m self L hl most hb hs M (i+1) (acc+min (nds L[i]) (most-acc)) (by omega) (by omega) (by omega),sum_cons nds hlt];congr 2;omega
   ·    have:acc=most:=by omega
        subst this;simp only[hm,decide_false,cond_false];first|(simp only[Co];congr 2;omega)|(congr 2;omega)
  ·rw[List.drop_eq_nil_of_le (by omega)];simp only[hlt,decide_false,cond_false,List.map_nil,List.sum_nil];first|(simp only[Co];congr 2;omega)|(congr 2;omega)
theorem count_eq:∀(N:Nat)(d:Dt),d.bulk<=N->N<=137438953472->WV d->∀m,N<=m->∀most:Nat,1<=most->most<1000000->zB (m+2) d (most:Int)=some ((min (nds d) most:Nat):Int)
 |0,d,h,_,_,_,_,_,_,_=>by have:=bQ d;omega
 |N+1,d,h,hN,hw,m,hm,most,h1,h2=>by
  obtain⟨m,rfl⟩:∃q,m=q+1:=⟨m-1,by omega⟩;simp only[zB,parts_eq d hw (m+1) (by omega) (by omega),ah,OI];have hl:=LH hw;have:=LJ (m+2) (zB (m+2)) (gM d) (by omega) most h2 (fun e he k hk1 hk2=>by obtain⟨hwe,hbe⟩:=mD hw e he;exact count_eq N e (by omega) (by omega) hwe m (by omega) k hk1 (by omega)) (m+3) 0 1 (aS _) (by omega) h1
  rw[aQ,←Gr hw]at this;exact this
theorem VR{d:Dt}(hw:WV d)(hb:d.bulk<=137438953472)(m:Nat)(hm:d.bulk<=m):yE (m+3) d=some ((min (nds d) 1025:Nat):Int):=by simp only[yE];rw[show ((1025:Int))=((1025:Nat):Int)from rfl,count_eq d.bulk d (aM _) hb hw m hm 1025 (by omega) (by omega)];rfl
theorem RJ(m:Nat)(self:Dt->Int->Int->Option (Bool×Int×Int))(L:List Dt)(hl:L.length<9223372036854775807)(most:Nat)(hs:∀e∈L,∀k:Nat,k<most->self e (k:Int) (most:Int)=some (decide (((min (k+nds e) most:Nat):Int)<(most:Int)),((min (k+nds e) most:Nat):Int),(most:Int))):∀(M i acc:Nat),i<=L.length->L.length-i<M->acc<most->
  oF m self M L (L.length:Int) (i:Int) (acc:Int) (most:Int)=some (((min (acc+((L.drop i).map nds).sum) most:Nat):Int),(most:Int))
 |0,i,_,_,h,_=>by omega
 |M+    1,i,acc,hi,h,ha=>by
  simp only[oF,dlt];by_cases hlt:i<L.length
  ·have hr:=hs _ (aI hlt) acc ha;simp only[hlt,decide_true,cond_true,sw,sD,sF,sG,sH,sI,bE hlt,ah,hr,dlt,bK (show i<9223372036854775807 by omega),sum_cons nds hlt];by_cases hm:min (acc+nds L[i]) most<most
   ·    simp only[hm,decide_true,Bool.not_true,cond_false,RJ m self L hl most hs M (i+1) (min (acc+nds L[i]) most) (by omega) (by omega) hm];congr 3;omega
   ·    simp only[hm,decide_false,Bool.not_false,cond_true];congr 3;omega
  ·rw[List.drop_eq_nil_of_le (by omega)];simp only[hlt,decide_false,cond_false,List.map_nil,List.sum_nil];congr 3;omega
theorem RL(m:Nat)(self:Dt->Int->Int->Option (Bool×Int×Int))(L:List Dt)(hl:L.length<9223372036854775807)(most:Nat)(hs:∀e∈L,∀k:Nat,k<most->self (fld e 1) (k:Int) (most:Int)=some (decide (((min (k+nds (fld e 1)) most:Nat):Int)<(most:Int)),((min (k+nds (fld e 1)) most:Nat):Int),(most:Int))):∀(M i acc:Nat),i<=L.length->L.length-i<M->acc<most->
  oG m self M L (L.length:Int) (i:Int) (acc:Int) (most:Int)=some (((min (acc+((L.drop i).map fun f=>nds (fld f 1)).sum) most:Nat):Int),(most:Int))
 |0,i,_,_,h,_=>by omega
 |M+    1,i,acc,hi,h,ha=>by
  simp only[oG,dlt];by_cases hlt:i<L.length
  ·have hr:=hs _ (aI hlt) acc ha;simp only[hlt,decide_true,cond_true,sw,sD,sF,sG,sH,sI,bE hlt,ah,hr,dlt,bK (show i<9223372036854775807 by omega),sum_cons (fun f=>nds (fld f 1)) hlt];by_cases hm:min (acc+nds (fld L[i] 1)) most<most
   ·    simp only[hm,decide_true,Bool.not_true,cond_false,RL m self L hl most hs M (i+1) (min (acc+nds (fld L[i] 1)) most) (by omega) (by omega) hm];congr 3;omega
   ·    simp only[hm,decide_false,Bool.not_false,cond_true];congr 3;omega
  ·rw[List.drop_eq_nil_of_le (by omega)];simp only[hlt,decide_false,cond_false,List.map_nil,List.sum_nil];congr 3;omega
theorem EA:∀(N:Nat)(d:Dt),d.bulk<=N->N<=137438953472->WV d->∀m,3*N<=m->∀most:Nat,1<=most->most<1000000->zS (m+1) d (most:Int)=some ((min (nds d) most:Nat):Int)
 |0,d,h,_,_,_,_,_,_,_=>by have:=bQ d;omega
 |N+    1,d,h,hN,hw,m,hm,most,h1,h2=>by
  obtain⟨m,rfl⟩:∃q,m=q+3:=⟨m-3,by omega⟩;simp only[zS];have hpos:=akt hw;by_cases e1:most=1
  ·subst e1;have:(((1:Int))==((1:Nat):Int))=true:=rfl;simp only[this,cond_true];congr 1;omega
  ·have e2:(((1:Int))==(most:Int))=false:=by rw[beq_eq_false_iff_ne];omega
   have hc:∀e:Dt,WV e->e.bulk<=N->∀k:Nat,k<most->i85 (m+2) e (k:Int) (most:Int)=some (decide (((min (k+nds e) most:Nat):Int)<(most:Int)),((min (k+nds e) most:Nat):Int),(most:Int)):=fun e hwe hbe k hk=>by
        have hw1:IntKind.wrap IntKind.i64 ((most:Int)-(k:Int))=((most-k:Nat):Int):=by rw[wrap64 (by omega) (by omega)];omega
        have hr:=EA N e hbe (by omega) hwe m (by omega) (most-k) (by omega) (by omega);have hw2:IntKind.wrap IntKind.i64 ((k:Int)+((min (nds e) (most-k):Nat):Int))=((min (k+nds e) most:Nat):Int):=by rw[wrap64 (by omega) (by omega)];omega
        simp only[i85,hw1,hr,ah,hw2]
   obtain⟨p1,p2,p3,p4⟩:=cK hw;have k1:=RJ (m+2) (i85 (m+2)) (L d 3) (by omega) most (fun e he=>hc e (p3 e he).1 (by have:=(p3 e he).2;omega)) (m+3) 0 1 (aS _) (by omega) (by omega);have k2:=RL (m+2) (i85 (m+2)) (L d 4) (by omega) most (fun e he=>hc _ (p4 e he).1 (by have:=(p4 e he).2;omega)) (m+3) 0 1 (aS _) (by omega) (by omega);rw[aQ]at k1 k2;have hn:=Gr hw;unfold gM at hn;simp only[e2,cond_false,Xl,i84];cases h6:(I d 0==6)
   ·    rw[h6]at hn;cases h5:(I d 0==5)
        ·rw[h5]at hn;simp only[cond_false,List.map_nil,List.sum_nil]at hn;simp only[cond_false,ah,hn];congr 1;omega
        ·rw[h5]at hn;simp only[cond_false,cond_true,List.map_map]at hn;have hn':nds d=1+((L d 4).map fun f=>nds (fld f 1)).sum:=hn;have k2':oG (m+2) (i85 (m+2)) (Nat.succ (m+2)) (L d 4) ((L d 4).length:Int) 0 1 (most:Int)=_:=k2;simp only[cond_false,cond_true,sw,sD,sF,sG,sH,sI,k2',ah,hn']
   ·    rw[h6]at hn;simp only[cond_true]at hn;have k1':oF (m+2) (i85 (m+2)) (Nat.succ (m+2)) (L d 3) ((L d 3).length:Int) 0 1 (most:Int)=_:=k1;simp only[cond_true,sw,sD,sF,sG,sH,sI,k1',ah,hn]
theorem VU{d:Dt}(hw:WV d)(hb:d.bulk<=137438953472)(m:Nat)(hm:3*d.bulk<=m):yC (m+2) d=some ((min (nds d) 1025:Nat):Int):=by simp only[yC];rw[show ((1025:Int))=((1025:Nat):Int)from rfl,EA d.bulk d (aM _) hb hw m hm 1025 (by omega) (by omega)];rfl
end Go.Proofs.YtmecfjhdnbgfeaaGreatDoor
namespace Go.Proofs.YtmecfjhdnbgfeaaGreatDoor
open Go.Am
def EB(b:UInt8):Bool:=decide (128<=b.toNat)&&decide (b.toNat<=191)
def tlU(n:Nat)(r:List UInt8):Bool:=decide (n<=r.length)&&(r.take n).all EB
def hdN(r:List UInt8):Nat:=(r.getD 0 0).toNat
def okU(b:Nat)(r:List UInt8):Option Nat:=
 if b<128 then some 0
 else if 194<=b∧b<=223 then(if tlU 1 r=true then some 1 else none)
 else if 224<=b∧b<=239 then(if tlU 2 r=true∧¬(b=224∧hdN r<160)∧¬(b=237∧159<hdN r)then some 2 else none)
 else if 240<=b∧b<=244 then(if tlU 3 r=true∧¬(b=240∧hdN r<144)∧¬(b=244∧143<hdN r)then some 3 else none)
 else none
theorem tl1(r:List UInt8):tlU 1 r=true↔1<=r.length∧128<=(r.getD 0 0).toNat∧(r.getD 0 0).toNat<=191:=by
 unfold tlU EB;match r with
 | []=>simp
 |a::r=>simp
theorem tl2(r:List UInt8):tlU 2 r=true↔2<=r.length∧(128<=(r.getD 0 0).toNat∧(r.getD 0 0).toNat<=191)∧128<=(r.getD 1 0).toNat∧(r.getD 1 0).toNat<=191:=by
 unfold tlU EB;match r with
 | []=>simp
 | [a]=>simp
 |a::b::r=>simp
theorem tl3(r:List UInt8):tlU 3 r=true↔3<=r.length∧(128<=(r.getD 0 0).toNat∧(r.getD 0 0).toNat<=191)∧(128<=(r.getD 1 0).toNat∧(r.getD 1 0).toNat<=191)∧128<=(r.getD 2 0).toNat∧(r.getD 2 0).toNat<=191:=by
 unfold tlU EB;match r with
 | []=>simp
 | [a]=>simp
 | [a,b]=>simp
 |a::b::c::r=>simp
theorem aku(n b0 b1 b2 b3:Nat)(k0:b0<256)(k1:b1<256)(k2:b2<256)(k3:b3<256)(k:Nat)(h:(b0<128∧k=0)∨(194<=b0∧b0<=223∧1<n∧128<=b1∧b1<=191∧k=1)∨(224<=b0∧b0<=239∧2<n∧(128<=b1∧b1<=191)∧(128<=b2∧b2<=191)∧¬(b0=224∧b1<160)∧¬(b0=237∧159<b1)∧k=2)∨(240<=b0∧b0<=244∧3<n∧(128<=b1∧b1<=191)∧(128<=b2∧b2<=191)∧(128<=b3∧b3<=191)∧¬(b0=240∧b1<144)∧¬(b0=244∧143<b1)∧k=3)):
  ¬((Lib.decodeN n b0 b1 b2 b3).1=65533∧(Lib.decodeN n b0 b1 b2 b3).2=1)∧(Lib.decodeN n b0 b1 b2 b3).2=k+1:=by
 rcases h with⟨h1,rfl⟩| ⟨h1,h2,h3,h4,h5,rfl⟩| ⟨h1,h2,h3,h4,h5,h6,h7,rfl⟩| ⟨h1,h2,h3,h4,h5,h6,h7,h8,rfl⟩
 ·unfold Lib.decodeN;rw[if_pos h1];exact⟨fun h=>by have:=h.1;dsimp only at this;omega,rfl⟩
 ·unfold Lib.decodeN;rw[if_neg (by omega),if_pos (by omega),if_pos (by omega)];exact⟨fun h=>by have:=h.2;dsimp only at this;omega,rfl⟩
 ·unfold Lib.decodeN;rw[if_neg (by omega),if_neg (by omega),if_pos (by omega),if_pos (by omega)];exact⟨fun h=>by have:=h.2;dsimp only at this;omega,rfl⟩
 ·unfold Lib.decodeN;rw[if_neg (by omega),if_neg (by omega),if_neg (by omega),if_pos (by omega),if_pos (by omega)];exact⟨fun h=>by have:=h.2;dsimp only at this;omega,rfl⟩
theorem akv(n b0 b1 b2 b3:Nat)(k0:b0<256)(k1:b1<256)(k2:b2<256)(k3:b3<256)(h1:¬b0<128)(h2:¬(194<=b0∧b0<=223∧1<n∧128<=b1∧b1<=191))(h3:¬(224<=b0∧b0<=239∧2<n∧(128<=b1∧b1<=191)∧(128<=b2∧b2<=191)∧¬(b0=224∧b1<160)∧¬(b0=237∧159<b1)))(h4:¬(240<=b0∧b0<=244∧3<n∧(128<=b1∧b1<=191)∧(128<=b2∧b2<=191)∧(128<=b3∧b3<=191)∧¬(b0=240∧b1<144)∧¬(b0=244∧143<b1))):
  Lib.decodeN n b0 b1 b2 b3=(65533,1):=by
 unfold Lib.decodeN;rw[if_neg h1];split;·rw[if_neg (by omega)]
 ·split;·rw[if_neg (by omega)]
  ·split;·rw[if_neg (by omega)]
   ·rfl
theorem aiy(b:UInt8)(r:List UInt8):(∀n,okU b.toNat r=some n->¬((Lib.decodeL (b::r)).1=65533∧(Lib.decodeL (b::r)).2=1)∧(Lib.decodeL (b::r)).2=n+1)∧(okU b.toNat r=none->(Lib.decodeL (b::r)).1=65533∧(Lib.decodeL (b::r)).2=1):=by
 rw[Lib.decodeL_N];have k0:=b.toNat_lt;have k1:=(r.getD 0 0).toNat_lt;have k2:=(r.getD 1 0).toNat_lt;have k3:=(r.getD 2 0).toNat_lt;have e0:((b::r).getD 0 0)=b:=rfl;have e1:((b::r).getD 1 0)=r.getD 0 0:=rfl;have e2:((b::r).getD 2 0)=r.getD 1 0:=rfl;have e3:((b::r).getD 3 0)=r.getD 2 0:=rfl;rw[e0,e1,e2,e3,List.length_cons];have t1:=tl1 r;have t2:=tl2 r;have t3:=tl3 r;unfold okU hdN;generalize tlU 1 r=u1 at*
 generalize tlU 2 r=u2 at*
 generalize tlU 3 r=u3 at*
 generalize (r.getD 0 0).toNat=c1 at*
 generalize (r.getD 1 0).toNat=c2 at*
 generalize (r.getD 2 0).toNat=c3 at*
 generalize b.toNat=c0 at*
 refine⟨fun n hn=>?_,fun hn=>?_⟩
 ·refine aku _ _ _ _ _ k0 k1 k2 k3 n ?_;split at hn;·simp only[aA]at hn;omega
  ·split  at hn
   ·    split at hn;·rename_i h;have:=t1.1 h;simp only[aA]at hn;omega
        ·cases hn
   ·    split at hn
        ·split at hn;·rename_i h;have:=t2.1 h.1;simp only[aA]at hn;omega
         ·cases hn
        ·split at hn
         ·split at hn;·rename_i h;have:=t3.1 h.1;simp only[aA]at hn;omega
          ·cases hn
         ·cases hn
 ·have key:Lib.decodeN (r.length+1) c0 c1 c2 c3=(65533,1):=by
   refine akv _ _ _ _ _ k0 k1 k2 k3 ?_ ?_ ?_ ?_<;>intro h;·rw[if_pos h]at hn;cases hn
   ·rw[if_neg (by omega),if_pos (by omega),if_pos (t1.2 (by omega))]at hn;cases hn
   ·rw[if_neg (by omega),if_neg (by omega),if_pos (by omega),if_pos ⟨t2.2 (by omega),by omega,by omega⟩]at hn;cases hn
   ·rw[if_neg (by omega),if_neg (by omega),if_neg (by omega),if_pos (by omega),if_pos ⟨t3.2 (by omega),by omega,by omega⟩]at hn;cases hn
  rw[key];exact⟨rfl,rfl⟩
theorem Gs(k:Nat)(b:UInt8)(r:List UInt8):Lib.validGoD (k+1) (b::r)=match okU b.toNat r with
  |some n=>Lib.validGoD k (r.drop n)
  |none=>false:=by
 obtain⟨h1,h2⟩:=aiy b r;have hd:Lib.validGoD (k+1) (b::r)=if(b::r:List UInt8)=[]then true else if(Lib.decodeL (b::r)).1=65533∧(Lib.decodeL (b::r)).2=1 then false else Lib.validGoD k ((b::r).drop (Lib.decodeL (b::r)).2):=rfl;rw[hd,if_neg (by simp)];cases e:okU b.toNat r with
 |none=>
  rw[if_pos (h2 e)]
 |some n=>
  obtain⟨h3,h4⟩:=h1 n e;rw[if_neg h3,h4,List.drop_succ_cons]
theorem LK:∀k,Lib.validGoD k []=true
 |0=>rfl
 |k+1=>by unfold Lib.validGoD;rw[if_pos rfl]
def okB(c:UInt8):Bool:=!(decide ((c.toNat:Int)<33)||decide ((126:Int)<c.toNat)||((c.toNat:Int)==46))
def nmL(l:List UInt8):Bool:=match l with
 | []=>false
 |c::r=>decide (r.length<32)&&!((c.toNat:Int)==36)&&(c::r).all okB
def nm(s:ByteArray):Bool:=nmL s.data.toList
theorem LM(s:ByteArray)(i:Nat)(h:i<s.size):s.data.toList.drop i=s[i]::s.data.toList.drop (i+1):=by rw[aD (show i<s.data.toList.length by simpa using h)];rfl
theorem Bf(s:ByteArray):s.data.toList.length=s.size:=by rw[Array.length_toList];rfl
theorem EC(m:Nat)(s:ByteArray)(hs:s.size<9223372036854775807):∀(M i:Nat),i<=s.size->s.size-i<M->wU m M s (i:Int)=some ((s.data.toList.drop i).all okB)
 |0,i,_,h=>by omega
 |M+1,i,hi,h=>by
  simp only[wU,dlt];by_cases hlt:i<s.size
  ·rw[LM s i hlt];simp only[hlt,decide_true,cond_true,wR,pR,wS,wT,wV,wW,pU,fV hlt,ah,bK (show i<9223372036854775807 by omega),EC m s hs M (i+1) (by omega) (by omega),List.all_cons,okB];cases decide (((s[i]).toNat:Int)<33)<;>cases decide ((126:Int)<((s[i]).toNat:Int))<;>cases (((s[i]).toNat:Int)==46)<;>rfl
  ·have:i=s.size:=by omega
   subst this;rw[List.drop_eq_nil_of_le (by rw[Bf];omega)];simp[wR,pR,wS,wT,wV,wW,pU]
theorem LP(s:ByteArray)(h1:1<=s.size)(h2:s.size<=32):nm s=(!(((s[0]).toNat:Int)==36)&&s.data.toList.all okB):=by
 have e:=LM s 0 (by omega);have hl:(s.data.toList.drop 1).length<32:=by rw[List.length_drop,Bf];omega
 rw[aQ]at e;unfold nm;rw[e];simp only[Nat.zero_add]at hl ⊢
 unfold nmL;simp only[hl,decide_true,Bool.true_and]
theorem LQ(s:ByteArray)(h:s.size<1):nm s=false:=by unfold nm;have:s.data.toList=[]:=List.eq_nil_of_length_eq_zero (by rw[Bf];omega);rw[this];rfl
theorem RN(s:ByteArray)(h:32<s.size):nm s=false:=by
 have e:=LM s 0 (by omega);have hl:¬(s.data.toList.drop 1).length<32:=by rw[List.length_drop,Bf];omega
 rw[aQ]at e;unfold nm;rw[e];simp only[Nat.zero_add];unfold nmL;simp only[hl,decide_false,Bool.false_and]
theorem RO(m:Nat)(hm:33<=m)(s:ByteArray):qS (m+1) s=some (nm s):=by
 simp only[qS];by_cases h1:s.size<1
 ·have:decide ((s.size:Int)<1)=true:=by simp;omega
  simp only[this,cond_true,wR,pR,wS,wT,wV,wW,pU,LQ s h1]
 have e1:decide ((s.size:Int)<1)=false:=by simp;omega
 by_cases h2:32<s.size
 ·have:decide ((32:Int)<(s.size:Int))=true:=by simp;omega
  simp only[e1,this,cond_true,cond_false,wR,pR,wS,wT,wV,wW,pU,RN s h2]
 have e2:decide ((32:Int)<(s.size:Int))=false:=by simp;omega
 have hx:=fV (s:=s) (i:=0) (by omega);have hl:=EC m s (by omega) (m+1) 0 (by omega) (by omega);rw[aQ]at hl;have hl':wU m (Nat.succ m) s 0=some (s.data.toList.all okB):=hl;simp only[e1,e2,cond_false,show idxS s 0=_ from hx,ah,wR,pR,wS,wT,wV,wW,pU,hl',LP s (by omega) (by omega)];cases (((s[0]).toNat:Int)==36)<;>rfl
theorem ED(m:Nat)(s:ByteArray)(i n:Nat)(hin:i+n<=s.size)(hs:s.size<4611686018427387904):∀(M k:Nat),k<=n->n-k<M->Ct m M s (i:Int) (n:Int) (k:Int)=some (((s.data.toList.drop (i+k)).take (n-k)).all EB)
 |0,k,_,h=>by omega
 |M+    1,k,hk,h=>by
  simp only[Ct,dlt];by_cases hlt:k<n
  ·have w1:IntKind.wrap IntKind.i64 ((i:Int)+(k:Int))=((i+k:Nat):Int):=by rw[wrap64 (by omega) (by omega)];omega
   rw[LM s (i+k) (by omega),show n-k=(n-(k+1))+1 by omega,List.take_succ_cons,List.all_cons];simp only[hlt,decide_true,cond_true,GL,Cr,GN,GQ,GR,GU,w1,fV (show i+k<s.size by omega),ah,bK (show k<9223372036854775807 by omega),ED m s i n hin hs M (k+1) (by omega) (by omega),EB];rw[show i+k+1=i+(k+1) by omega];generalize (s[i+k]).toNat=b;by_cases h1:b<128
   ·    have e1:decide ((b:Int)<128)=true:=by simp;omega
        have e2:decide (128<=b)=false:=by simp;omega
        simp only[e1,e2,cond_true,Bool.false_and]
   ·    have e1:decide ((b:Int)<128)=false:=by simp;omega
        have e2:decide (128<=b)=true:=by simp;omega
        by_cases h2:191<b
        ·have e3:decide ((191:Int)<(b:Int))=true:=by simp;omega
         have e4:decide (b<=191)=false:=by simp;omega
         simp only[e1,e2,e3,e4,cond_true,cond_false,Bool.true_and,Bool.false_and]
        ·have e3:decide ((191:Int)<(b:Int))=false:=by simp;omega
         have e4:decide (b<=191)=true:=by simp;omega
         simp only[e1,e2,e3,e4,cond_true,cond_false,Bool.true_and]
  ·have:k=n:=by omega
   subst this;simp[GL,Cr,GN,GQ,GR,GU]
theorem akw(m:Nat)(hm:4<=m)(s:ByteArray)(hs:s.size<4611686018427387904)(i n:Nat)(hn:n<=3)(hi:i<=s.size):qZ (m+1) s (i:Int) (n:Int)=some (tlU n (s.data.toList.drop i)):=by
 have w1:IntKind.wrap IntKind.i64 ((i:Int)+(n:Int))=((i+n:Nat):Int):=by rw[wrap64 (by omega) (by omega)];omega
 have hl:(s.data.toList.drop i).length=s.size-i:=by rw[List.length_drop,Bf]
 simp only[qZ,w1,dlt,tlU,hl];by_cases h:s.size<i+n
 ·have e:decide (n<=s.size-i)=false:=by simp;omega
  simp only[h,e,decide_true,cond_true,Bool.false_and]
 ·have e:decide (n<=s.size-i)=true:=by simp;omega
  have:=ED m s i n (by omega) hs (m+1) 0 (by omega) (by omega);rw[Nat.add_zero,Nat.sub_zero]at this;simp only[h,e,decide_false,cond_false,Bool.true_and,GL,Cr,GN,GQ,GR,GU];exact this
theorem ark(s:ByteArray)(i:Nat)(h:i<s.size):idxS s (i:Int)=some ((hdN (s.data.toList.drop i):Nat):Int):=by rw[fV h,LM s i h];rfl
theorem bN(b k:Nat):(((b:Nat):Int)==((k:Nat):Int))=decide (b=k):=by rw[Bool.eq_iff_iff];simp;omega
def Gt(b h:Nat):Bool:=(decide (b=224)&&decide (h<160))||(decide (b=237)&&decide (159<h))||(decide (b=240)&&decide (h<144))||(decide (b=244)&&decide (143<h))
theorem arl(m:Nat)(rec1:ByteArray->Int->Option Bool)(s:ByteArray)(hs:s.size<4611686018427387904)(i b n:Nat)(hn:n<=3)(hi:i<s.size)(hb:b<128∨i+1<s.size):OJ m rec1 s (i:Int) (b:Int) (n:Int)=bif Gt b (hdN (s.data.toList.drop (i+1)))then some false else rec1 s ((i+n+1:Nat):Int):=by
 have q1:(((b:Nat):Int)==224)=decide (b=224):=bN b 224;have q2:(((b:Nat):Int)==237)=decide (b=237):=bN b 237;have q3:(((b:Nat):Int)==240)=decide (b=240):=bN b 240;have q4:(((b:Nat):Int)==244)=decide (b=244):=bN b 244;have w0:IntKind.wrap IntKind.i64 ((IntKind.wrap IntKind.i64 ((i:Int)+(n:Int)))+1)=((i+n+1:Nat):Int):=by
  have wa:IntKind.wrap IntKind.i64 ((i:Int)+(n:Int))=((i+n:Nat):Int):=by rw[wrap64 (by omega) (by omega)];omega
  rw[wa,bK (by omega)]
 have w1:IntKind.wrap IntKind.i64 ((i:Int)+1)=((i+1:Nat):Int):=bK (by omega);simp only[OJ,dU,XH,q1,q2,q3,q4,w0,w1,Gt];by_cases hlt:i+1<s.size
 ·rw[ark s (i+1) hlt];generalize hdN (s.data.toList.drop (i+1))=h;have d1:decide (((h:Nat):Int)<160)=decide (h<160):=dlt (j:=160);have d2:decide ((159:Int)<((h:Nat):Int))=decide (159<h):=dlt (i:=159);have d3:decide (((h:Nat):Int)<144)=decide (h<144):=dlt (j:=144);have d4:decide ((143:Int)<((h:Nat):Int))=decide (143<h):=dlt (i:=143);simp only[ah,d1,d2,d3,d4];cases decide (b=224)<;>cases decide (b=237)<;>cases decide (b=240)<;>cases decide (b=244)<;>cases decide (h<160)<;>cases decide (159<h)<;>cases decide (h<144)<;>cases decide (143<h)<;>rfl
 ·have hb':b<128:=by omega
  have c1:decide (b=224)=false:=by simp;omega
  have c2:decide (b=237)=false:=by simp;omega
  have c3:decide (b=240)=false:=by simp;omega
  have c4:decide (b=244)=false:=by simp;omega
  simp only[c1,c2,c3,c4,cond_false,Bool.false_and,Bool.or_false]
theorem arn(m:Nat)(hm:4<=m)(rec1:ByteArray->Int->Option Bool)(s:ByteArray)(hs:s.size<4611686018427387904)(i b n:Nat)(hn:n<=3)(hi:i<s.size)(hb:b<128∨1<=n):xG (m+1) rec1 s (i:Int) (b:Int) (n:Int)=bif tlU n (s.data.toList.drop (i+1))then(bif Gt b (hdN (s.data.toList.drop (i+1)))then some false else rec1 s ((i+n+1:Nat):Int))else some false:=by
 have w1:IntKind.wrap IntKind.i64 ((i:Int)+1)=((i+1:Nat):Int):=bK (by omega);simp only[xG,w1,akw m hm s hs (i+1) n hn (by omega),ah];cases ht:tlU n (s.data.toList.drop (i+1));·simp only[Bool.not_false,cond_true,cond_false]
 ·have h1:i+1+n<=s.size:=by unfold tlU at ht;have:=of_decide_eq_true (Bool.and_eq_true_iff.1 ht).1;rw[List.length_drop,Bf]at this;omega
  simp only[Bool.not_true,cond_true,cond_false,arl (m+1) rec1 s hs i b n hn hi (by omega)]
theorem aiz(m:Nat)(hm:4<=m)(rec1:ByteArray->Int->Option Bool)(s:ByteArray)(hs:s.size<4611686018427387904)(i:Nat)(hi:i<s.size):OP (m+1) rec1 s (i:Int)=match okU (s[i]).toNat (s.data.toList.drop (i+1))with
  |some n=>rec1 s ((i+n+1:Nat):Int)
  |none=>some false:=by
 have hlt:=(s[i]).toNat_lt;simp only[OP,fV hi,ah];generalize (s[i]).toNat=b at hlt;have t0:tlU 0 (s.data.toList.drop (i+1))=true:=by simp[tlU]
 have r:=arn m hm rec1 s hs i b;have r0:=fun h=>r 0 (by omega) hi h;have r1:=fun h=>r 1 (by omega) hi h;have r2:=fun h=>r 2 (by omega) hi h;have r3:=fun h=>r 3 (by omega) hi h;rw[t0]at r0;have d128:decide (((b:Nat):Int)<128)=decide (b<128):=dlt (j:=128);have d194:decide ((194:Int)<=((b:Nat):Int))=decide (194<=b):=dle (i:=194);have d223:decide (((b:Nat):Int)<=223)=decide (b<=223):=dle (j:=223);have d224:decide ((224:Int)<=((b:Nat):Int))=decide (224<=b):=dle (i:=224);have d239:decide (((b:Nat):Int)<=239)=decide (b<=239):=dle (j:=239);have d240:decide ((240:Int)<=((b:Nat):Int))=decide (240<=b):=dle (i:=240);have d244:decide (((b:Nat):Int)<=244)=decide (b<=244):=dle (j:=244);simp only[d128,d194,d223,d224,d239,d240,d244];unfold okU;by_cases h1:b<128
 ·have hr:=r0 (.inl h1);have hbad:Gt b (hdN (s.data.toList.drop (i+1)))=false:=by simp only[Gt,show decide (b=224)=false by simp;omega,show decide (b=237)=false by simp;omega,show decide (b=240)=false by simp;omega,show decide (b=244)=false by simp;omega,Bool.false_and,Bool.or_false]
  rw[if_pos h1];simp only[h1,decide_true,cond_true];rw[show (0:Int)=((0:Nat):Int)from rfl,hr,hbad];rfl
 rw[if_neg h1];simp only[h1,decide_false,cond_false,OO,OM,OL,d224,d239,d240,d244];by_cases h2:194<=b∧b<=223
 ·have hr:=r1 (.inr (by omega));have hbad:Gt b (hdN (s.data.toList.drop (i+1)))=false:=by simp only[Gt,show decide (b=224)=false by simp;omega,show decide (b=237)=false by simp;omega,show decide (b=240)=false by simp;omega,show decide (b=244)=false by simp;omega,Bool.false_and,Bool.or_false]
  rw[if_pos h2];simp only[h2.1,h2.2,decide_true,cond_true];rw[show (1:Int)=((1:Nat):Int)from rfl,hr,hbad];cases tlU 1 (s.data.toList.drop (i+1))<;>rfl
 rw[if_neg h2];have e2:(bif decide (194<=b)then decide (b<=223)else false)=false:=by
  by_cases h:194<=b;·simp only[h,decide_true,cond_true];simp;omega
  ·simp[h]
 have k2:∀{X:Type}(f:Bool->X),(bif decide (194<=b)then f (decide (b<=223))else f false)=f false:=fun f=>by
  by_cases h:194<=b
  ·have:decide (b<=223)=false:=by simp;omega
   simp only[h,decide_true,cond_true,this]
  ·simp only[h,decide_false,cond_false]
 have k3:=fun{X:Type}(f:Bool->X)(h:¬(224<=b∧b<=239))=>show (bif decide (224<=b)then f (decide (b<=239))else f false)=f false by
  by_cases h':224<=b
  ·have:decide (b<=239)=false:=by simp;omega
   simp only[h',decide_true,cond_true,this]
  ·simp only[h',decide_false,cond_false]
 have k4:=fun{X:Type}(f:Bool->X)(h:¬(240<=b∧b<=244))=>show (bif decide (240<=b)then f (decide (b<=244))else f false)=f false by
  by_cases h':240<=b
  ·have:decide (b<=244)=false:=by simp;omega
   simp only[h',decide_true,cond_true,this]
  ·simp only[h',decide_false,cond_false]
 by_cases h3:224<=b∧b<=239
 ·have hr:=r2 (.inr (by omega));have hg:decide (194<=b)=true:=by simp;omega
  have hg2:decide (b<=223)=false:=by simp;omega
  rw[if_pos h3];simp only[hg,hg2,h3.1,h3.2,decide_true,cond_true,cond_false];rw[show (2:Int)=((2:Nat):Int)from rfl,hr];simp only[Gt,show decide (b=240)=false by simp;omega,show decide (b=244)=false by simp;omega,Bool.false_and,Bool.or_false];generalize hdN (s.data.toList.drop (i+1))=h;cases tlU 2 (s.data.toList.drop (i+1));·rw[if_neg (by simp)];rfl
  ·by_cases hb1:b=224∧h<160
   ·    rw[if_neg (by simp;omega)];simp only[hb1.1,hb1.2,decide_true,Bool.true_and,Bool.true_or,cond_true]
   ·    by_cases hb2:b=237∧159<h
        ·rw[if_neg (by simp;omega)];simp only[hb2.1,hb2.2,decide_true,Bool.true_and,Bool.or_true,cond_true]
        ·rw[if_pos ⟨rfl,hb1,hb2⟩];have e1:(decide (b=224)&&decide (h<160))=false:=by rw[Bool.and_eq_false_iff];simp;omega
         have e3:(decide (b=237)&&decide (159<h))=false:=by rw[Bool.and_eq_false_iff];simp;omega
         simp only[e1,e3,Bool.or_false,cond_true,cond_false]
 rw[if_neg h3];by_cases h4:240<=b∧b<=244
 ·have hr:=r3 (.inr (by omega));have hg:decide (194<=b)=true:=by simp;omega
  have hg2:decide (b<=223)=false:=by simp;omega
  have hg3:decide (224<=b)=true:=by simp;omega
  have hg4:decide (b<=239)=false:=by simp;omega
  rw[if_pos h4];simp only[hg,hg2,hg3,hg4,h4.1,h4.2,decide_true,cond_true,cond_false];rw[show (3:Int)=((3:Nat):Int)from rfl,hr];simp only[Gt,show decide (b=224)=false by simp;omega,show decide (b=237)=false by simp;omega,Bool.false_and,Bool.false_or];generalize hdN (s.data.toList.drop (i+1))=h;cases tlU 3 (s.data.toList.drop (i+1));·rw[if_neg (by simp)];rfl
  ·by_cases hb1:b=240∧h<144
   ·    rw[if_neg (by simp;omega)];simp only[hb1.1,hb1.2,decide_true,Bool.true_and,Bool.true_or,cond_true]
   ·    by_cases hb2:b=244∧143<h
        ·rw[if_neg (by simp;omega)];simp only[hb2.1,hb2.2,decide_true,Bool.true_and,Bool.or_true,cond_true]
        ·rw[if_pos ⟨rfl,hb1,hb2⟩];have e1:(decide (b=240)&&decide (h<144))=false:=by rw[Bool.and_eq_false_iff];simp;omega
         have e3:(decide (b=244)&&decide (143<h))=false:=by rw[Bool.and_eq_false_iff];simp;omega
         simp only[e1,e3,Bool.or_false,cond_true,cond_false]
 rw[if_neg h4];by_cases g1:194<=b<;>by_cases g2:224<=b<;>by_cases g3:240<=b;all_goals by_cases g4:b<=223<;>by_cases g5:b<=239<;>by_cases g6:b<=244
 all_goals first|(exfalso;omega)|(simp only[g1,g2,g3,g4,g5,g6,decide_true,decide_false,cond_true,cond_false])
theorem LU(     m:Nat)(hm:4<=m)(s:ByteArray)(hs:s.size<4611686018427387904):∀(M i k:Nat),i<=s.size->s.size-i<M->s.size-i<=k->xH (m+1) M s (i:Int)=some (Lib.validGoD k (s.data.toList.drop i))
 |0,i,_,_,h,_=>by omega
 |M+    1,i,k,hi,h,hk=>by
  simp only[xH,dlt];by_cases hlt:i<s.size
  ·obtain⟨  k,rfl⟩:∃q,k=q+1:=⟨k-1,by omega⟩;simp only[hlt,decide_true,cond_true];rw[aiz m hm _ s hs i hlt,LM s i hlt,Gs];cases e:okU (s[i]).toNat (s.data.toList.drop (i+1))with
   |none=>rfl
   |    some n=>
        have hn:n<=(s.data.toList.drop (i+1)).length:=by
         unfold okU at e;split at e;·simp only[aA]at e;omega
         ·split at e
          · split at e;·rename_i h;have:=(tl1 _).1 h;simp only[aA]at e;omega
            ·cases e
          · split at e
            ·  split at e;·rename_i h;have:=(tl2 _).1 h.1;simp only[aA]at e;omega
               ·cases e
            ·  split at e
               ·split at e;·rename_i h;have:=(tl3 _).1 h.1;simp only[aA]at e;omega
                ·cases e
               ·cases e
        rw[List.length_drop,Bf]at hn;show xH (m+1) M s ((i+n+1:Nat):Int)=_;rw[LU m hm s hs M (i+n+1) k (by omega) (by omega) (by omega)];show _=some (Lib.validGoD k (List.drop n (List.drop (i+1) s.data.toList)));rw[List.drop_drop,show i+1+n=i+n+1 by omega]
  ·rw[List.drop_eq_nil_of_le (by rw[Bf];omega),LK];simp only[hlt,decide_false,cond_false];simp[MC]
theorem aro(m:Nat)(s:ByteArray)(hs:s.size<4611686018427387904)(hm:s.size+5<=m):qO (m+1) s=some (Lib.validD s.data.toList):=by obtain⟨m,rfl⟩:∃q,m=q+1:=⟨m-1,by omega⟩;have:=LU m (by omega) s hs (m+2) 0 s.size (by omega) (by omega) (by omega);rw[aQ]at this;unfold Lib.validD;rw[Bf];exact this
def eqb(a b:ByteArray):Bool:=a.toList==b.toList
theorem wK(a b:ByteArray):eqb a b=true↔a=b:=by
 unfold eqb;rw[ByteArray.toList_eq,ByteArray.toList_eq,beq_iff_eq];refine⟨fun h=>?_,fun h=>by rw[h]⟩;cases a with|mk x=>cases b with|mk y=>
 have:x=y:=Array.ext' h;rw[this]
theorem aiA(a:ByteArray):eqb a a=true:=(wK a a).2 rfl
theorem LV(a b:ByteArray):eqb a b=eqb b a:=by rw[Bool.eq_iff_iff,wK,wK];exact eq_comm
theorem arp(a b:ByteArray):eqb a b=(a==b):=by rw[Bool.eq_iff_iff,wK,fA]
theorem LX(s t:ByteArray)(v:Dt):∀es:List Dt,mget (mput es s v) t=bif s==t then some v else mget es t
 | []=>by simp only[mput,mget];rfl
 | e::r=>by
   simp only[mput];cases h:(e.S 0)==s
   ·simp only[cond_false,mget,LX s t v r];cases h2:(e.S 0)==t;·rfl
    ·   have:(s==t)=false:=uN fun e1=>by subst e1;rw[h]at h2;cases h2
        rw[this];rfl
   ·have e1:=(fA _ _).1 h;simp only[cond_true,mget,e1];show (bif s==t then some v else mget r t)=bif s==t then some v else(bif s==t then some (e.fld 1)else mget r t);cases (s==t)<;>rfl
def akx(mp:List Dt)(seen:List ByteArray):Prop:=∀s,(mgetD mp s (.bool false)).toBool=seen.any (eqb s)
theorem aiB:akx [] []:=fun s=>rfl
theorem aiC{mp:List Dt}{seen:List ByteArray}(h:akx mp seen)(s:ByteArray):akx (mput mp s (.bool true)) (seen++[s]):=fun t=>by
 have:=h t;unfold mgetD at this ⊢
 rw[LX,List.any_append,←this];simp only[List.any_cons,List.any_nil,Bool.or_false];rw[LV t s,arp];cases (s==t);·simp
 ·simp[Dt.toBool]
end Go.Proofs.YtmecfjhdnbgfeaaGreatDoor
namespace Go.Proofs.YtmecfjhdnbgfeaaGreatDoor
open Go.Am Dt
def shp(d:Dt):Bool:=
 (I d 0==3||I d 0==9||I d 0==10||I d 1==0)&&(I d 0==4||I d 0==7||I d 0==8||(S d 2).toList==[])&&
 (I d 0==6||!(decide ((0:Int)<((L d 3).length:Int))))&&(I d 0==5||!(decide ((0:Int)<((L d 4).length:Int))))
def fl(p:ByteArray->Bool)(self:Dt->Bool):List ByteArray->List Dt->Bool
 |_,[]=>true
 |seen,f::r=>p (S f 0)&&!(seen.any (eqb (S f 0)))&&self (fld f 1)&&fl p self (seen++[S f 0]) r
def bX(p:ByteArray->Bool):Nat->Dt->Bool
 |0,_=>false
 |  n+1,d=>shp d&&(bif I d 0==9 then(I d 1==0||I d 1==1)else bif I d 0==10 then decide ((0:Int)<=I d 1)else bif I d 0==4 then(decide (((S d 2).size:Int)<=4096)&&Lib.validD (S d 2).data.toList)else
    bif I d 0==7 then decide (((S d 2).size:Int)<=4096)else bif I d 0==8 then(((S d 2).size:Int)==12)else bif I d 0==6 then(L d 3).all (bX p n)else bif I d 0==5 then fl p (bX p n) [] (L d 4)else(decide (1<=I d 0)&&decide (I d 0<=11)))
theorem LY(k:Int):k=1∨k=2∨k=3∨k=4∨k=5∨k=6∨k=7∨k=8∨k=9∨k=10∨k=11∨(k<1∨11<k):=by omega
theorem kno{k:Int}(h:k<1∨11<k):(k==1)=false∧(k==2)=false∧(k==3)=false∧(k==4)=false∧(k==5)=false∧(k==6)=false∧(k==7)=false∧(k==8)=false∧(k==9)=false∧(k==10)=false∧(k==11)=false:=by refine⟨?_,?_,?_,?_,?_,?_,?_,?_,?_,?_,?_⟩<;>rw[beq_eq_false_iff_ne]<;>omega
theorem aiD(m:Nat)(s:ByteArray)(hs:s.size<9223372036854775807):∀(M i:Nat),i<=s.size->s.size-i<M->xZ m M s (s.size:Int) (i:Int)=some ((s.data.toList.drop i).all okB)
 |0,i,_,h=>by omega
 |M+1,i,hi,h=>by
  simp only[xZ,dlt];by_cases hlt:i<s.size
  ·rw[LM s i hlt];simp only[hlt,decide_true,cond_true,xW,pV,xX,xY,yc,yg,pW,fV hlt,ah,bK (show i<9223372036854775807 by omega),aiD m s hs M (i+1) (by omega) (by omega),List.all_cons,okB];cases decide (((s[i]).toNat:Int)<33)<;>cases decide ((126:Int)<((s[i]).toNat:Int))<;>cases (((s[i]).toNat:Int)==46)<;>rfl
  ·have:i=s.size:=by omega
   subst this;rw[List.drop_eq_nil_of_le (by rw[Bf];omega)];simp[xW,pV,xX,xY,yc,yg,pW]
theorem auY(m:Nat)(hm:33<=m)(s:ByteArray):qM (m+1) s=some (nm s):=by
 simp only[qM];by_cases h1:s.size<1
 ·have:decide ((s.size:Int)<1)=true:=by simp;omega
  simp only[this,cond_true,xW,pV,xX,xY,yc,yg,pW,LQ s h1]
 have e1:decide ((s.size:Int)<1)=false:=by simp;omega
 by_cases h2:32<s.size
 ·have:decide ((32:Int)<(s.size:Int))=true:=by simp;omega
  simp only[e1,this,cond_true,cond_false,xW,pV,xX,xY,yc,yg,pW,RN s h2]
 have e2:decide ((32:Int)<(s.size:Int))=false:=by simp;omega
 have hx:=fV (s:=s) (i:=0) (by omega);have hl:=aiD m s (by omega) (m+1) 0 (by omega) (by omega);rw[aQ]at hl;have hl':xZ m (Nat.succ m) s (s.size:Int) 0=some (s.data.toList.all okB):=hl;simp only[e1,e2,cond_false,show idxS s 0=_ from hx,ah,xW,pV,xX,xY,yc,yg,pW,hl',LP s (by omega) (by omega)];cases (((s[0]).toNat:Int)==36)<;>rfl
def okW(c:UInt8):Bool:=!(decide ((c.toNat:Int)<32)||decide ((126:Int)<c.toNat))
def wd(s:ByteArray):Bool:=decide (1<=s.size)&&decide (s.size<=128)&&s.data.toList.all okW
theorem EF(m:Nat)(s:ByteArray)(hs:s.size<9223372036854775807):∀(M i:Nat),i<=s.size->s.size-i<M->xL m M s (i:Int)=some ((s.data.toList.drop i).all okW)
 |0,i,_,h=>by omega
 |M+1,i,hi,h=>by
  simp only[xL,dlt];by_cases hlt:i<s.size
  ·rw[LM s i hlt];simp only[hlt,decide_true,cond_true,xI,uX,xJ,xK,xM,xO,uY,fV hlt,ah,bK (show i<9223372036854775807 by omega),EF m s hs M (i+1) (by omega) (by omega),List.all_cons,okW];cases decide (((s[i]).toNat:Int)<32)<;>cases decide ((126:Int)<((s[i]).toNat:Int))<;>rfl
  ·have:i=s.size:=by omega
   subst this;rw[List.drop_eq_nil_of_le (by rw[Bf];omega)];simp[xI,uX,xJ,xK,xM,xO,uY]
theorem aky(m:Nat)(hm:129<=m)(s:ByteArray):qU (m+1) s=some (wd s):=by
 simp only[qU,wd];by_cases h1:s.size<1
 ·have:decide ((s.size:Int)<1)=true:=by simp;omega
  have e:decide (1<=s.size)=false:=decide_eq_false (by omega);simp only[this,cond_true,xI,uX,xJ,xK,xM,xO,uY,e,Bool.false_and]
 have e1:decide ((s.size:Int)<1)=false:=by simp;omega
 have f1:decide (1<=s.size)=true:=by simp;omega
 by_cases h2:128<s.size
 ·have:decide ((128:Int)<(s.size:Int))=true:=by simp;omega
  have e:decide (s.size<=128)=false:=by simp;omega
  simp only[e1,f1,this,cond_true,cond_false,xI,uX,xJ,xK,xM,xO,uY,e,Bool.false_and,Bool.and_false]
 have e2:decide ((128:Int)<(s.size:Int))=false:=by simp;omega
 have f2:decide (s.size<=128)=true:=by simp;omega
 have hl:=EF m s (by omega) (m+1) 0 (by omega) (by omega);rw[aQ]at hl;have hl':xL m (Nat.succ m) s 0=some (s.data.toList.all okW):=hl;simp only[e1,e2,f1,f2,cond_false,xI,uX,xJ,xK,xM,xO,uY,hl',Bool.true_and]
theorem RP(m:Nat)(hm:34<=m)(self:Dt->Option Bool)(g:Dt->Bool)(L:List Dt)(hl:L.length<9223372036854775807)(hs:∀f∈L,self (fld f 1)=some (g (fld f 1))):∀(M i:Nat)(mp:List Dt),i<=L.length->L.length-i<M->akx mp ((L.take i).map fun f=>S f 0)->
  CK m self M L (L.length:Int) (i:Int) mp=some (fl nm g ((L.take i).map fun f=>S f 0) (L.drop i))
 |0,i,_,_,h,_=>by omega
 |M+    1,i,mp,hi,h,hmp=>by
  obtain⟨m,rfl⟩:∃q,m=q+1:=⟨m-1,by omega⟩;simp only[CK,dlt];by_cases hlt:i<L.length
  ·have hr:=hs _ (aI hlt);have hp:=hmp (S L[i] 0);have hmp':=aiC hmp (S L[i] 0);have et:(L.take (i+1)).map (fun f=>S f 0)=((L.take i).map fun f=>S f 0)++[S L[i] 0]:=by rw[List.take_succ_eq_append_getElem hlt,List.map_append];rfl
   rw[←et]at hmp';have ih:=RP (m+1) hm self g L hl hs M (i+1) _ (by omega) (by omega) hmp';rw[aD hlt,fl,←et];simp only[hlt,decide_true,cond_true,GZ,G5,yw,G6,G7,G8,bE hlt,ah,hr,hp,auY m (by omega),bK (show i<9223372036854775807 by omega),ih];cases nm (S L[i] 0)<;>cases ((L.take i).map fun f=>S f 0).any (eqb (S L[i] 0))<;>cases g (fld L[i] 1)<;>rfl
  ·have:i=L.length:=by omega
   subst this;simp[GZ,G5,yw,G6,G7,G8,fl]
theorem RQ(m:Nat)(self:Dt->Option Bool)(self2:List Dt->Option Bool)(g:Dt->Bool)(L:List Dt)(hl:L.length<9223372036854775807)(hs:∀e∈L,self e=some (g e)):∀(M i:Nat),i<=L.length->L.length-i<M->
  yh m self self2 M L (L.length:Int) (i:Int)=some ((L.drop i).all g)
 |0,i,_,h=>by omega
 |M+1,i,hi,h=>by
  simp only[yh,dlt];by_cases hlt:i<L.length
  ·have hr:=hs _ (aI hlt);have ih:=RQ m self self2 g L hl hs M (i+1) (by omega) (by omega);rw[aD hlt,List.all_cons];simp only[hlt,decide_true,cond_true,ES,OT,ET,GY,yj,mJ,yt,pX,yu,pY,p8,p9,bE hlt,ah,hr,bK (show i<9223372036854775807 by omega),ih];cases g L[i]<;>rfl
  ·have:i=L.length:=by omega
   subst this;simp[ES,OT,ET,GY,yj,mJ,yt,pX,yu,pY,p8,p9]
theorem arq(m:Nat)(d:Dt):qD (m+1) d=bif shp d then mJ m (qD m) (qK m) (I d 0) (I d 0==1||I d 0==2||I d 0==11||I d 0==3) d else some false:=by
 have e5:∀s1 s2,yt m s1 s2 d=mJ m s1 s2 (I d 0) (I d 0==1||I d 0==2||I d 0==11||I d 0==3) d:=fun s1 s2=>by simp only[yt];cases (I d 0==1)<;>cases (I d 0==2)<;>cases (I d 0==11)<;>rfl
 have e3:∀s1 s2,yu m s1 s2 d=bif (I d 0==6||!(decide ((0:Int)<((L d 3).length:Int))))&&(I d 0==5||!(decide ((0:Int)<((L d 4).length:Int))))then yt m s1 s2 d else some false:=fun s1 s2=>by simp only[yu,pX,bne];cases (I d 0==6)<;>cases (I d 0==5)<;>cases decide ((0:Int)<((L d 3).length:Int))<;>cases decide ((0:Int)<((L d 4).length:Int))<;>rfl
 have e1:∀s1 s2 x0 x1,p8 m s1 s2 x0 x1 d=bif (x0||I d 1==0)&&(x1||(S d 2).toList==[])then yu m s1 s2 d else some false:=fun s1 s2 x0 x1=>by simp only[p8,pY,bne];cases x0<;>cases x1<;>cases (I d 1==0)<;>cases ((S d 2).toList==[])<;>rfl
 have e0:∀s1 s2 x0,p9 m s1 s2 x0 d=p8 m s1 s2 x0 (I d 0==4||I d 0==7||I d 0==8) d:=fun s1 s2 x0=>by simp only[p9];cases (I d 0==4)<;>cases (I d 0==7)<;>rfl
 have e:qD (m+1) d=p9 m (qD m) (qK m) (I d 0==3||I d 0==9||I d 0==10) d:=by simp only[qD];cases (I d 0==3)<;>cases (I d 0==9)<;>rfl
 rw[e,e0,e1,e3,e5];unfold shp;cases (I d 0==3||I d 0==9||I d 0==10||I d 1==0)<;>cases (I d 0==4||I d 0==7||I d 0==8||(S d 2).toList==[])<;>cases (I d 0==6||!(decide ((0:Int)<((L d 3).length:Int))))<;>cases (I d 0==5||!(decide ((0:Int)<((L d 4).length:Int))))<;>rfl
theorem EG:∀(N:Nat)(d:Dt),d.bulk<=N->N<=137438953472->WV d->∀m,2*N+40<=m->qD (m+1) d=some (bX nm N d)
 |0,d,h,_,_,_,_=>by have:=bQ d;omega
 |N+1,d,h,hN,hw,m,hm=>by
  obtain⟨m,rfl⟩:∃q,m=q+2:=⟨m-2,by omega⟩;obtain⟨p1,p2,p3,p4⟩:=cK hw;have ih:∀e:Dt,WV e->e.bulk<=N->∀q,2*N+40<=q->qD (q+1) e=some (bX nm N e):=fun e hwe hbe q hq=>EG N e hbe (by omega) hwe q hq;have k1:=RQ (m+2) (qD (m+2)) (qK (m+2)) (bX nm N) (L d 3) (by omega) (fun e he=>ih e (p3 e he).1 (by have:=(p3 e he).2;omega) (m+1) (by omega)) (m+3) 0 (aS _) (by omega);have k2:=RP (m+1) (by omega) (qD (m+1)) (bX nm N) (L d 4) (by omega) (fun f hf=>ih _ (p4 f hf).1 (by have:=(p4 f hf).2;omega) m (by omega)) (m+2) 0 [] (aS _) (by omega) aiB;rw[aQ]at k1 k2;have k1':yh (m+2) (qD (m+2)) (qK (m+2)) (Nat.succ (m+2)) (L d 3) ((L d 3).length:Int) 0=some ((L d 3).all (bX nm N)):=k1;have k2':qK (m+2) (L d 4)=some (fl nm (bX nm N) [] (L d 4)):=by simp only[qK,GZ,G5,yw,G6,G7,G8];exact k2
  rw[arq];have hj:GY (m+2) (qD (m+2)) (qK (m+2)) (L d 3) ((L d 3).length:Int) 0=some ((L d 3).all (bX nm N)):=k1';simp only[mJ,yj,hj,k2',ah,utf8_ValidString,bX];cases shp d;·rfl
  simp only[cond_true,Bool.true_and];generalize (L d 3).all (bX nm N)=a1;generalize fl nm (bX nm N) [] (L d 4)=a2;generalize Lib.validD (S d 2).data.toList=a3;generalize I d 0=k;generalize ((S d 2).size:Int)=sz;generalize I d 1=n;rcases LY k with rfl|rfl|rfl|rfl|rfl|rfl|rfl|rfl|rfl|rfl|rfl|hk
  case inr.inr.inr.inr.inr.inr.inr.inr.inr.inr.inr=>
   obtain⟨q1,q2,q3,q4,q5,q6,q7,q8,q9,q10,q11⟩:=kno hk;simp only[q1,q2,q3,q4,q5,q6,q7,q8,q9,q10,q11,Bool.or_self,cond_false];have:(decide (1<=k)&&decide (k<=11))=false:=by rw[Bool.and_eq_false_iff];simp;omega
   rw[this]
  all_goals first|rfl|(cases (n==0)<;>rfl)|(show (bif decide (sz<=4096)then some a3 else some false)=some (decide (sz<=4096)&&a3);cases decide (sz<=4096)<;>rfl)
def nmP(names:Bool)(s:ByteArray):Bool:=bif names then nm s else wd s
theorem aow(m:Nat)(self:Dt->Bool->Option Bool)(names:Bool)(rec1:Bool->Int->Dt->Option Bool)(d f:Dt)(i:Nat)(hi:i<(L d 4).length)(hl:(L d 4).length<9223372036854775807):∀(M k:Nat),k<=i->i-k<M->
  xS m self rec1 M names (i:Int) (k:Int) d f=bif ((((L d 4).take i).drop k).map fun e=>S e 0).any (eqb (S f 0))then some false else rec1 names ((i+1:Nat):Int) d
 |0,k,_,h=>by omega
 |M+1,k,hk,h=>by
  simp only[xS,dlt];by_cases hlt:k<i
  ·have hk2:k<((L d 4).take i).length:=by rw[List.length_take];omega
   have ih:=aow m self names rec1 d f i hi hl M (k+1) (by omega) (by omega);rw[aD hk2,List.map_cons,List.any_cons,List.getElem_take];simp only[hlt,decide_true,cond_true,Cw,Cx,Cy,Cz,CB,j5,CG,sQ,xU,bE (show k<(L d 4).length by omega),ah,bK (show k<9223372036854775807 by omega),ih];rw[LV (S f 0)];unfold eqb;cases ((S (L d 4)[k] 0).toList==(S f 0).toList)<;>rfl
  ·have:k=i:=by omega
   subst this;rw[List.drop_eq_nil_of_le (by rw[List.length_take];omega)];simp only[hlt,decide_false,cond_false,Cw,Cx,Cy,Cz,CB,j5,CG,sQ,xU,bK (show k<9223372036854775807 by omega)];rfl
theorem RS(m:Nat)(hm:140<=m)(self:Dt->Bool->Option Bool)(g:Dt->Bool)(names:Bool)(d:Dt)(hl:(L d 4).length<m)(hl2:m<9223372036854775807)(hs:∀f∈L d 4,self (fld f 1) names=some (g (fld f 1))):∀(M i:Nat),i<=(L d 4).length->(L d 4).length-i<M->
  uZ m self M names (i:Int) d=some (fl (nmP names) g (((L d 4).take i).map fun f=>S f 0) ((L d 4).drop i))
 |0,i,_,h=>by omega
 |M+    1,i,hi,h=>by
  obtain⟨m,rfl⟩:∃q,m=q+1:=⟨m-1,by omega⟩;simp only[uZ,dlt];by_cases hlt:i<(L d 4).length
  ·have hr:=hs _ (aI hlt);have et:((L d 4).take (i+1)).map (fun f=>S f 0)=(((L d 4).take i).map fun f=>S f 0)++[S (L d 4)[i] 0]:=by rw[List.take_succ_eq_append_getElem hlt,List.map_append];rfl
   have ih:=RS (m+1) hm self g names d hl hl2 hs M (i+1) (by omega) (by omega);have hin:=aow (m+1) self names (uZ (m+1) self M) d (L d 4)[i] i hlt (by omega) (m+2) 0 (by omega) (by omega);rw[aQ,ih]at hin;have hin':xS (m+1) self (uZ (m+1) self M) (Nat.succ (m+1)) names (i:Int) 0 d (L d 4)[i]=_:=hin;rw[aD hlt,fl,←et];simp only[hlt,decide_true,cond_true,Cw,Cx,Cy,Cz,CB,j5,CG,sQ,xU,bE hlt,ah,RO m (by omega),aky m (by omega),hr,hin',nmP];cases names<;>cases nm (S (L d 4)[i] 0)<;>cases wd (S (L d 4)[i] 0)<;>cases (((L d 4).take i).map fun f=>S f 0).any (eqb (S (L d 4)[i] 0))<;>cases g (fld (L d 4)[i] 1)<;>rfl
  ·have:i=(L d 4).length:=by omega
   subst this;simp[Cw,Cx,Cy,Cz,CB,j5,CG,sQ,xU,fl]
theorem LZ(m:Nat)(self self2:Dt->Bool->Option Bool)(g:Dt->Bool)(names:Bool)(d:Dt)(hl:(L d 3).length<9223372036854775807)(hs:∀e∈L d 3,self e names=some (g e))(r:Bool)(hr:self2 d names=some r):∀(M i:Nat),i<=(L d 3).length->(L d 3).length-i<M->
  Cu m self self2 M names (i:Int) d=some (((L d 3).drop i).all g&&r)
 |0,i,_,h=>by omega
 |M+1,i,hi,h=>by
  simp only[Cu,dlt];by_cases hlt:i<(L d 3).length
  ·have hr2:=hs _ (aI hlt);have ih:=LZ m self self2 g names d hl hs r hr M (i+1) (by omega) (by omega);rw[aD hlt,List.all_cons];simp only[hlt,decide_true,cond_true,XI,ME,bE hlt,ah,hr2,bK (show i<9223372036854775807 by omega),ih];cases g (L d 3)[i]<;>rfl
  ·have:i=(L d 3).length:=by omega
   subst this;simp[MF,hr]
theorem ars(m:Nat)(d:Dt)(names:Bool):qE (m+1) d names=bif shp d&&(decide (1<=I d 0)&&decide (I d 0<=11))then GV m (qE m) (qI m) names d else some false:=by
 have e3:∀s1 s2 x1 x2,xP m s1 s2 names x1 x2 d=bif (x1||(S d 2).toList==[])&&(x2||I d 1==0)&&(!(decide (I d 0<1))&&!(decide (11<I d 0)))then GV m s1 s2 names d else some false:=fun s1 s2 x1 x2=>by simp only[xP,jy,bne];cases x1<;>cases x2<;>cases (I d 1==0)<;>cases ((S d 2).toList==[])<;>cases decide (I d 0<1)<;>cases decide (11<I d 0)<;>rfl
 have e2:∀s1 s2 x1,xQ m s1 s2 names x1 d=xP m s1 s2 names x1 (I d 0==3||I d 0==9||I d 0==10) d:=fun s1 s2 x1=>by simp only[xQ];cases (I d 0==3)<;>cases (I d 0==9)<;>rfl
 have e1:∀s1 s2,GX m s1 s2 names d=xQ m s1 s2 names (I d 0==4||I d 0==7||I d 0==8) d:=fun s1 s2=>by simp only[GX];cases (I d 0==4)<;>cases (I d 0==7)<;>rfl
 have e:qE (m+1) d names=bif (I d 0==6||!(decide ((0:Int)<((L d 3).length:Int))))&&(I d 0==5||!(decide ((0:Int)<((L d 4).length:Int))))then GX m (qE m) (qI m) names d else some false:=by simp only[qE,xR,bne];cases (I d 0==6)<;>cases (I d 0==5)<;>cases decide ((0:Int)<((L d 3).length:Int))<;>cases decide ((0:Int)<((L d 4).length:Int))<;>rfl
 have d1:(!(decide (I d 0<1)))=decide (1<=I d 0):=by rw[Bool.eq_iff_iff];simp
 have d2:(!(decide (11<I d 0)))=decide (I d 0<=11):=by rw[Bool.eq_iff_iff];simp
 rw[e,e1,e2,e3,d1,d2];unfold shp;cases (I d 0==3||I d 0==9||I d 0==10||I d 1==0)<;>cases (I d 0==4||I d 0==7||I d 0==8||(S d 2).toList==[])<;>cases (I d 0==6||!(decide ((0:Int)<((L d 3).length:Int))))<;>cases (I d 0==5||!(decide ((0:Int)<((L d 4).length:Int))))<;>rfl
theorem Bg{l:List Dt}(h:(!(decide ((0:Int)<(l.length:Int))))=true):l=[]:=by
 refine List.eq_nil_of_length_eq_zero ?_;have:decide ((0:Int)<(l.length:Int))=false:=by simpa using h
 have:=of_decide_eq_false this;omega
theorem Bh(names:Bool):∀(N:Nat)(d:Dt),d.bulk<=N->N<=100000000000->WV d->∀m,2*N+200<=m->m<9223372036854775807->qE (m+1) d names=some (bX (nmP names) N d)
 |0,d,h,_,_,_,_,_=>by have:=bQ d;omega
 |N+1,d,h,hN,hw,m,hm,hm2=>by
  obtain⟨m,rfl⟩:∃q,m=q+2:=⟨m-2,by omega⟩;obtain⟨p1,p2,p3,p4⟩:=cK hw;have ih:∀e:Dt,WV e->e.bulk<=N->∀q,2*N+200<=q->q<9223372036854775807->qE (q+1) e names=some (bX (nmP names) N e):=fun e hwe hbe q hq hq2=>Bh names N e hbe (by omega) hwe q hq hq2;have k2:=RS (m+1) (by omega) (qE (m+1)) (bX (nmP names) N) names d (by omega) (by omega) (fun f hf=>ih _ (p4 f hf).1 (by have:=(p4 f hf).2;omega) m (by omega) (by omega)) (m+2) 0 (aS _) (by omega);rw[aQ]at k2;have k2':qI (m+2) d names=some (fl (nmP names) (bX (nmP names) N) [] (L d 4)):=by simp only[qI,xU];exact k2
  have k1:=LZ (m+2) (qE (m+2)) (qI (m+2)) (bX (nmP names) N) names d (by omega) (fun e he=>ih e (p3 e he).1 (by have:=(p3 e he).2;omega) (m+1) (by omega) (by omega)) _ k2' (m+3) 0 (aS _) (by omega);rw[aQ]at k1;have k1':XJ (m+2) (qE (m+2)) (qI (m+2)) names d=some ((L d 3).all (bX (nmP names) N)&&fl (nmP names) (bX (nmP names) N) [] (L d 4)):=k1;rw[ars];have hsz:(S d 2).size<=d.bulk:=by
   cases hw with
   | @mk k i t l ds hl hd=>rw[dM];show t.size<=_;omega
  have hu:qO (m+2) (S d 2)=some (Lib.validD (S d 2).data.toList):=aro (m+1) _ (by omega) (by omega);simp only[GV,k1',hu,ah,bX];cases hsh:shp d;·simp only[Bool.false_and,cond_false]
  have hsp:=hsh;unfold shp at hsp;have s6:(I d 0==6||!(decide ((0:Int)<((L d 3).length:Int))))=true:=by rw[Bool.and_eq_true_iff,Bool.and_eq_true_iff]at hsp;exact hsp.1.2
  have s5:(I d 0==5||!(decide ((0:Int)<((L d 4).length:Int))))=true:=by rw[Bool.and_eq_true_iff]at hsp;exact hsp.2
  have n3:I d 0≠6->L d 3=[]:=fun hne=>by
   rcases Bool.or_eq_true_iff.1 s6 with h|h;·exact absurd (by simpa using h) hne
   ·exact Bg h
  have n4:I d 0≠5->L d 4=[]:=fun hne=>by
   rcases Bool.or_eq_true_iff.1 s5 with h|h;·exact absurd (by simpa using h) hne
   ·exact Bg h
  simp only[Bool.true_and];generalize L d 3=l3 at*
  generalize L d 4=l4 at*
  generalize Lib.validD (S d 2).data.toList=a3;generalize I d 0=k at*
  generalize ((S d 2).size:Int)=sz;generalize I d 1=n;rcases LY k with rfl|rfl|rfl|rfl|rfl|rfl|rfl|rfl|rfl|rfl|rfl|hk
  case inr.inr.inr.inr.inr.inr.inr.inr.inr.inr.inr=>
   obtain⟨q1,q2,q3,q4,q5,q6,q7,q8,q9,q10,q11⟩:=kno hk;have:(decide (1<=k)&&decide (k<=11))=false:=by rw[Bool.and_eq_false_iff];simp;omega
   simp only[q1,q2,q3,q4,q5,q6,q7,q8,q9,q10,q11,this,cond_false]
  all_goals first
   |(have e3:=n3 (by decide);have e4:=n4 (by decide);subst e3 e4;rfl)
   |(have e4:=n4 (by decide);subst e4;show some (l3.all (bX (nmP names) N)&&true)=some (l3.all (bX (nmP names) N));rw[Bool.and_true])
   |(have e3:=n3 (by decide);subst e3;rfl)
   |(cases (n==0)<;>rfl)
   |(show (bif decide (sz<=4096)then some a3 else some false)=some (decide (sz<=4096)&&a3);cases decide (sz<=4096)<;>rfl)
def mx(f:Dt->Nat):List Dt->Nat
 | []=>0
 |e::r=>max (f e) (mx f r)
theorem Bj{f g:Dt->Nat}:∀{L:List Dt},(∀e∈L,f e=g e)->mx f L=mx g L
 | [],_=>rfl
 |e::r,h=>by simp only[mx,h e (bB ..),Bj fun x hx=>h x (aY _ hx)]
theorem aiE(f:Dt->Nat)(k:Dt->Dt):∀L:List Dt,mx f (L.map k)=mx (fun x=>f (k x)) L
 | []=>rfl
 |e::r=>by simp only[List.map_cons,mx,aiE f k r]
theorem Gu(f:Dt->Nat){L:List Dt}{i:Nat}(h:i<L.length):mx f (L.drop i)=max (f L[i]) (mx f (L.drop (i+1))):=by rw[aD h];rfl
def VW:Nat->Dt->Nat
 |0,_=>1
 |n+1,d=>1+mx (VW n) (gM d)
theorem EH:∀(n n':Nat)(d:Dt),WV d->d.bulk<=n->d.bulk<=n'->VW n d=VW n' d
 |0,_,d,_,h,_=>by have:=bQ d;omega
 |_+1,0,d,_,_,h=>by have:=bQ d;omega
 |n+1,n'+1,d,hw,h,h'=>by simp only[VW];congr 1;refine Bj fun e he=>?_;have:=mD hw e he;exact EH n n' e this.1 (by omega) (by omega)
def dpt(d:Dt):Nat:=VW d.bulk d
theorem Oh{d:Dt}(hw:WV d):dpt d=1+mx dpt (gM d):=by obtain⟨k,hk⟩:∃k,d.bulk=k+1:=⟨d.bulk-1,by have:=bQ d;omega⟩;unfold dpt;rw[hk];simp only[VW];congr 1;refine Bj fun e he=>?_;have:=mD hw e he;exact EH _ _ e this.1 (by omega) (aM _)
theorem RU(a b:Nat):(bif decide ((a:Int)<(b:Int))then(b:Int)else(a:Int))=((max a b:Nat):Int):=by
 rw[dlt];by_cases h:a<b;·simp only[h,decide_true,cond_true];omega
 ·simp only[h,decide_false,cond_false];omega
theorem L6(m:Nat)(self:Dt->Int->Option Int)(L:List Dt)(hl:L.length<9223372036854775807)(most:Nat)(h2:2<=most)(h3:most<1000000)(hs:∀e∈L,self e ((most-1:Nat):Int)=some ((min (dpt e) (most-1):Nat):Int)):∀(M i best:Nat),i<=L.length->L.length-i<M->best<=most->
  xC m self M (most:Int) L (best:Int) (i:Int)=some ((max best (min (mx dpt (L.drop i)) (most-1))+1:Nat):Int)
 |0,i,_,_,h,_=>by omega
 |M+1,i,best,hi,h,hb=>by
  simp only[xC,dlt];by_cases hlt:i<L.length
  ·have hr:=hs _ (aI hlt);have hw:IntKind.wrap IntKind.i64 ((most:Int)-1)=((most-1:Nat):Int):=by rw[wrap64 (by omega) (by omega)];omega
   simp only[hlt,decide_true,cond_true,xw,xA,xB,xD,xE,uW,bE hlt,ah,hw,hr,RU,bK (show i<9223372036854775807 by omega),L6 m self L hl most h2 h3 hs M (i+1) (max best (min (dpt L[i]) (most-1))) (by omega) (by omega) (by omega),Gu dpt hlt];congr 2;omega
  ·rw[List.drop_eq_nil_of_le (by omega)];simp only[hlt,decide_false,cond_false,xw,xA,xB,xD,xE,uW,mx];rw[wrap64 (by omega) (by omega)];congr 1;omega
theorem EI:∀(N:Nat)(d:Dt),d.bulk<=N->N<=137438953472->WV d->∀m,N<=m->∀most:Nat,1<=most->most<1000000->qN (m+2) d (most:Int)=some ((min (dpt d) most:Nat):Int)
 |0,d,h,_,_,_,_,_,_,_=>by have:=bQ d;omega
 |N+    1,d,h,hN,hw,m,hm,most,h1,h3=>by
  obtain⟨m,rfl⟩:∃q,m=q+1:=⟨m-1,by omega⟩;rw[qN,parts_eq d hw (m+1) (by omega) (by omega),ah];have hd:=Oh hw;by_cases h2:most<2
  ·have:decide ((most:Int)<2)=true:=by simp;omega
   simp only[this,cond_true,xw,xA,xB,xD,xE,uW];congr 1;omega
  ·have e2:decide ((most:Int)<2)=false:=by rw[decide_eq_false_iff_not];omega
   by_cases h0:(gM d).length=0
   ·    have e0:((((gM d).length:Nat):Int)==0)=true:=by simp;exact List.length_eq_zero_iff.1 h0
        rw[List.length_eq_zero_iff.1 h0]at hd;simp only[mx]at hd;simp only[e2,cond_false,e0,cond_true,xw,xA,xB,xD,xE,uW];congr 1;omega
   ·    have e0:((((gM d).length:Nat):Int)==0)=false:=by rw[beq_eq_false_iff_ne];omega
        have hlen:=LH hw;have:=L6 (m+2) (qN (m+2)) (gM d) (by omega) most (by omega) h3 (fun e he=>by obtain⟨hwe,hbe⟩:=mD hw e he;exact EI N e (by omega) (by omega) hwe m (by omega) (most-1) (by omega) (by omega)) (m+3) 0 0 (aS _) (by omega) (by omega)
        rw[aQ]at this;have h':xC (m+2) (qN (m+2)) (Nat.succ (m+2)) (most:Int) (gM d) 0 0=_:=this;have e9:max 0 (min (mx dpt (gM d)) (most-1))+1=min (dpt d) most:=by omega
        simp only[e2,cond_false,e0,xw,xA,xB,xD,xE,uW,h',e9]
theorem VX{d:Dt}(hw:WV d)(hb:d.bulk<=137438953472)(m:Nat)(hm:d.bulk<=m):yA (m+3) d=some ((min (dpt d) 17:Nat):Int):=by simp only[yA];rw[show ((17:Int))=((17:Nat):Int)from rfl,EI d.bulk d (aM _) hb hw m hm 17 (by omega) (by omega)];rfl
theorem RX(m:Nat)(self:Dt->Int->Int->Option (Bool×Int×Int))(L:List Dt)(hl:L.length<9223372036854775807)(most:Nat)(hs:∀e∈L,∀k:Nat,k<most-1->self e (k:Int) (most:Int)=some (decide (((max k (min (dpt e) (most-1)):Nat):Int)<((most-1:Nat):Int)),((max k (min (dpt e) (most-1)):Nat):Int),(most:Int))):∀(M i acc:Nat),i<=L.length->L.length-i<M->acc<most-1->
  oH m self M L (L.length:Int) (i:Int) (acc:Int) (most:Int)=some (((max acc (min (mx dpt (L.drop i)) (most-1)):Nat):Int),(most:Int))
 |0,i,_,_,h,_=>by omega
 |M+    1,i,acc,hi,h,ha=>by
  simp only[oH,dlt];by_cases hlt:i<L.length
  ·have hr:=hs _ (aI hlt) acc ha;simp only[hlt,decide_true,cond_true,sJ,sK,sM,sN,sO,sP,bE hlt,ah,hr,dlt,bK (show i<9223372036854775807 by omega),Gu dpt hlt];by_cases hm:max acc (min (dpt L[i]) (most-1))<most-1
   ·    simp only[hm,decide_true,Bool.not_true,cond_false,RX m self L hl most hs M (i+1) (max acc (min (dpt L[i]) (most-1))) (by omega) (by omega) hm];congr 3;omega
   ·    simp only[hm,decide_false,Bool.not_false,cond_true];congr 3;omega
  ·rw[List.drop_eq_nil_of_le (by omega)];simp only[hlt,decide_false,cond_false,mx];congr 3;omega
theorem RY(m:Nat)(self:Dt->Int->Int->Option (Bool×Int×Int))(L:List Dt)(hl:L.length<9223372036854775807)(most:Nat)(hs:∀e∈L,∀k:Nat,k<most-1->self (fld e 1) (k:Int) (most:Int)=some (decide (((max k (min (dpt (fld e 1)) (most-1)):Nat):Int)<((most-1:Nat):Int)),((max k (min (dpt (fld e 1)) (most-1)):Nat):Int),(most:Int))):∀(M i acc:Nat),i<=L.length->L.length-i<M->acc<most-1->
  oJ m self M L (L.length:Int) (i:Int) (acc:Int) (most:Int)=some (((max acc (min (mx (fun f=>dpt (fld f 1)) (L.drop i)) (most-1)):Nat):Int),(most:Int))
 |0,i,_,_,h,_=>by omega
 |M+    1,i,acc,hi,h,ha=>by
  simp only[oJ,dlt];by_cases hlt:i<L.length
  ·have hr:=hs _ (aI hlt) acc ha;simp only[hlt,decide_true,cond_true,sJ,sK,sM,sN,sO,sP,bE hlt,ah,hr,dlt,bK (show i<9223372036854775807 by omega),Gu (fun f=>dpt (fld f 1)) hlt];by_cases hm:max acc (min (dpt (fld L[i] 1)) (most-1))<most-1
   ·    simp only[hm,decide_true,Bool.not_true,cond_false,RY m self L hl most hs M (i+1) (max acc (min (dpt (fld L[i] 1)) (most-1))) (by omega) (by omega) hm];congr 3;omega
   ·    simp only[hm,decide_false,Bool.not_false,cond_true];congr 3;omega
  ·rw[List.drop_eq_nil_of_le (by omega)];simp only[hlt,decide_false,cond_false,mx];congr 3;omega
theorem EJ:∀(N:Nat)(d:Dt),d.bulk<=N->N<=137438953472->WV d->∀m,3*N<=m->∀most:Nat,1<=most->most<1000000->zT (m+1) d (most:Int)=some ((min (dpt d) most:Nat):Int)
 |0,d,h,_,_,_,_,_,_,_=>by have:=bQ d;omega
 |N+    1,d,h,hN,hw,m,hm,most,h1,h2=>by
  obtain⟨m,rfl⟩:∃q,m=q+3:=⟨m-3,by omega⟩;simp only[zT];have hd:=Oh hw;by_cases e1:most=1
  ·subst e1;have:((((1:Nat):Int))==(1:Int))=true:=rfl;simp only[this,cond_true];congr 1;omega
  ·have e2:(((most:Int))==(1:Int))=false:=by rw[beq_eq_false_iff_ne];omega
   have hc:∀e:Dt,WV e->e.bulk<=N->∀k:Nat,k<most-1->i87 (m+2) e (k:Int) (most:Int)=some (decide (((max k (min (dpt e) (most-1)):Nat):Int)<((most-1:Nat):Int)),((max k (min (dpt e) (most-1)):Nat):Int),(most:Int)):=fun e hwe hbe k hk=>by
        have hw1:IntKind.wrap IntKind.i64 ((most:Int)-1)=((most-1:Nat):Int):=by rw[wrap64 (by omega) (by omega)];omega
        have hr:=EJ N e hbe (by omega) hwe m (by omega) (most-1) (by omega) (by omega);simp only[i87,hw1,hr,ah,RU]
   obtain⟨p1,p2,p3,p4⟩:=cK hw;have k1:=RX (m+2) (i87 (m+2)) (L d 3) (by omega) most (fun e he=>hc e (p3 e he).1 (by have:=(p3 e he).2;omega)) (m+3) 0 0 (aS _) (by omega) (by omega);have k2:=RY (m+2) (i87 (m+2)) (L d 4) (by omega) most (fun e he=>hc _ (p4 e he).1 (by have:=(p4 e he).2;omega)) (m+3) 0 0 (aS _) (by omega) (by omega);rw[aQ]at k1 k2;unfold gM at hd;have fin:∀x:Nat,x<most->IntKind.wrap IntKind.i64 ((1:Int)+(x:Int))=((1+x:Nat):Int):=fun x hx=>by rw[wrap64 (by omega) (by omega)];omega
   simp only[e2,cond_false,Xm,i86];cases h6:(I d 0==6)
   ·    rw[h6]at hd;cases h5:(I d 0==5)
        ·rw[h5]at hd;simp only[cond_false,mx]at hd;simp only[cond_false,ah];rw[show ((0:Int))=((0:Nat):Int)from rfl,fin 0 (by omega),hd];congr 2;omega
        ·rw[h5]at hd;simp only[cond_false,cond_true,aiE]at hd;have k2':oJ (m+2) (i87 (m+2)) (Nat.succ (m+2)) (L d 4) ((L d 4).length:Int) 0 0 (most:Int)=_:=k2;simp only[cond_false,cond_true,sJ,sK,sM,sN,sO,sP,k2',ah];rw[fin _ (by omega),hd];congr 2;omega
   ·    rw[h6]at hd;simp only[cond_true]at hd;have k1':oH (m+2) (i87 (m+2)) (Nat.succ (m+2)) (L d 3) ((L d 3).length:Int) 0 0 (most:Int)=_:=k1;simp only[cond_true,sJ,sK,sM,sN,sO,sP,k1',ah];rw[fin _ (by omega),hd];congr 2;omega
theorem VY{d:Dt}(hw:WV d)(hb:d.bulk<=137438953472)(m:Nat)(hm:3*d.bulk<=m):yD (m+2) d=some ((min (dpt d) 17:Nat):Int):=by simp only[yD];rw[show ((17:Int))=((17:Nat):Int)from rfl,EJ d.bulk d (aM _) hb hw m hm 17 (by omega) (by omega)];rfl
def okV(d:Dt):Bool:=decide (nds d<=1024)&&decide (dpt d<=16)&&bX nm d.bulk d
theorem lim(n k:Nat)(h:k<1000000):decide (((min n (k+1):Nat):Int)<=((k:Nat):Int))=decide (n<=k):=by rw[dle,Bool.eq_iff_iff];simp only[decide_eq_true_eq];omega
theorem uP{d:Dt}(hw:WV d)(m:Nat)(hm:3*d.bulk+300<=m)(hb:d.bulk<=100000000000):zW (m+3) d=some (okV d):=by have h1:yC (m+2) d=some ((min (nds d) (1024+1):Nat):Int):=VU hw (by omega) m (by omega);have h2:yD (m+2) d=some ((min (dpt d) (16+1):Nat):Int):=VY hw (by omega) m (by omega);have h3:qD (m+2) d=some (bX nm d.bulk d):=EG d.bulk d (aM _) (by omega) hw (m+1) (by omega);have l1:decide (((min (nds d) (1024+1):Nat):Int)<=1024)=decide (nds d<=1024):=lim _ 1024 (by omega);have l2:decide (((min (dpt d) (16+1):Nat):Int)<=16)=decide (dpt d<=16):=lim _ 16 (by omega);simp only[zW,h1,h2,h3,ah,l1,l2,okV];cases decide (nds d<=1024)<;>cases decide (dpt d<=16)<;>rfl
theorem mE{d:Dt}(hw:WV d)(m:Nat)(hm:2*d.bulk+300<=m)(hm2:m<9223372036854775000)(hb:d.bulk<=100000000000):zV (m+4) d=some (okV d):=by have h1:yE (m+3) d=some ((min (nds d) (1024+1):Nat):Int):=VR hw (by omega) m (by omega);have h2:yA (m+3) d=some ((min (dpt d) (16+1):Nat):Int):=VX hw (by omega) m (by omega);have h3:qE (m+3) d true=some (bX nm d.bulk d):=Bh true d.bulk d (aM _) (by omega) hw (m+2) (by omega) (by omega);have l1:decide (((min (nds d) (1024+1):Nat):Int)<=1024)=decide (nds d<=1024):=lim _ 1024 (by omega);have l2:decide (((min (dpt d) (16+1):Nat):Int)<=16)=decide (dpt d<=16):=lim _ 16 (by omega);simp only[zV,h1,h2,h3,ah,l1,l2,okV];cases decide (nds d<=1024)<;>cases decide (dpt d<=16)<;>rfl
end Go.Proofs.YtmecfjhdnbgfeaaGreatDoor
namespace Go.Proofs.YtmecfjhdnbgfeaaGreatDoor
open IntKind (wrap)
open Go.Am Dt
theorem aru(k u:Nat):gr (k+1) u=if u<128 then 0 else gr k (u/128)+1:=rfl
theorem RZ:∀k u,u<128^(k+1)->gr (k+1) u=gr k u
 |0,u,h=>by
  have:u<128:=by simpa using h
  rw[aru,if_pos this];rfl
 |k+1,u,h=>by
  have a:=aru (k+1) u;have b:=aru k u;by_cases hu:u<128
  ·rw[if_pos hu]at a b;rw[a,b]
  ·rw[if_neg hu]at a b;rw[a,b,RZ k (u/128) (Nat.div_lt_of_lt_mul (by rw[Nat.pow_succ,Nat.mul_comm]at h;exact h))]
theorem bJ(x:Int):(strOfNums [x]).size=1:=by rw[strOfNums_size];rfl
theorem dN{a b:Nat}(h:a+b<=1152921504606846976):Nat.ble (a+b) 1152921504606846976=true:=Nat.ble_eq_true_of_le h
theorem Oi(m:Nat):∀(K M u:Nat)(s:ByteArray),K<=10->K<M->u<18446744073709551616->s.size+K+20<=1000000000000000->∃t,u6 m M (u:Int) s ((10-K:Nat):Int)=some t∧t.size=s.size+gr K u+1
 |_,0,_,_,_,h,_,_=>by omega
 |0,M+1,u,s,_,_,_,hs=>by have e:decide (((10-0:Nat):Int)<10)=false:=rfl;rw[u6,e,cond_false];simp only[He,Hf,CP,Hg,CQ,bJ,dN (show s.size+1<=1152921504606846976 by omega),cond_true];exact⟨_,rfl,by rw[ByteArray.size_append,bJ,gr]⟩
 |K+    1,M+1,u,s,hK,hM,hu,hs=>by
  have e:decide (((10-(K+1):Nat):Int)<10)=true:=decide_eq_true (by omega);rw[u6,e,cond_true,gr];by_cases h:u<128
  ·rw[decide_eq_false (by omega),cond_false,if_pos h];simp only[He,Hf,CP,Hg,CQ,bJ,dN (show s.size+1<=1152921504606846976 by omega),cond_true];exact⟨_,rfl,by rw[ByteArray.size_append,bJ]⟩
  ·rw[decide_eq_true (by omega),cond_true,if_neg h];have e1:wrap IntKind.u64 (Int.tdiv (u:Int) 128)=((u/128:Nat):Int):=by rw[show Int.tdiv (u:Int) 128=((u/128:Nat):Int)from rfl,dZ];omega
   have e2:wrap IntKind.i64 (((10-(K+1):Nat):Int)+1)=((10-K:Nat):Int):=by rw[bK (by omega)];congr 1;omega
   simp only[He,Hf,CP,Hg,CQ,bJ,dN (show s.size+1<=1152921504606846976 by omega),cond_true,e1,e2];by_cases hK':K=0
   ·    subst hK';obtain⟨t,t1,t2⟩:=Oi m 0 M (u/128) (s++strOfNums [orI IntKind.u8 (wrap IntKind.u8 (Int.tmod (u:Int) 128)) 128]) (by omega) (by omega) (by omega) (by rw[ByteArray.size_append,bJ];omega);exact⟨t,t1,by rw[t2,ByteArray.size_append,bJ];omega⟩
   ·    obtain⟨t,t1,t2⟩:=Oi m K M (u/128) (s++strOfNums [orI IntKind.u8 (wrap IntKind.u8 (Int.tmod (u:Int) 128)) 128]) (by omega) (by omega) (by omega) (by rw[ByteArray.size_append,bJ];omega);exact⟨t,t1,by rw[t2,ByteArray.size_append,bJ];omega⟩
theorem aiF(x:Nat)(h:x<18446744073709551616):complI IntKind.u64 (x:Int)=((18446744073709551615-x:Nat):Int):=by
 have e1:complI IntKind.u64 (x:Int)=wrap IntKind.u64 (((BitVec.ofInt 64 18446744073709551615^^^BitVec.ofInt 64 (x:Int)).toNat:Nat):Int):=rfl;have e5:((BitVec.ofInt 64 18446744073709551615^^^BitVec.ofInt 64 (x:Int)).toNat:Int)=((18446744073709551615-x:Nat):Int):=by
  have e6:BitVec.ofInt 64 18446744073709551615=BitVec.allOnes 64:=by decide
  have:(BitVec.ofInt 64 18446744073709551615^^^BitVec.ofInt 64 (x:Int))= ~~~ BitVec.ofInt 64 (x:Int):=by rw[e6,BitVec.xor_comm,BitVec.xor_allOnes]
  rw[this,BitVec.toNat_not,BitVec.toNat_ofInt];omega
 rw[e1,e5,dZ];omega
theorem rY(m:Nat)(hm:12<=m)(n:Int)(h1: -9223372036854775808<=n)(h2:n<=9223372036854775807):∃t,zC (m+1) n=some t∧t.size=fB n:=by
 have hz:=LB h1 h2;have hl:shlI IntKind.u64 (wrap IntKind.u64 n) (1:Int)=wrap IntKind.u64 (wrap IntKind.u64 n*2):=rfl;have go:∃t,u6 m (m+1) ((zz n:Nat):Int) (ByteArray.mk (List.toArray [])) ((10-10:Nat):Int)=some t∧t.size=(ByteArray.mk (List.toArray [])).size+gr 10 (zz n)+1:=Oi m 10 (m+1) (zz n) (ByteArray.mk (List.toArray [])) (by omega) (by omega) hz (by show 0+10+20<=_;omega);obtain⟨t,t1,t2⟩:=go;refine⟨t,?_,?_⟩
 ·rw[   zC,hl];by_cases h:n<0
  ·have e2:wrap IntKind.u64 n=n+18446744073709551616:=by rw[dZ];omega
   have e3:wrap IntKind.u64 ((n+18446744073709551616)*2)=((18446744073709551615-zz n:Nat):Int):=by rw[dZ];unfold zz;rw[if_neg (by omega)];omega
   rw[decide_eq_true h,cond_true,e2,e3,aiF _ (by omega),show 18446744073709551615-(18446744073709551615-zz n)=zz n by omega];exact t1
  ·have e2:wrap IntKind.u64 n=n:=by rw[dZ];omega
   have e3:wrap IntKind.u64 (n*2)=((zz n:Nat):Int):=by rw[dZ];unfold zz;rw[if_pos (by omega)];omega
   rw[decide_eq_false h,cond_false,e2,e3];exact t1
 ·rw[t2,RZ 9 (zz n) (by rw[show (128:Nat)^(9+1)=1180591620717411303424 from by decide];omega)];show 0+gr 9 (zz n)+1=_;unfold fB;omega
theorem aox(m:Nat)(self:Dt->Option ByteArray)(d:Dt)(g:Dt->Nat)(hl:(L d 3).length<1000000000000)(hs:∀e∈L d 3,∃t,self e=some t∧t.size=g e):∀(M i:Nat)(s:ByteArray),i<=(L d 3).length->(L d 3).length-i<M->s.size+(((L d 3).drop i).map g).sum<1000000000000->∃t,CS m self M s (i:Int) d=some t∧t.size=s.size+(((L d 3).drop i).map g).sum
 |0,i,s,_,h,_=>by omega
 |M+1,i,s,hi,h,hb=>by
  simp only[CS,dlt];by_cases hlt:i<(L d 3).length
  ·rw[aD hlt,List.map_cons,List.sum_cons]at hb ⊢
   obtain⟨r,r1,r2⟩:=hs _ (aI hlt);simp only[hlt,decide_true,cond_true,jA,yM,yN,yO,oL,yP,yQ,u7,vg,bE hlt,ah,r1,dN (show s.size+r.size<=1152921504606846976 by omega),bK (show i<9223372036854775807 by omega)];obtain⟨t,t1,t2⟩:=aox m self d g hl hs M (i+1) (s++r) (by omega) (by omega) (by rw[ByteArray.size_append];omega);exact⟨t,t1,by rw[t2,ByteArray.size_append,r2];omega⟩
  ·have:(L d 3).drop i=[]:=List.drop_eq_nil_of_le (by omega);exact⟨s,by simp[hlt,jA,yM,yN,yO,oL,yP,yQ,u7,vg],by simp[this]⟩
theorem aiG(m:Nat)(hm:12<=m)(self:Dt->Option ByteArray)(d:Dt)(g:Dt->Nat)(hl:(L d 4).length<1000000000000)(hz:∀f∈L d 4,(S f 0).size<1000000000000)(hs:∀f∈L d 4,∃t,self (fld f 1)=some t∧t.size=g f):∀(M i:Nat)(s:ByteArray),i<=(L d 4).length->(L d 4).length-i<M->s.size+(((L d 4).drop i).map fun f=>fB (S f 0).size+(S f 0).size+g f).sum<1000000000000->∃t,CU (m+1) self M s (i:Int) d=some t∧t.size=s.size+(((L d 4).drop i).map fun f=>fB (S f 0).size+(S f 0).size+g f).sum
 |0,i,s,_,h,_=>by omega
 |M+1,i,s,hi,h,hb=>by
  simp only[CU,dlt];by_cases hlt:i<(L d 4).length
  ·rw[aD hlt,List.map_cons,List.sum_cons]at hb ⊢
   obtain⟨n,n1,n2⟩:=rY m hm (S (L d 4)[i] 0).size (by omega) (by have:=hz _ (aI hlt);omega);obtain⟨r,r1,r2⟩:=hs _ (aI hlt);simp only[hlt,decide_true,cond_true,jA,yM,yN,yO,oL,yP,yQ,u7,vg,bE hlt,ah,n1,r1,ByteArray.size_append,dN (show s.size+n.size<=1152921504606846976 by omega),dN (show s.size+n.size+(S (L d 4)[i] 0).size<=1152921504606846976 by omega),dN (show s.size+n.size+(S (L d 4)[i] 0).size+r.size<=1152921504606846976 by omega),bK (show i<9223372036854775807 by omega)];obtain⟨t,t1,t2⟩:=aiG m hm self d g hl hz hs M (i+1) (s++n++S (L d 4)[i] 0++r) (by omega) (by omega) (by rw[ByteArray.size_append,ByteArray.size_append,ByteArray.size_append];omega);exact⟨t,t1,by rw[t2,ByteArray.size_append,ByteArray.size_append,ByteArray.size_append,r2,n2];omega⟩
  ·have:(L d 4).drop i=[]:=List.drop_eq_nil_of_le (by omega);exact⟨s,by simp[hlt,jA,yM,yN,yO,oL,yP,yQ,u7,vg],by simp[this]⟩
theorem Bl:∀(N:Nat)(d:Dt),WV d->WR d->d.bulk<=N->N<=100000000000->∀m,N+30<=m->∃t,qL (m+1) d=some t∧t.size=mG N d
 |0,d,_,_,h,_,_,_=>by have:=bQ d;omega
 |N+1,d,hw,hr,h,hN,m,hm=>by
  obtain⟨p1,p2,p3,p4⟩:=cK hw;obtain⟨r1,r3,r4⟩:=jO hr;have hz:=j3 hw;have hle:=wJ (N+1) d hw;obtain⟨q,rfl⟩:∃q,m=q+1:=⟨m-1,by omega⟩;have k3:=aox (q+1) (qL (q+1)) d (mG N) (by omega) (fun e he=>Bl N e (p3 e he).1 (r3 e he) (by have:=(p3 e he).2;omega) (by omega) q (by omega)) (q+2) 0;have k4:=aiG q (by omega) (qL (q+1)) d (fun f=>mG N (fld f 1)) (by omega) (fun f hf=>by have:=j4 hw f hf;have:=bU hf;omega) (fun f hf=>Bl N _ (p4 f hf).1 (r4 f hf) (by have:=(p4 f hf).2;omega) (by omega) q (by omega)) (q+2) 0;obtain⟨t1,a1,b1⟩:=rY q (by omega) (I d 1) r1.1 r1.2;obtain⟨t2,a2,b2⟩:=rY q (by omega) (S d 2).size (by omega) (by omega);obtain⟨t3,a3,b3⟩:=rY q (by omega) (L d 3).length (by omega) (by omega);obtain⟨t4,a4,b4⟩:=rY q (by omega) (L d 4).length (by omega) (by omega);have l1:=eO (I d 1);have l2:=eO (S d 2).size;have l3:=eO (L d 3).length;have l4:=eO (L d 4).length;rw[mG]at hle ⊢
  simp only[qL,jA,yM,yN,yO,oL,yP,yQ,u7,vg];cases e3:(I d 0==3)
  case true=>
   simp only[cond_true,a1,ah,bJ,dN (show 1+t1.size<=1152921504606846976 by omega)];exact⟨_,rfl,by rw[ByteArray.size_append,bJ,b1]⟩
  cases e10:(I d 0==10)
  case true=>
   simp only[cond_true,cond_false,a1,ah,bJ,dN (show 1+t1.size<=1152921504606846976 by omega)];exact⟨_,rfl,by rw[ByteArray.size_append,bJ,b1]⟩
  cases e9:(I d 0==9)
  case true=>
   simp only[cond_true,cond_false,bJ,dN (show 1+1<=1152921504606846976 by omega)];exact⟨_,rfl,by rw[ByteArray.size_append,bJ,bJ]⟩
  cases e4:(I d 0==4)
  case true=>
   simp only[cond_true,cond_false,a2,ah,ByteArray.size_append,bJ,dN (show 1+t2.size<=1152921504606846976 by omega),dN (show 1+t2.size+(S d 2).size<=1152921504606846976 by omega)];exact⟨_,rfl,by rw[ByteArray.size_append,ByteArray.size_append,bJ,b2];omega⟩
  cases e7:(I d 0==7)
  case true=>
   simp only[cond_true,cond_false,a2,ah,ByteArray.size_append,bJ,dN (show 1+t2.size<=1152921504606846976 by omega),dN (show 1+t2.size+(S d 2).size<=1152921504606846976 by omega)];exact⟨_,rfl,by rw[ByteArray.size_append,ByteArray.size_append,bJ,b2];omega⟩
  cases e8:(I d 0==8)
  case true=>
   simp only[cond_true,cond_false,bJ,dN (show 1+(S d 2).size<=1152921504606846976 by omega)];exact⟨_,rfl,by rw[ByteArray.size_append,bJ]⟩
  cases e6:(I d 0==6)
  case true=>
   simp only[e3,e10,e9,e4,e7,e8,e6,cond_true,cond_false]at hle;simp only[cond_true,cond_false,a3,ah,bJ,dN (show 1+t3.size<=1152921504606846976 by omega)];obtain⟨t,g1,g2⟩:=k3 (strOfNums [wrap IntKind.u8 (I d 0)]++t3) (aS _) (by omega) (by rw[aQ,ByteArray.size_append,bJ];omega);rw[aQ,ByteArray.size_append,bJ,b3,Nat.add_assoc]at g2;exact⟨t,g1,g2⟩
  cases e5:(I d 0==5)
  case true=>
   simp only[e3,e10,e9,e4,e7,e8,e6,e5,cond_true,cond_false]at hle;simp only[cond_true,cond_false,a4,ah,bJ,dN (show 1+t4.size<=1152921504606846976 by omega)];obtain⟨t,g1,g2⟩:=k4 (strOfNums [wrap IntKind.u8 (I d 0)]++t4) (aS _) (by omega) (by rw[aQ,ByteArray.size_append,bJ];omega);rw[aQ,ByteArray.size_append,bJ,b4,Nat.add_assoc]at g2;exact⟨t,g1,g2⟩
  simp only[cond_false];exact⟨_,rfl,bJ _⟩
noncomputable def lenD(d:Dt):Nat:=mG 1048576 d
theorem Oj{d:Dt}(hw:WV d)(hr:WR d)(hb:d.bulk<=1048576)(hv:okV d=true)(m:Nat)(hm:4000000<=m):zR (m+4) d=some ((lenD d:Int),0):=by rw[zR,uP hw m (by omega) (by omega),hv,ah];have:=Gq 1048576 d hw hr hb (by omega) (m+2) (by omega);simp only[Bool.not_true,cond_false,XT,this,ah];rfl
theorem Ol{d:Dt}(hw:WV d)(hr:WR d)(hb:d.bulk<=1048576)(hv:okV d=true)(m:Nat)(hm:4000000<=m)(hm2:m<9000000000000000000):z7 (m+6) d=some ((lenD d:Int),0):=by obtain⟨t,t1,t2⟩:=Bl 1048576 d hw hr hb (by omega) (m+3) (by omega);rw[z7,zU,mE hw m (by omega) (by omega) (by omega),hv,ah];simp only[Bool.not_true,cond_false,X5,t1,ah,t2];rfl
end Go.Proofs.YtmecfjhdnbgfeaaGreatDoor
namespace Go.Proofs.YtmecfjhdnbgfeaaGreatDoor
open Go.Am Dt
def fi(s:ByteArray):List Dt->Option Nat
 | []=>none
 |f::r=>bif ByteArray.toList (S f 0)==ByteArray.toList s then some 0 else(fi s r).map (· +1)
def oI(i:Nat):Option Nat->Int
 |some k=>((i+k:Nat):Int)
 |none=> -1
theorem arv(i:Nat)(o:Option Nat):oI i (o.map (· +1))=oI (i+1) o:=by cases o<;>simp[oI];omega
theorem aiH(m:Nat)(s:ByteArray)(L:List Dt)(hl:L.length<9223372036854775807):∀(M i:Nat),i<=L.length->L.length-i<M->Cc m M L s (L.length:Int) (i:Int)=some (oI i (fi s (L.drop i)))
 |0,i,_,h=>by omega
 |M+    1,i,hi,h=>by
  simp only[Cc,dlt];by_cases hlt:i<L.length
  ·rw[aD hlt];simp only[hlt,decide_true,cond_true,WU,WT,bE hlt,ah,fi,bK (show i<9223372036854775807 by omega)];cases (ByteArray.toList (S L[i] 0)==ByteArray.toList s)
   ·    simp only[cond_false];rw[aiH m s L hl M (i+1) (by omega) (by omega),arv]
   ·simp[oI]
  ·have e:i=L.length:=by omega
   subst e;simp[WW,fi,oI]
theorem auZ(m:Nat)(s:ByteArray)(L:List Dt)(hm:L.length<=m)(hm2:m<9223372036854775807):zH (m+1) L s=some (oI 0 (fi s L)):=by have h:=aiH m s L (by omega) (m+1) 0 (aS _) (by omega);rw[aQ]at h;exact h
theorem wv6{d:Dt}(hw:WV d):6<=d.bulk:=by cases hw with|mk hl hd=>rw[dM];omega
theorem dn1:decide ((0:Int)<= -1)=false:=rfl
theorem dp1(k:Nat):decide ((0:Int)<=(k:Int))=true:=decide_eq_true (by omega)
theorem VZ{v:Dt}(hw:WV v):(∀e∈L v 3,WV e)∧(∀f∈L v 4,WF f)∧v.bulk=bulkL (L v 3)+bulkL (L v 4)+((S v 2).size+6):=by
 cases hw with
 |mk hl hd=>exact⟨hl,hd,dM⟩
