/- The abstract machine, part 21: from the kit's reading of arguments to plain data; what a law's contract says of every argument.
Small facts on the primitive functions of the shallow texts.
Data of the seat's types,taken apart.
Values:well-formed data,and their sizes.
Values:their integers are 64-bit.
How much the parts of a datum hold.
Lengths of encodings:the program's,as a plain function.
Values:their parts.
Values:how many values are within a value,and how many levels it has:the program's functions and the reference's,in plain Lean.
UTF-8:the library's decoder and the reference's test agree,in plain Lean.
Names,in plain Lean.
UTF-8:the reference's test is the library's.
Sets of strings as maps:what a map of 'true' holds is what was put in.
Valid and well-formed values:the program's test and the reference's,in plain Lean.
Values:how many levels a value has;valid and well-formed values:the program and the reference agree.
Lengths of encodings:the reference's,by the encoding itself.
Fields by name,numbers,the reference's Set (out of layer 4's texts). -/
import Derived.Test.YtmecfjhdnbgfeaaGreatDoorA2
import Derived.OpenShut
import Derived.Carry
import Derived.Test.YtmecfjhdnbgfeaaGreatDoorA4
import Derived.Test.YtmecfjhdnbgfeaaGreatDoorProg
import Derived.Test.YtmecfjhdnbgfeaaGreatDoorSh
import Derived.Lib.MapLaws
import Derived.Lib.ValidU
set_option linter.all false
namespace Go.Am
open Go.RowKit Go.ChangeShapes Dt
def ays(P:Program)(fs:List Field)(n:Nat):Bool:=(List.range n).all fun j=>fs.any fun f=>Nat.ble f.offset j&&Nat.blt j (f.offset+P.cellsOf f.type)
def amb(P:Program)(Ts:List TypeId):Bool:=Ts.all fun T=>match P.underlying T with
 |some (.int _)=>true
 |some .bool=>true
 |some .string=>true
 |some (.slice e)=>dZ e Ts&&!Nat.beq (P.cellsOf e) 0
 |some (.struct fs)=>(fs.toList.all fun f=>dZ f.type Ts)&&ays P fs.toList (P.cellsOf T)
 |_=>false
mutual
def Dt.bulk:Dt->Nat
 | .int _=>1
 | .bool _=>1
 | .str s=>s.size+1
 | .agg ds=>Dt.bulkL ds+1
 | .lst es=>Dt.bulkL es+1
def Dt.bulkL:List Dt->Nat
 | []=>0
 |d::r=>Dt.bulk d+Dt.bulkL r
end
structure BulkOK {H:Type} (B:DataW H->Nat) (BA:List (DataW H)->Nat):Prop where
 str:∀l,B (.lit (.string l))=l.length+1
 lit:∀l,1<=B (.lit l)
 nil:1<=B .nil
 slice:∀es sp,B (.slice es sp)=BA es+BA sp+1
 agg:∀ps,B (.agg ps)=BA ps+1
 none:BA []=0
 cons:∀d r,BA (d::r)=B d+BA r
theorem BulkOK.le{H:Type}{B:DataW H->Nat}{BA:List (DataW H)->Nat}(h:BulkOK B BA):∀{ds:List Dt}{Ds:List (DataW H)},ds.length=Ds.length->(∀(i:Nat)(d:Dt)(D:DataW H),ds[i]? =some d->Ds[i]? =some D->d.bulk<=B D)->bulkL ds<=BA Ds
 | [],[],_,_=>by simp[bulkL,h.none]
 |d::ds,D::Ds,hl,hp=>by have h1:=hp 0 d D rfl rfl;have h2:=BulkOK.le h (ds:=ds) (Ds:=Ds) (by simpa using hl) fun i d D h3 h4=>hp (i+1) d D (by simpa using h3) (by simpa using h4);rw[h.cons];simp only[bulkL];omega
 | [],_::_,hl,_=>by simp at hl
 |_::_,[],hl,_=>by simp at hl
def HasTy(P:Program)(T:TypeId)(d:Dt):Prop:=∃(ok:Nat->Prop)(w:World)(cs:List Value),RD P ok w T d cs
section
variable{H:Type}{enc:TypeId×Value->H}{P:Program}{w:World}{sp:Nat->Bool}{Ts:List TypeId}
theorem amc{k:IntKind}{n:Int}(h:(Lit.int k n).wf=true):k.min<=n∧n<=k.max:=by simpa [Lit.wf]using h
theorem mU{A:Type}{Q:Nat->A->Prop}:∀(n:Nat),(∀i,i<n->∃d,Q i d)->∃ds:List A,ds.length=n∧∀i d,ds[i]? =some d->Q i d
 |0,_=>⟨[],rfl,fun i d h=>by simp at h⟩
 |n+    1,h=>by
  obtain⟨ds,h1,h2⟩:=mU n fun i hi=>h i (Nat.lt_succ_of_lt hi);obtain⟨d,hd⟩:=h n (Nat.lt_succ_self n);refine⟨ds++[d],by simp[h1],fun i x hx=>?_⟩;by_cases hi:i<ds.length;·rw[List.getElem?_append_left hi]at hx;exact h2 i x hx
  ·rw[List.getElem?_append_right (by omega)]at hx;have h3:i-ds.length=0:=by have:=(ak.1 hx).1;simp at this;omega
   rw[h3]at hx;simp at hx;subst hx
   rwa [show i=n by omega]
theorem G7{a:Addr}{n:Nat}{cs:List Value}(h:w.cells? 0 a n=some cs):cs.length=n∧∀j v,cs[j]? =some v->w.cell? (a.add j)=some v:=by
 unfold World.cells? at h;rw[if_pos (aN _)]at h;have hl:=mapM_some_length h;simp at hl;refine⟨hl,fun j v hv=>?_⟩;have hj:j<n:=by rw[←hl];exact(ak.1 hv).1
 have:=mapM_some_get h j j (by simp[hj]);rw[this];exact hv
theorem anO{a:Addr}{v:Value}(h:w.cell? a=some v):a.block<w.heap.size:=by
 rcases Nat.lt_or_ge a.block w.heap.size with h1|h1;·exact h1
 ·unfold World.cell? at h;rw[Array.getElem?_eq_none h1]at h;simp at h
theorem RP{B:DataW H->Nat}{BA:List (DataW H)->Nat}(hB:BulkOK B BA)(hc:amb P Ts=true):∀(n:Nat)(t:TypeId)(cs:List Value)(x:DataW H×List MemPlace),t∈Ts->DataW.trod enc P w 0 sp true n t cs=some x->(∀c∈cs,c.oneCell'=true)∧∃d,RD P (fun b=>b<w.heap.size) w t d cs∧d.bulk<=B x.1:=by
 intro n;induction n with
 |zero=>intro t cs x _ h;simp[DataW.trod]at h
 |succ n ih=>
  intro t cs x ht h;have hT:=List.all_eq_true.1 hc t ht;split at hT
  ·rename_i k hu;obtain⟨m,rfl,rfl,hwf⟩:=DataW.trod_int hu h;exact⟨by simp[Value.oneCell'],.int m,.int hu (amc hwf).1 (amc hwf).2,by simpa [Dt.bulk]using hB.lit _⟩
  ·rename_i hu;obtain⟨b,rfl,rfl⟩:=DataW.trod_bool hu h;exact⟨by simp[Value.oneCell'],.bool b,.bool hu,by simpa [Dt.bulk]using hB.lit _⟩
  ·rename_i hu;obtain⟨s,rfl,rfl,hs⟩:=DataW.trod_string hu h;refine⟨by simp[Value.oneCell'],.str s,.str hu hs,?_⟩;rw[hB.str,Array.length_toList];exact aL _
  ·rename_i e hu;rw[aJ]at hT;have he:e∈Ts:=ko.1 hT.1;have hz:P.cellsOf e≠0:=fun e0=>by rw[e0]at hT;simp at hT
   rcases DataW.trod_slice hu h with⟨rfl,rfl⟩| ⟨a,len,cap,elems,rest,m,hm,rfl,rfl,_,hlc,hcm,hel,hget,_,_⟩;·exact⟨by simp[Value.oneCell'],.lst [],RD.nil hu,by simpa [Dt.bulk,bulkL]using hB.nil⟩
   ·    obtain rfl:n=m:=by omega
        refine⟨by simp[Value.oneCell'],?_⟩;have hi:∀i,i<len->∃q:List Value×Dt,w.cells? 0 (a.add (i*P.cellsOf e)) (P.cellsOf e)=some q.1∧(∀c∈q.1,c.oneCell'=true)∧RD P (fun b=>b<w.heap.size) w e q.2 q.1∧∀D,elems[i]? =some D->q.2.bulk<=B D.1:=by intro i hi;have h1:=hget i hi;have hei:=aB (show i<elems.length by omega);rw[hei]at h1;obtain⟨cs,h2,h3⟩:=aj.1 h1;obtain⟨h4,d,h5,h6⟩:=ih e cs _ he h3;exact⟨(cs,d),h2,h4,h5,fun D hD=>by rw[hei]at hD;cases hD;exact h6⟩
        obtain⟨qs,hql,hq⟩:=mU len hi;refine⟨.lst (qs.map (·.2)),.lst a (fun i=>(qs.getD i ([],.int 0)).1) hu (by simp[hql]) hlc hcm (fun h0=>⟨rfl,?_⟩) (fun i hi=>?_) (fun i d hd=>?_),?_⟩
        ·have hq0:=hq 0 _ (aB (by omega));obtain⟨h1,_,h3,_⟩:=hq0;obtain⟨h4,h5⟩:=G7 h1;have h6:0<(qs[0]'(by omega)).1.length:=by omega
         have:=anO (h5 0 _ (aB h6))
         rwa [add_add,block_add]at this
        ·have hq1:=hq i _ (aB (by omega));obtain⟨h1,h2,_,_⟩:=hq1;obtain⟨h4,h5⟩:=G7 h1;have e1:(qs.getD i ([],.int 0))=qs[i]'(by omega):=by simp[List.getD,aB (show i<qs.length by omega)]
         rw[e1];refine⟨h4,h2,fun j v hv=>?_⟩;have:=h5 j v hv
         rwa [add_add]at this
        ·rw[List.getElem?_map]at hd;obtain⟨q,hq1,rfl⟩:=aW.1 hd;obtain⟨_,_,h3,_⟩:=hq i q hq1;have e1:(qs.getD i ([],.int 0))=q:=by simp[List.getD,hq1]
         rw[e1];exact h3
        ·rw[hB.slice];have hle:=hB.le (ds:=qs.map (·.2)) (Ds:=elems.map (·.1)) (by simp[hql,hel]) fun i d D h1 h2=>by rw[List.getElem?_map]at h1 h2;obtain⟨q,hq1,rfl⟩:=aW.1 h1;obtain⟨y,hy1,rfl⟩:=aW.1 h2;exact(hq i q hq1).2.2.2 y hy1
         simp only[Dt.bulk];omega
  ·rename_i fs hu;obtain⟨xs,m,hm,rfl,hlen,hxl,hget⟩:=DataW.trod_struct hu h;obtain rfl:n=m:=by omega
   rw[aJ]at hT;have hf:∀i,i<fs.size->∃d,∀f,fs[i]? =some f->(∀c∈(cs.drop f.offset).take (P.cellsOf f.type),c.oneCell'=true)∧RD P (fun b=>b<w.heap.size) w f.type d ((cs.drop f.offset).take (P.cellsOf f.type))∧∀D,xs[i]? =some D->d.bulk<=B D.1:=by intro i hi;have hfi:fs[i]? =some fs[i]:=Array.getElem?_eq_getElem hi;have h1:=hget i _ hfi;have hxi:=aB (show i<xs.length by omega);rw[hxi]at h1;have hm:fs[i].type∈Ts:=ko.1 (List.all_eq_true.1 hT.1 fs[i] (by simp));obtain⟨h2,d,h3,h4⟩:=ih _ _ _ hm h1;exact⟨d,fun f hf=>by rw[hfi]at hf;cases hf;exact⟨h2,h3,fun D hD=>by rw[hxi]at hD;cases hD;exact h4⟩⟩
   obtain⟨ds,hdl,hd⟩:=mU fs.size hf;have hone:∀c∈cs,c.oneCell'=true:=by intro c hcm;obtain⟨j,hj,rfl⟩:=List.getElem_of_mem hcm;have hcov:=List.all_eq_true.1 hT.2 j (List.mem_range.2 (by omega));obtain⟨f,hfm,hfj⟩:=List.any_eq_true.1 hcov;rw[aJ]at hfj;have h1:=aI hfj.1;have h2:j<f.offset+P.cellsOf f.type:=aI hfj.2;obtain⟨i,hi⟩:=List.getElem?_of_mem hfm;rw[Array.getElem?_toList]at hi;have hil:i<fs.size:=(Array.getElem?_eq_some_iff.1 hi).1;have h3:=(hd i _ (aB (by omega)) f hi).1;refine h3 _ (aM (i:=j-f.offset) ?_);rw[List.getElem?_take,if_pos (by omega),List.getElem?_drop,show f.offset+(j-f.offset)=j by omega,aB hj]
   refine⟨hone,.agg ds,.agg hu hdl hlen hone fun i f d hf1 hd1=>(hd i d hd1 f hf1).2.1,?_⟩;rw[hB.agg];have hle:=hB.le (ds:=ds) (Ds:=xs.map (·.1)) (by simp[hdl,hxl]) fun i d D h1 h2=>by
        rw[List.getElem?_map]at h2;obtain⟨y,hy1,rfl⟩:=aW.1 h2;have hil:i<fs.size:=by rw[←hdl];exact(ak.1 h1).1
        exact(hd i d h1 _ (Array.getElem?_eq_getElem hil)).2.2 y hy1
   simp only[Dt.bulk];omega
  ·cases hT
theorem anP{base:Nat}{t:TypeId}{v:Value}(ht:bS P t=false)(hs:(P.underlying t).isSome=true)(hv:Value.okWide P w .any base t v):v.cells= #[v]:=by
 cases v with
 |agg cs=>
  exfalso;unfold Value.okWide at hv;unfold bS at ht;cases hu:P.underlying t with
  |none=>rw[hu]at hs;cases hs
  |some D=>rw[hu]at hv ht;cases D<;>simp_all [Cell.okWide,Cell.ok]
 |_=>rfl
theorem amd(hc:amb P Ts=true){t:TypeId}(ht:t∈Ts):(P.underlying t).isSome=true:=by have hT:=List.all_eq_true.1 hc t ht;split at hT<;>simp_all
theorem RQ{B:DataW H->Nat}{BA:List (DataW H)->Nat}(hB:BulkOK B BA)(hc:amb P Ts=true){base:Nat}{t:TypeId}{v:Value}{D:DataW H}{p:List MemPlace}(ht:t∈Ts)(hv:Value.okWide P w .any base t v)(h:DataW.Trod enc P w 0 sp true t v D p):
  ∃d,RV P (fun b=>b<w.heap.size) w (fun _=>none) (.dat t d) v∧HasTy P t d∧d.bulk<=B D:=by
 obtain⟨n,hn⟩:=h;obtain⟨_,d,hd,hbk⟩:=RP hB hc n t _ _ ht hn;refine⟨d,?_,⟨_,_,_,hd⟩,hbk⟩;cases ha:bS P t with
 |false=>
  rw[anP ha (amd hc ht) hv]at hd;exact(RV.dat_one ha).2 (by simpa using hd)
 |true=>
  refine(RV.dat_agg ha).2 ?_;unfold Value.okWide at hv;unfold bS at ha;split at hv
  ·obtain⟨cs,rfl,_⟩:=hv;exact⟨cs.toList,by simp,hd⟩
  ·obtain⟨cs,rfl,_⟩:=hv;exact⟨cs.toList,by simp,hd⟩
  ·split at ha<;>simp_all
inductive HasTys (P:Program):List TypeId->List Dt->Prop where
 |nil:HasTys P [] []
 |cons {t:TypeId} {d:Dt} {ts:List TypeId} {ds:List Dt} (h:HasTy P t d) (r:HasTys P ts ds):HasTys P (t::ts) (d::ds)
def anQ:List TypeId->List Dt->List AV
 |t::ts,d::ds=> .dat t d::anQ ts ds
 |_,_=>[]
theorem xB{B:DataW H->Nat}{BA:List (DataW H)->Nat}(hB:BulkOK B BA)(hc:amb P Ts=true){base:Nat}:∀{ts:List TypeId}{vs:List Value}{Ds:List (DataW H)}{p:List MemPlace},(∀t∈ts,t∈Ts)->(∀(j:Nat) t v,ts[j]? =some t->vs[j]? =some v->Value.okWide P w .any base t v)->DataW.TrodAll enc P w 0 sp true ts vs Ds p->
   ∃ds,HasTys P ts ds∧bulkL ds<=BA Ds∧RVsX P (fun b=>b<w.heap.size) w (fun _=>none) (anQ ts ds) vs
 | [],vs,Ds,p,_,_,h=>by obtain⟨rfl,rfl,rfl⟩:=trodAll_nil h;exact⟨[],.nil,by simp[bulkL],.nil⟩
 | t::ts,vs,Ds,p,hm,hv,h=>by obtain⟨v,vs',d,ds',p',q',rfl,rfl,rfl,h1,h2⟩:=trodAll_cons h;obtain⟨x,hx,hty,hb1⟩:=RQ hB hc (hm t (by simp)) (hv 0 t v rfl rfl) h1;obtain⟨xs,hty2,hb2,hxs⟩:=xB hB hc (fun t ht=>hm t (by simp[ht])) (fun j t v h3 h4=>hv (j+1) t v (by simpa using h3) (by simpa using h4)) h2;exact⟨x::xs,.cons hty hty2,by rw[hB.cons];simp only[bulkL];omega,.cons hx hxs⟩
theorem pO(hl:laidOutB P=true){W W':World}(hb:Below W.heap.size W W'):∀{ts:List TypeId}{vs:List Value}{Ds:List (DataW H)}{p:List MemPlace},(ts.all fun t=>P.readableRec t&&decide (t<P.types.size))=true->DataW.TrodAll enc P W 0 (fun _=>true) true ts vs Ds p->(∀x∈p,x.block<W.heap.size)->
   DataW.TrodAll enc P W' 0 (fun b=>decide (b<W.heap.size)) true ts vs Ds p
 | [],vs,Ds,p,_,h,_=>by obtain⟨rfl,rfl,rfl⟩:=trodAll_nil h;rfl
 | t::ts,vs,Ds,p,hr,h,hlt=>by obtain⟨v,vs',d,ds',p',q',rfl,rfl,rfl,h1,h2⟩:=trodAll_cons h;simp only[List.all_cons,aJ,decide_eq_true_eq]at hr;exact trodAll_cons_mk (Below.trod hl hr.1.1 hr.1.2 h1 hb fun x hx=>hlt x (by simp[hx])) (pO hl hb (by simpa using hr.2) h2 fun x hx=>hlt x (by simp[hx]))
theorem xC{base:Nat}{held:Bool}:∀{ts:List TypeId}{vs:List Value}{Ds:List (DataW H)}{p:List MemPlace},DataW.TrodAll enc P w base sp held ts vs Ds p->Ds.length=ts.length
 | [],vs,Ds,p,h=>by obtain⟨_,rfl,_⟩:=trodAll_nil h;rfl
 |t::ts,vs,Ds,p,h=>by obtain⟨v,vs',d,ds',p',q',rfl,rfl,rfl,h1,h2⟩:=trodAll_cons h;simp[xC h2]
theorem ame{B:DataW H->Nat}{BA:List (DataW H)->Nat}(hB:BulkOK B BA){N:Nat}{f:FuncId}{fn:Func}{s:ChangeSpec}{TB:TypeId}(hl:laidOutB P=true)(hc:amb P Ts=true)(hsub:(fn.params.toList.all fun t=>dZ t Ts)=true)(hread:(fn.params.toList.all fun t=>P.readableRec t&&decide (t<P.types.size))=true)
  (hu:P.underlying TB=some .bool)(hrt:fn.resultTypes= #[TB])(hvars:s.vars=[])(hspec:∀Ds:List (DataW H),Ds.length=fn.params.toList.length->s.fn H Ds={results:=[.lit (.bool true)],args:=Ds})
  (hfx:∀ds,HasTys P fn.params.toList ds->bulkL ds<=N->FX P f (anQ fn.params.toList ds) [] (.dat TB (.bool true)) [])
  {W:World}{base:Nat}{args:Array Value}{Ds gs:List (DataW H)}{before:List MemPlace}
  (hval:∀(j:Nat) t v,fn.params[j]? =some t->args[j]? =some v->Value.okWide P W .any base t v)
  (htab:TabOK (fun b=>b<W.heap.size) W)(hN:BA Ds<=N)(hW:DataW.Whole enc P fn.params.toList s.vars false W args.toList Ds gs before):
  Calls P f args W fun e W'=>∃v,e= .returned v∧s.post enc P fn false true false false W args v W':=by
 have hW':=hW;obtain⟨p,q,hA,hV,rfl,hfz,hnd⟩:=hW;rw[hvars]at hV;obtain⟨rfl,rfl⟩:=trodVars_none hV;obtain⟨ds,hty,hbk,hrv⟩:=xB hB hc (ts:=fn.params.toList) (fun t ht=>ko.1 (List.all_eq_true.1 hsub t ht)) (fun j t v h1 h2=>hval j t v (by simpa using h1) (by simpa using h2)) hA;have no:∀(β:Nat->Option Value) l b,¬owns [] β l b:=fun β l b h=>by obtain⟨h1,_⟩:=h;cases l<;>cases h1
 have walk:=hfx ds hty (Nat.le_trans hbk hN) (fun b=>b<W.heap.size) W (fun _=>none) args.toList (fun b hb=>⟨hb,fun⟨l,hx⟩=>no _ _ _ hx⟩) (fun l=>by cases l<;>rfl) (fun l l' b h1=>(no _ _ _ h1).elim) hrv htab;rw[show args.toList.toArray=args by simp]at walk;refine walk.mono ?_;rintro e W' ⟨v,β',rfl,fin,hr⟩;have hbel:Below W.heap.size W W':=⟨fin.below.os,fin.below.tape,fin.below.output,fin.below.size,fun b hb=>fin.below.block b hb (fun⟨l,hx⟩=>no _ _ _ hx)⟩;obtain⟨_,rfl⟩:=RV.bool hu hr;have hlt:∀x∈p,x.block<W.heap.size:=fun x hx=>hW'.lt x (by simp[hx]);have hlen:=xC hA;refine⟨_,rfl,Ds,[],p++[],[],p,[],hW',?_,?_,?_,hbel.frame _,fun h=>by cases h⟩
 ·rw[List.append_nil,hspec Ds hlen,hrt];exact trodAll_mk1 (shut_bool hu _)
 ·rw[List.append_nil,hspec Ds hlen];exact pO hl hbel hread hA hlt
 ·rw[List.append_nil,hspec Ds hlen,hvars];rfl
end
end Go.Am
namespace Go.Am
theorem wrap64{n:Int}(h1: -9223372036854775808<=n)(h2:n<=9223372036854775807):IntKind.wrap IntKind.i64 n=n:=by unfold IntKind.wrap;simp only[IntKind.bits,IntKind.signed,Bool.true_and,Nat.add_one_sub_one];split<;>rename_i h<;>simp only[ge_iff_le,decide_eq_true_eq]at h<;>omega
theorem bF{i:Nat}(h:i<9223372036854775807):IntKind.wrap IntKind.i64 ((i:Int)+1)=((i+1:Nat):Int):=by rw[wrap64 (by omega) (by omega)];omega
theorem bg{l:List Dt}{i:Nat}(h:i<l.length):idx l (i:Int)=some l[i]:=by unfold idx;rw[if_pos (by omega)];simp[h]
theorem dW{s:ByteArray}{i:Nat}(h:i<s.size):idxS s (i:Int)=some ((s[i]).toNat:Int):=by unfold idxS;rw[if_pos (by omega)];simp[h]
theorem Dp{l:List Dt}{i j:Nat}(h1:i<=j)(h2:j<=l.length):cutL l (i:Int) (j:Int)=some ((l.drop i).take (j-i)):=by unfold cutL;rw[if_pos (by omega)];simp
theorem gZ{l r:List Dt}(h:l.length+r.length<=137438953472):app l r=some (l++r):=by unfold app;rw[if_pos h]
theorem dlt{i j:Nat}:decide ((i:Int)<(j:Int))=decide (i<j):=by simp
theorem dle{i j:Nat}:decide ((i:Int)<=(j:Int))=decide (i<=j):=by simp
end Go.Am
namespace Go.Proofs.YtmecfjhdnbgfeaaGreatDoor
open Go.Am
theorem amf{T E:TypeId}{P:Program}{d:Dt}(hu:P.underlying T=some (.slice E))(h:HasTy P T d):d= .lst d.toLst∧d.toLst.length<=maxLen∧∀e∈d.toLst,HasTy P E e:=by obtain⟨ok,w,_,h⟩:=h;obtain⟨h1,a,cap,ad,g,_,h2,h3,_,_,h4⟩:=h.lst_inv hu;refine⟨h1,Nat.le_trans h2 h3,fun e he=>?_⟩;obtain⟨i,hi⟩:=List.getElem?_of_mem he;exact⟨ok,w,_,h4 i e hi⟩
end Go.Proofs.YtmecfjhdnbgfeaaGreatDoor
namespace Go.Proofs.YtmecfjhdnbgfeaaGreatDoor
open Go.Am Dt
mutual
inductive WV:Dt->Prop where
 |mk {k i:Int} {t:ByteArray} {l ds:List Dt} (hl:∀e∈l,WV e) (hd:∀f∈ds,WF f):WV (.agg [.int k,.int i,.str t,.lst l,.lst ds])
inductive WF:Dt->Prop where
 |mk {s:ByteArray} {v:Dt} (h:WV v):WF (.agg [.str s,v])
end
theorem asj{A:Type}{l:List A}(h:l.length=2):∃a b,l=[a,b]:=by
 match l,h with
 | [a,b],_=>exact⟨a,b,rfl⟩
theorem amg{A:Type}{l:List A}(h:l.length=5):∃a b c d e,l=[a,b,c,d,e]:=by
 match l,h with
 | [a,b,c,d,e],_=>exact⟨a,b,c,d,e,rfl⟩
structure TQ (T:TypeId) (d:Dt):Prop where
 i:T=3->∃n,d= .int n
 s:T=9->∃s,d= .str s
 v:T=26->WV d
 f:T=48->WF d
 l:T=23->∃l,d= .lst l∧∀e∈l,WV e
 d:T=24->∃l,d= .lst l∧∀e∈l,WF e
theorem ax9{ok:Nat->Prop}{w:World}{T:TypeId}{d:Dt}{cs:List Value}(h:RD Tryz.prog ok w T d cs):TQ T d:=by
 induction h with
 | @int T k n hu _ _=>
   refine⟨fun _=>⟨n,rfl⟩,?_,?_,?_,?_,?_⟩<;>rintro rfl;·have:=hu.symm.trans Tryz.underlying9;cases this
   ·have:=hu.symm.trans Tryz.underlying26;cases this
   ·have:=hu.symm.trans Tryz.underlying48;cases this
   ·have:=hu.symm.trans Tryz.underlying23;cases this
   ·have:=hu.symm.trans Tryz.underlying24;cases this
 | @bool T b hu=>
   refine⟨?_,?_,?_,?_,?_,?_⟩<;>rintro rfl;·have:=hu.symm.trans Tryz.underlying3;cases this
   ·have:=hu.symm.trans Tryz.underlying9;cases this
   ·have:=hu.symm.trans Tryz.underlying26;cases this
   ·have:=hu.symm.trans Tryz.underlying48;cases this
   ·have:=hu.symm.trans Tryz.underlying23;cases this
   ·have:=hu.symm.trans Tryz.underlying24;cases this
 | @str T s hu _=>
   refine⟨?_,fun _=>⟨s,rfl⟩,?_,?_,?_,?_⟩<;>rintro rfl;·have:=hu.symm.trans Tryz.underlying3;cases this
   ·have:=hu.symm.trans Tryz.underlying26;cases this
   ·have:=hu.symm.trans Tryz.underlying48;cases this
   ·have:=hu.symm.trans Tryz.underlying23;cases this
   ·have:=hu.symm.trans Tryz.underlying24;cases this
 | @agg T fs ds cs hu hl _ _ _ ih=>
   refine⟨?_,?_,?_,?_,?_,?_⟩<;>rintro rfl;·have:=hu.symm.trans Tryz.underlying3;cases this
   ·have:=hu.symm.trans Tryz.underlying9;cases this
   ·have e:=hu.symm.trans Tryz.underlying26;simp only[aA,TypeDesc.struct.injEq]at e;subst e;obtain⟨a,b,c,d,e,rfl⟩:=amg hl;obtain⟨n0,rfl⟩:=(ih 0 _ a rfl rfl).i rfl;obtain⟨n1,rfl⟩:=(ih 1 _ b rfl rfl).i rfl;obtain⟨n2,rfl⟩:=(ih 2 _ c rfl rfl).s rfl;obtain⟨l,rfl,hl'⟩:=(ih 3 _ d rfl rfl).l rfl;obtain⟨ds,rfl,hd'⟩:=(ih 4 _ e rfl rfl).d rfl;exact .mk hl' hd'
   ·have e:=hu.symm.trans Tryz.underlying48;simp only[aA,TypeDesc.struct.injEq]at e;subst e;obtain⟨a,b,rfl⟩:=asj hl;obtain⟨s,rfl⟩:=(ih 0 _ a rfl rfl).s rfl;exact .mk ((ih 1 _ b rfl rfl).v rfl)
   ·have:=hu.symm.trans Tryz.underlying23;cases this
   ·have:=hu.symm.trans Tryz.underlying24;cases this
 | @lst T E es a len cap ad g hu _ _ _ _ _ _ ih=>
   refine⟨?_,?_,?_,?_,?_,?_⟩<;>rintro rfl;·have:=hu.symm.trans Tryz.underlying3;cases this
   ·have:=hu.symm.trans Tryz.underlying9;cases this
   ·have:=hu.symm.trans Tryz.underlying26;cases this
   ·have:=hu.symm.trans Tryz.underlying48;cases this
   ·have e:=hu.symm.trans Tryz.underlying23;simp only[aA,TypeDesc.slice.injEq]at e;subst e;refine⟨es,rfl,fun e he=>?_⟩;obtain⟨i,hi⟩:=List.getElem?_of_mem he;exact(ih i e hi).v rfl
   ·have e:=hu.symm.trans Tryz.underlying24;simp only[aA,TypeDesc.slice.injEq]at e;subst e;refine⟨es,rfl,fun e he=>?_⟩;obtain⟨i,hi⟩:=List.getElem?_of_mem he;exact(ih i e hi).f rfl
 | @arr T E q es cs hu _ _ _ _ ih=>
   refine⟨?_,?_,?_,?_,?_,?_⟩<;>rintro rfl;·have:=hu.symm.trans Tryz.underlying3;cases this
   ·have:=hu.symm.trans Tryz.underlying9;cases this
   ·have:=hu.symm.trans Tryz.underlying26;cases this
   ·have:=hu.symm.trans Tryz.underlying48;cases this
   ·have:=hu.symm.trans Tryz.underlying23;cases this
   ·have:=hu.symm.trans Tryz.underlying24;cases this
 | @opq T K V z hu _=>
   refine⟨?_,?_,?_,?_,?_,?_⟩<;>rintro rfl;·have:=hu.symm.trans Tryz.underlying3;cases this
   ·have:=hu.symm.trans Tryz.underlying9;cases this
   ·have:=hu.symm.trans Tryz.underlying26;cases this
   ·have:=hu.symm.trans Tryz.underlying48;cases this
   ·have:=hu.symm.trans Tryz.underlying23;cases this
   ·have:=hu.symm.trans Tryz.underlying24;cases this
 | @nilp T E hu=>
   refine⟨?_,?_,?_,?_,?_,?_⟩<;>rintro rfl;·have:=hu.symm.trans Tryz.underlying3;cases this
   ·have:=hu.symm.trans Tryz.underlying9;cases this
   ·have:=hu.symm.trans Tryz.underlying26;cases this
   ·have:=hu.symm.trans Tryz.underlying48;cases this
   ·have:=hu.symm.trans Tryz.underlying23;cases this
   ·have:=hu.symm.trans Tryz.underlying24;cases this
 | @ptr T E d cs ad hu _ _ _ _ _=>
   refine⟨?_,?_,?_,?_,?_,?_⟩<;>rintro rfl;·have:=hu.symm.trans Tryz.underlying3;cases this
   ·have:=hu.symm.trans Tryz.underlying9;cases this
   ·have:=hu.symm.trans Tryz.underlying26;cases this
   ·have:=hu.symm.trans Tryz.underlying48;cases this
   ·have:=hu.symm.trans Tryz.underlying23;cases this
   ·have:=hu.symm.trans Tryz.underlying24;cases this
theorem asl{d:Dt}(h:HasTy Tryz.prog 26 d):WV d:=by obtain⟨_,_,_,h⟩:=h;exact(ax9 h).v rfl
theorem bV(d:Dt):1<=d.bulk:=by cases d<;>simp[Dt.bulk]
theorem dh{e:Dt}:∀{l:List Dt},e∈l->e.bulk<=bulkL l
 |a::r,h=>by
  simp only[bulkL];rcases List.mem_cons.1 h with rfl|h;·omega
  ·have:=dh h;omega
theorem dx:∀l:List Dt,l.length<=bulkL l
 | []=>by simp[bulkL]
 |a::r=>by have:=dx r;have:=bV a;simp only[bulkL,List.length_cons];omega
theorem dS{k i:Int}{t:ByteArray}{l ds:List Dt}:Dt.bulk (.agg [.int k,.int i,.str t,.lst l,.lst ds])=bulkL l+bulkL ds+(t.size+6):=by simp only[Dt.bulk,bulkL];omega
theorem gV{s:ByteArray}{v:Dt}:Dt.bulk (.agg [.str s,v])=v.bulk+s.size+2:=by simp only[Dt.bulk,bulkL];omega
theorem mV{A:Type}(l:List A)(z:A)(i:Nat)(h:i<l.length):(l.take i++List.replicate (l.length-i) z).set i l[i]=l.take (i+1)++List.replicate (l.length-(i+1)) z:=by
 rw[List.set_append_right _ _ (by simp;omega)];have h1:i-(l.take i).length=0:=by simp;omega
 rw[h1,show l.length-i=(l.length-(i+1))+1 by omega,List.replicate_succ,List.set_cons_zero,List.take_succ_eq_append_getElem h,List.append_assoc];rfl
theorem tT{A:Type}(l:List A)(z:A)(i:Nat)(h:i<=l.length):(l.take i++List.replicate (l.length-i) z).length=l.length:=by simp;omega
theorem eD{l:List Dt}{i:Nat}(h:i<l.length):inL l (i:Int)=some ():=by unfold inL;rw[if_pos (by omega)]
theorem nG{n:Nat}{z:Dt}(h:n<=137438953472):mkL (n:Int) (n:Int) z=some (List.replicate n z):=by unfold mkL;rw[if_pos (by omega)];simp
theorem bU{d:Dt}(hw:WV d):(L d 3).length<=d.bulk∧(L d 4).length<=d.bulk∧(∀e∈L d 3,WV e∧e.bulk<d.bulk)∧(∀f∈L d 4,WV (fld f 1)∧(fld f 1).bulk<d.bulk):=by
 cases hw with
 | @mk  k i t l ds hl hd=>
   rw[dS];have h3:=dx l;have h4:=dx ds;refine⟨by show l.length<=_;omega,by show ds.length<=_;omega,fun e he=>⟨hl e he,?_⟩,fun f hf=>?_⟩;·have:=dh (show e∈l from he);omega
   ·have hb:=dh (show f∈ds from hf);cases hd f hf with
    |   @mk s v hv=>
        rw[gV]at hb;exact⟨hv,by show v.bulk<_;omega⟩
def rgI(i:Int):Prop:= -9223372036854775808<=i∧i<=9223372036854775807
mutual
inductive WR:Dt->Prop where
 |mk {k i:Int} {t:ByteArray} {l ds:List Dt} (hi:rgI i) (hl:∀e∈l,WR e) (hd:∀f∈ds,WRF f):WR (.agg [.int k,.int i,.str t,.lst l,.lst ds])
inductive WRF:Dt->Prop where
 |mk {s:ByteArray} {v:Dt} (h:WR v):WRF (.agg [.str s,v])
end
structure TR (T:TypeId) (d:Dt):Prop where
 i:T=3->∃n,d= .int n∧rgI n
 s:T=9->∃s,d= .str s
 v:T=26->WR d
 f:T=48->WRF d
 l:T=23->∃l,d= .lst l∧∀e∈l,WR e
 d:T=24->∃l,d= .lst l∧∀e∈l,WRF e
theorem aya{ok:Nat->Prop}{w:World}{T:TypeId}{d:Dt}{cs:List Value}(h:RD Tryz.prog ok w T d cs):TR T d:=by
 induction h with
 | @int T k n hu h1 h2=>
   refine⟨?_,?_,?_,?_,?_,?_⟩<;>rintro rfl
   ·have e:=hu.symm.trans Tryz.underlying3;simp only[aA,TypeDesc.int.injEq]at e;subst e;exact⟨n,rfl,h1,h2⟩
   ·have:=hu.symm.trans Tryz.underlying9;cases this
   ·have:=hu.symm.trans Tryz.underlying26;cases this
   ·have:=hu.symm.trans Tryz.underlying48;cases this
   ·have:=hu.symm.trans Tryz.underlying23;cases this
   ·have:=hu.symm.trans Tryz.underlying24;cases this
 | @bool T b hu=>
   refine⟨?_,?_,?_,?_,?_,?_⟩<;>rintro rfl;·have:=hu.symm.trans Tryz.underlying3;cases this
   ·have:=hu.symm.trans Tryz.underlying9;cases this
   ·have:=hu.symm.trans Tryz.underlying26;cases this
   ·have:=hu.symm.trans Tryz.underlying48;cases this
   ·have:=hu.symm.trans Tryz.underlying23;cases this
   ·have:=hu.symm.trans Tryz.underlying24;cases this
 | @str T s hu _=>
   refine⟨?_,fun _=>⟨s,rfl⟩,?_,?_,?_,?_⟩<;>rintro rfl;·have:=hu.symm.trans Tryz.underlying3;cases this
   ·have:=hu.symm.trans Tryz.underlying26;cases this
   ·have:=hu.symm.trans Tryz.underlying48;cases this
   ·have:=hu.symm.trans Tryz.underlying23;cases this
   ·have:=hu.symm.trans Tryz.underlying24;cases this
 | @agg T fs ds cs hu hl _ _ _ ih=>
   refine⟨?_,?_,?_,?_,?_,?_⟩<;>rintro rfl;·have:=hu.symm.trans Tryz.underlying3;cases this
   ·have:=hu.symm.trans Tryz.underlying9;cases this
   ·have e:=hu.symm.trans Tryz.underlying26;simp only[aA,TypeDesc.struct.injEq]at e;subst e;obtain⟨a,b,c,d,e,rfl⟩:=amg hl;obtain⟨n0,rfl,_⟩:=(ih 0 _ a rfl rfl).i rfl;obtain⟨n1,rfl,hr⟩:=(ih 1 _ b rfl rfl).i rfl;obtain⟨n2,rfl⟩:=(ih 2 _ c rfl rfl).s rfl;obtain⟨l,rfl,hl'⟩:=(ih 3 _ d rfl rfl).l rfl;obtain⟨ds,rfl,hd'⟩:=(ih 4 _ e rfl rfl).d rfl;exact .mk hr hl' hd'
   ·have e:=hu.symm.trans Tryz.underlying48;simp only[aA,TypeDesc.struct.injEq]at e;subst e;obtain⟨a,b,rfl⟩:=asj hl;obtain⟨s,rfl⟩:=(ih 0 _ a rfl rfl).s rfl;exact .mk ((ih 1 _ b rfl rfl).v rfl)
   ·have:=hu.symm.trans Tryz.underlying23;cases this
   ·have:=hu.symm.trans Tryz.underlying24;cases this
 | @lst T E es a len cap ad g hu _ _ _ _ _ _ ih=>
   refine⟨?_,?_,?_,?_,?_,?_⟩<;>rintro rfl;·have:=hu.symm.trans Tryz.underlying3;cases this
   ·have:=hu.symm.trans Tryz.underlying9;cases this
   ·have:=hu.symm.trans Tryz.underlying26;cases this
   ·have:=hu.symm.trans Tryz.underlying48;cases this
   ·have e:=hu.symm.trans Tryz.underlying23;simp only[aA,TypeDesc.slice.injEq]at e;subst e;refine⟨es,rfl,fun e he=>?_⟩;obtain⟨i,hi⟩:=List.getElem?_of_mem he;exact(ih i e hi).v rfl
   ·have e:=hu.symm.trans Tryz.underlying24;simp only[aA,TypeDesc.slice.injEq]at e;subst e;refine⟨es,rfl,fun e he=>?_⟩;obtain⟨i,hi⟩:=List.getElem?_of_mem he;exact(ih i e hi).f rfl
 | @arr T E q es cs hu _ _ _ _ ih=>
   refine⟨?_,?_,?_,?_,?_,?_⟩<;>rintro rfl;·have:=hu.symm.trans Tryz.underlying3;cases this
   ·have:=hu.symm.trans Tryz.underlying9;cases this
   ·have:=hu.symm.trans Tryz.underlying26;cases this
   ·have:=hu.symm.trans Tryz.underlying48;cases this
   ·have:=hu.symm.trans Tryz.underlying23;cases this
   ·have:=hu.symm.trans Tryz.underlying24;cases this
 | @opq T K V z hu _=>
   refine⟨?_,?_,?_,?_,?_,?_⟩<;>rintro rfl;·have:=hu.symm.trans Tryz.underlying3;cases this
   ·have:=hu.symm.trans Tryz.underlying9;cases this
   ·have:=hu.symm.trans Tryz.underlying26;cases this
   ·have:=hu.symm.trans Tryz.underlying48;cases this
   ·have:=hu.symm.trans Tryz.underlying23;cases this
   ·have:=hu.symm.trans Tryz.underlying24;cases this
 | @nilp T E hu=>
   refine⟨?_,?_,?_,?_,?_,?_⟩<;>rintro rfl;·have:=hu.symm.trans Tryz.underlying3;cases this
   ·have:=hu.symm.trans Tryz.underlying9;cases this
   ·have:=hu.symm.trans Tryz.underlying26;cases this
   ·have:=hu.symm.trans Tryz.underlying48;cases this
   ·have:=hu.symm.trans Tryz.underlying23;cases this
   ·have:=hu.symm.trans Tryz.underlying24;cases this
 | @ptr T E d cs ad hu _ _ _ _ _=>
   refine⟨?_,?_,?_,?_,?_,?_⟩<;>rintro rfl;·have:=hu.symm.trans Tryz.underlying3;cases this
   ·have:=hu.symm.trans Tryz.underlying9;cases this
   ·have:=hu.symm.trans Tryz.underlying26;cases this
   ·have:=hu.symm.trans Tryz.underlying48;cases this
   ·have:=hu.symm.trans Tryz.underlying23;cases this
   ·have:=hu.symm.trans Tryz.underlying24;cases this
theorem asn{d:Dt}(h:HasTy Tryz.prog 26 d):WR d:=by obtain⟨_,_,_,h⟩:=h;exact(aya h).v rfl
theorem iP{d:Dt}(hw:WR d):rgI (I d 1)∧(∀e∈L d 3,WR e)∧(∀f∈L d 4,WR (fld f 1)):=by
 cases hw with
 | @mk k i t l ds hi hl hd=>
   refine⟨hi,hl,fun f hf=>?_⟩;cases hd f hf with
   |mk h=>exact h
theorem jC{d:Dt}(hw:WV d):d.bulk=bulkL (L d 3)+bulkL (L d 4)+((S d 2).size+6):=by
 cases hw with
 |mk hl hd=>rw[dS];rfl
theorem jD{d:Dt}(hw:WV d):∀f∈L d 4,f.bulk=(fld f 1).bulk+(S f 0).size+2:=by
 cases hw with
 |mk hl hd=>
  intro f hf;cases hd f hf with
  |mk h=>rw[gV];rfl
theorem gq(d:Dt):1<=d.bulk:=by cases d<;>simp[Dt.bulk]
theorem wm{e:Dt}:∀{l:List Dt},e∈l->e.bulk<=bulkL l
 |a::r,h=>by
  simp only[bulkL];rcases List.mem_cons.1 h with rfl|h;·omega
  ·have:=wm h;omega
theorem G8:∀l:List Dt,l.length<=bulkL l
 | []=>by simp[bulkL]
 |a::r=>by have:=G8 r;have:=gq a;simp only[bulkL,List.length_cons];omega
theorem iQ(d:Dt)(i:Nat):(fld d i).bulk<=d.bulk:=by
 cases d with
 |agg ds=>
  simp only[fld,Dt.bulk,List.getD];cases h:ds[i]? with
  |none=>simp[Dt.bulk]
  |some e=>have:=wm (aM h);simp;omega
 |_=>simp only[fld,Dt.bulk];omega
theorem amh(d:Dt)(i:Nat):bulkL (L d i)<d.bulk:=by
 have h:=iQ d i;unfold L;cases e:fld d i with
 |lst es=>rw[e]at h;simp only[Dt.bulk]at h;simp only[toLst];omega
 |_=>have:=gq d;simp only[toLst,bulkL];omega
theorem lg{d e:Dt}{i:Nat}(h:e∈L d i):e.bulk<d.bulk:=by have:=amh d i;have:=wm h;omega
theorem kE(d:Dt)(i:Nat):(L d i).length<d.bulk:=by have:=amh d i;have:=G8 (L d i);omega
theorem ami(d:Dt)(i:Nat):(S d i).size<d.bulk:=by
 have h:=iQ d i;unfold S;cases e:fld d i with
 |str s=>rw[e]at h;simp only[Dt.bulk]at h;simp only[toStr];omega
 |_=>have:=gq d;simp only[toStr];exact Nat.lt_of_lt_of_le (by decide) this
end Go.Proofs.YtmecfjhdnbgfeaaGreatDoor
namespace Go.Proofs.YtmecfjhdnbgfeaaGreatDoor
open IntKind (wrap)
open Go.Am Dt
def zz(n:Int):Nat:=if 0<=n then(2*n).toNat else(-2*n-1).toNat
def gr:Nat->Nat->Nat
 |0,_=>0
 |k+1,u=>if u<128 then 0 else gr k (u/128)+1
theorem aso:∀k u,gr k u<=k
 |0,_=>aL _
 |k+1,u=>by
  rw[gr];split;·omega
  ·have:=aso k (u/128);omega
theorem fA(x:Int):wrap IntKind.u64 x=x%18446744073709551616:=by unfold wrap;simp[IntKind.bits,IntKind.signed]
theorem OV{n:Int}(h1: -9223372036854775808<=n)(h2:n<=9223372036854775807):zz n<18446744073709551616:=by unfold zz;split<;>omega
theorem amj(m:Nat)(n:Int)(h1: -9223372036854775808<=n)(h2:n<=9223372036854775807):yF (m+1) n=some ((zz n:Nat):Int):=by
 rw[yF];congr 1;have hs:shrI IntKind.i64 n (63:Int)=n.fdiv 9223372036854775808:=rfl;have hl:shlI IntKind.u64 (wrap IntKind.u64 n) (1:Int)=wrap IntKind.u64 (wrap IntKind.u64 n*2):=rfl;rw[hs,hl];unfold xorI zz;simp only[IntKind.bits];by_cases h:0<=n
 ·have e1:n.fdiv 9223372036854775808=0:=by rw[Int.fdiv_eq_ediv_of_nonneg _ (by omega)];omega
  have e2:wrap IntKind.u64 n=n:=by rw[fA];omega
  have e3:wrap IntKind.u64 (n*2)=2*n:=by rw[fA];omega
  have e4:wrap IntKind.u64 (0:Int)=0:=by rw[fA];rfl
  rw[e1,e2,e3,e4,if_pos h];have e5:((BitVec.ofInt 64 (2*n)^^^BitVec.ofInt 64 0).toNat:Int)=2*n:=by
   have:(BitVec.ofInt 64 (2*n)^^^BitVec.ofInt 64 0)=BitVec.ofInt 64 (2*n):=by simp
   rw[this,BitVec.toNat_ofInt];omega
  refine(congrArg (wrap IntKind.u64) e5).trans ?_;rw[fA];omega
 ·have e1:n.fdiv 9223372036854775808= -1:=by rw[Int.fdiv_eq_ediv_of_nonneg _ (by omega)];omega
  have e2:wrap IntKind.u64 n=n+18446744073709551616:=by rw[fA];omega
  have e3:wrap IntKind.u64 ((n+18446744073709551616)*2)=2*n+18446744073709551616:=by rw[fA];omega
  have e4:wrap IntKind.u64 (-1:Int)=18446744073709551615:=by rw[fA];rfl
  rw[e1,e2,e3,e4,if_neg h];have e5:((BitVec.ofInt 64 (2*n+18446744073709551616)^^^BitVec.ofInt 64 18446744073709551615).toNat:Int)= -2*n-1:=by
   have e6:BitVec.ofInt 64 18446744073709551615=BitVec.allOnes 64:=by decide
   have:(BitVec.ofInt 64 (2*n+18446744073709551616)^^^BitVec.ofInt 64 18446744073709551615)= ~~~ BitVec.ofInt 64 (2*n+18446744073709551616):=by rw[e6,BitVec.xor_allOnes]
   rw[this,BitVec.toNat_not,BitVec.toNat_ofInt];omega
  refine(congrArg (wrap IntKind.u64) e5).trans ?_;rw[fA];omega
theorem ayb(u:Nat):shrI IntKind.u64 (u:Int) (7:Int)=((u/128:Nat):Int):=by have hs:shrI IntKind.u64 (u:Int) (7:Int)=(u:Int).fdiv 128:=rfl;rw[hs,Int.fdiv_eq_ediv_of_nonneg _ (by omega)];omega
theorem OW(m:Nat):∀(k M u b:Nat),u<128^(k+1)->k<M->b+k<1000000->zf m M (b:Int) (u:Int)=some ((b+gr k u:Nat):Int)
 |_,0,_,_,_,h,_=>by omega
 |0,M+1,u,b,hu,_,_=>by rw[zf,decide_eq_false (by simp at hu;omega),cond_false];rfl
 |k+    1,M+1,u,b,hu,hM,hb=>by
  rw[zf,gr];by_cases h:u<128
  ·rw[decide_eq_false (by omega),cond_false,if_pos h];rfl
  ·have hd:u/128<128^(k+1):=by rw[Nat.pow_succ]at hu;exact Nat.div_lt_of_lt_mul (by rw[Nat.mul_comm];exact hu)
   rw[decide_eq_true (by omega),cond_true,aa0,aaZ,bF (by omega),ayb,OW m k M (u/128) (b+1) hd (by omega) (by omega),if_neg h];congr 2;omega
def eU(n:Int):Nat:=1+gr 9 (zz n)
theorem fB(n:Int):1<=eU n∧eU n<=10:=by have:=aso 9 (zz n);unfold eU;omega
theorem tV(m:Nat)(hm:12<=m)(n:Int)(h1: -9223372036854775808<=n)(h2:n<=9223372036854775807):qZ (m+1) n=some ((eU n:Nat):Int):=by obtain⟨q,rfl⟩:∃q,m=q+1:=⟨m-1,by omega⟩;rw[qZ,amj q n h1 h2,ah,aa1];have hz:=OV h1 h2;exact OW (q+1) 9 (q+2) (zz n) 1 (by rw[show (128:Nat)^(9+1)=1180591620717411303424 from by decide];omega) (by omega) (by omega)
noncomputable def fD:Nat->Dt->Nat
 |0,_=>0
 |n+1,d=>1+(bif I d 0==3 then eU (I d 1)else bif I d 0==10 then eU (I d 1)else bif I d 0==9 then 1 else bif I d 0==4 then eU (S d 2).size+(S d 2).size else bif I d 0==7 then eU (S d 2).size+(S d 2).size else bif I d 0==8 then(S d 2).size else bif I d 0==6 then eU (L d 3).length+((L d 3).map (fD n)).sum else bif I d 0==5 then eU (L d 4).length+((L d 4).map fun f=>eU (S f 0).size+(S f 0).size+fD n (fld f 1)).sum else 0)
theorem V9{L:List Dt}{g:Dt->Nat}(h:∀e∈L,g e<=5*e.bulk):(L.map g).sum<=5*bulkL L:=by
 induction L with
 |nil=>simp[bulkL]
 |cons x r ih=>
  have h1:=h x aZ;have h2:=ih fun e he=>h e (aY _ he);simp only[List.map_cons,List.sum_cons,bulkL];omega
theorem yt:∀(N:Nat)(d:Dt),WV d->fD N d<=5*d.bulk
 |0,d,_=>by simp[fD]
 |N+1,d,hw=>by
  obtain⟨p1,p2,p3,p4⟩:=bU hw;have hz:=jC hw;have s3:((L d 3).map (fD N)).sum<=5*bulkL (L d 3):=V9 fun e he=>yt N e (p3 e he).1;have s4:((L d 4).map fun f=>eU (S f 0).size+(S f 0).size+fD N (fld f 1)).sum<=5*bulkL (L d 4):=V9 fun f hf=>by have e1:=yt N _ (p4 f hf).1;have e2:=jD hw f hf;have e3:=fB (S f 0).size;omega
  have n1:=fB (I d 1);have n2:=fB (S d 2).size;have n3:=fB (L d 3).length;have n4:=fB (L d 4).length;have q0:∀(b:Bool)(x y:Nat),x+1<=5*d.bulk->y+1<=5*d.bulk->(bif b then x else y)+1<=5*d.bulk:=fun b x y h1 h2=>by cases b<;>assumption
  rw[fD,Nat.add_comm];exact q0 _ _ _ (by omega) (q0 _ _ _ (by omega) (q0 _ _ _ (by omega) (q0 _ _ _ (by omega) (q0 _ _ _ (by omega) (q0 _ _ _ (by omega) (q0 _ _ _ (by omega) (q0 _ _ _ (by omega) (by omega))))))))
theorem Dq{a b:Nat}(h:a+b<9223372036854775807):wrap IntKind.i64 ((a:Int)+(b:Int))=((a+b:Nat):Int):=by rw[wrap64 (by omega) (by omega)];omega
theorem Wd(m:Nat)(self:Dt->Option Int)(l:List Dt)(g:Dt->Nat)(hl:l.length<1000000000000)(hs:∀e∈l,self e=some ((g e:Nat):Int)):∀(M i b:Nat),i<=l.length->l.length-i<M->b+((l.drop i).map g).sum<1000000000000->EG m self M (b:Int) l (l.length:Int) (i:Int)=some ((b+((l.drop i).map g).sum:Nat):Int)
 |0,i,b,_,h,_=>by omega
 |M+1,i,b,hi,h,hb=>by
  simp only[EG,dlt];by_cases hlt:i<l.length
  ·rw[ay hlt,List.map_cons,List.sum_cons]at hb ⊢
   simp only[hlt,decide_true,cond_true,jS,zh,zk,zl,p8,zn,zo,wB,wC,bg hlt,ah,hs _ (aD hlt),bF (show i<9223372036854775807 by omega),Dq (show b+g l[i]<9223372036854775807 by omega)];rw[Wd m self l g hl hs M (i+1) (b+g l[i]) (by omega) (by omega) (by omega),Nat.add_assoc]
  ·have:l.drop i=[]:=List.drop_eq_nil_of_le (by omega);simp[hlt,this,jS,zh,zk,zl,p8,zn,zo,wB,wC]
theorem Wh(m:Nat)(hm:12<=m)(self:Dt->Option Int)(l:List Dt)(g:Dt->Nat)(hl:l.length<1000000000000)(hz:∀f∈l,(S f 0).size<1000000000000)(hs:∀f∈l,self (fld f 1)=some ((g f:Nat):Int)):∀(M i b:Nat),i<=l.length->l.length-i<M->b+((l.drop i).map fun f=>eU (S f 0).size+(S f 0).size+g f).sum<1000000000000->EH (m+1) self M (b:Int) l (l.length:Int) (i:Int)=some ((b+((l.drop i).map fun f=>eU (S f 0).size+(S f 0).size+g f).sum:Nat):Int)
 |0,i,b,_,h,_=>by omega
 |M+1,i,b,hi,h,hb=>by
  simp only[EH,dlt];by_cases hlt:i<l.length
  ·rw[ay hlt,List.map_cons,List.sum_cons]at hb ⊢
   have hn:=tV m hm (S l[i] 0).size (by omega) (by have:=hz _ (aD hlt);omega);simp only[hlt,decide_true,cond_true,jS,zh,zk,zl,p8,zn,zo,wB,wC,bg hlt,ah,hn,hs _ (aD hlt),bF (show i<9223372036854775807 by omega),Dq (show eU (S l[i] 0).size+(S l[i] 0).size<9223372036854775807 by omega),Dq (show eU (S l[i] 0).size+(S l[i] 0).size+g l[i]<9223372036854775807 by omega),Dq (show b+(eU (S l[i] 0).size+(S l[i] 0).size+g l[i])<9223372036854775807 by omega)];rw[Wh m hm self l g hl hz hs M (i+1) (b+(eU (S l[i] 0).size+(S l[i] 0).size+g l[i])) (by omega) (by omega) (by omega),Nat.add_assoc]
  ·have:l.drop i=[]:=List.drop_eq_nil_of_le (by omega);simp[hlt,this,jS,zh,zk,zl,p8,zn,zo,wB,wC]
theorem tX:∀(N:Nat)(d:Dt),WV d->WR d->d.bulk<=N->N<=100000000000->∀m,N+30<=m->qF (m+1) d=some ((fD N d:Nat):Int)
 |0,d,_,_,h,_,_,_=>by have:=bV d;omega
 |N+1,d,hw,hr,h,hN,m,hm=>by
  obtain⟨p1,p2,p3,p4⟩:=bU hw;obtain⟨r1,r3,r4⟩:=iP hr;have hz:=jC hw;have hle:=yt (N+1) d hw;obtain⟨q,rfl⟩:∃q,m=q+1:=⟨m-1,by omega⟩;have k3:=Wd (q+1) (qF (q+1)) (L d 3) (fD N) (by omega) (fun e he=>tX N e (p3 e he).1 (r3 e he) (by have:=(p3 e he).2;omega) (by omega) q (by omega)) (q+2) 0;have k4:=Wh q (by omega) (qF (q+1)) (L d 4) (fun f=>fD N (fld f 1)) (by omega) (fun f hf=>by have:=jD hw f hf;have:=dh hf;omega) (fun f hf=>tX N _ (p4 f hf).1 (r4 f hf) (by have:=(p4 f hf).2;omega) (by omega) q (by omega)) (q+2) 0;have n1:=tV q (by omega) (I d 1) r1.1 r1.2;have n2:=tV q (by omega) (S d 2).size (by omega) (by omega);have n3:=tV q (by omega) (L d 3).length (by omega) (by omega);have n4:=tV q (by omega) (L d 4).length (by omega) (by omega);have one:∀k:Nat,k<1000000000000->wrap IntKind.i64 ((1:Int)+(k:Int))=((1+k:Nat):Int):=fun k hk=>Dq (a:=1) (by omega);have o1:=one (eU (I d 1)) (by have:=fB (I d 1);omega);have l2:=fB (S d 2).size;have l3:=fB (L d 3).length;have l4:=fB (L d 4).length;rw[fD]at hle ⊢
  simp only[qF,jS,zh,zk,zl,p8,zn,zo,wB,wC];cases e3:(I d 0==3)
  case true=>simp only[cond_true,n1,ah,o1]
  cases e10:(I d 0==10)
  case true=>simp only[cond_true,cond_false,n1,ah,o1]
  cases e9:(I d 0==9)
  case true=>simp only[cond_true,cond_false];rfl
  cases e4:(I d 0==4)
  case true=>simp only[cond_true,cond_false,n2,ah,Dq (show eU (S d 2).size+(S d 2).size<9223372036854775807 by omega),one (eU (S d 2).size+(S d 2).size) (by omega)]
  cases e7:(I d 0==7)
  case true=>simp only[cond_true,cond_false,n2,ah,Dq (show eU (S d 2).size+(S d 2).size<9223372036854775807 by omega),one (eU (S d 2).size+(S d 2).size) (by omega)]
  cases e8:(I d 0==8)
  case true=>simp only[cond_true,cond_false,one (S d 2).size (by omega)]
  cases e6:(I d 0==6)
  case true=>
   simp only[e3,e10,e9,e4,e7,e8,e6,cond_true,cond_false]at hle;simp only[cond_true,cond_false,n3,ah,one (eU (L d 3).length) (by omega)];have:=k3 (1+eU (L d 3).length) (aN _) (by omega) (by rw[aK];omega);rw[aK,Nat.add_assoc]at this;exact this
  cases e5:(I d 0==5)
  case true=>
   simp only[e3,e10,e9,e4,e7,e8,e6,e5,cond_true,cond_false]at hle;simp only[cond_true,cond_false,n4,ah,one (eU (L d 4).length) (by omega)];have:=k4 (1+eU (L d 4).length) (aN _) (by omega) (by rw[aK];omega);rw[aK,Nat.add_assoc]at this;exact this
  simp only[cond_false];rfl
end Go.Proofs.YtmecfjhdnbgfeaaGreatDoor
namespace Go.Proofs.YtmecfjhdnbgfeaaGreatDoor
open Go.Am Dt
def fM(d:Dt):List Dt:=bif I d 0==6 then L d 3 else bif I d 0==5 then(L d 4).map (·.fld 1)else[]
theorem OX(m:Nat)(d:Dt)(hl:(L d 4).length<=137438953472):∀(M i:Nat),i<=(L d 4).length->(L d 4).length-i<M->Av m M (i:Int) d (((L d 4).map (·.fld 1)).take i)=some ((L d 4).map (·.fld 1))
 |0,i,_,h=>by omega
 |M+    1,i,hi,h=>by
  simp only[Av,dlt];by_cases hlt:i<(L d 4).length
  ·have happ:app (((L d 4).map (·.fld 1)).take i) [(L d 4)[i].fld 1]=some (((L d 4).map (·.fld 1)).take (i+1)):=by rw[gZ (by simp;omega),List.take_succ_eq_append_getElem (by simpa using hlt)];simp
   simp only[hlt,decide_true,cond_true,abx,abw,bg hlt,ah,happ,bF (show i<9223372036854775807 by omega)];exact OX m d hl M (i+1) (by omega) (by omega)
  ·have e:i=(L d 4).length:=by omega
   simp only[hlt,decide_false,cond_false,J9];rw[List.take_of_length_le (by simp;omega)]
theorem OY(m:Nat)(d:Dt)(hl:(L d 3).length<=137438953472):∀(M i:Nat),i<=(L d 3).length->(L d 3).length-i<M->Ay m M (i:Int) d ((L d 3).take i)=ES m d (L d 3)
 |0,i,_,h=>by omega
 |M+    1,i,hi,h=>by
  simp only[Ay,dlt];by_cases hlt:i<(L d 3).length
  ·have happ:app ((L d 3).take i) [(L d 3)[i]]=some ((L d 3).take (i+1)):=by rw[gZ (by simp;omega),List.take_succ_eq_append_getElem hlt]
   simp only[hlt,decide_true,cond_true,abv,abu,bg hlt,ah,happ,bF (show i<9223372036854775807 by omega)];exact OY m d hl M (i+1) (by omega) (by omega)
  ·simp only[hlt,decide_false,cond_false];rw[List.take_of_length_le (by omega)]
theorem parts_eq(d:Dt)(hw:WV d)(m:Nat)(hm:d.bulk<=m)(hb:d.bulk<=137438953472):qR (m+1) d=some (fM d):=by
 have hl3:(L d 3).length<=d.bulk:=by
  cases hw with
  | @mk k i t l ds hl hd=>rw[dS];have:=dx l;show l.length<=_;omega
 have hl4:(L d 4).length<=d.bulk:=by
  cases hw with
  | @mk k i t l ds hl hd=>rw[dS];have:=dx ds;show ds.length<=_;omega
 have h6:=OX m d (by omega) (m+1) 0 (aN _) (by omega);have h1:=OY m d (by omega) (m+1) 0 (aN _) (by omega);rw[List.take_zero]at h6 h1;have h6':Av m (Nat.succ m) 0 d []=_:=h6;have h1':Ay m (Nat.succ m) 0 d []=_:=h1;unfold fM;simp only[qR,abz,h1'];cases h:(I d 0==6)
 ·simp only[cond_false,ES,aby,h6',J9];cases (I d 0==5)<;>rfl
 ·have e:I d 0=6:=by simpa using h
  simp only[cond_true,ES,e];rfl
theorem nH{d:Dt}(hw:WV d):∀e∈fM d,WV e∧e.bulk<d.bulk:=by
 cases hw with
 | @mk  k i t l ds hl hd=>
   intro e he;rw[dS];unfold fM at he;have e1:I (.agg [.int k,.int i,.str t,.lst l,.lst ds]) 0=k:=rfl;have e2:L (.agg [.int k,.int i,.str t,.lst l,.lst ds]) 3=l:=rfl;have e3:L (.agg [.int k,.int i,.str t,.lst l,.lst ds]) 4=ds:=rfl;rw[e1,e2,e3]at he;cases h6:(k==6)
   ·rw[   h6]at he;simp only[cond_false]at he;cases h5:(k==5);·rw[h5]at he;simp at he
    ·   rw[h5]at he;simp only[cond_true,List.mem_map]at he;obtain⟨f,hf,rfl⟩:=he;have hb:=dh hf;cases hd f hf with
        | @mk s v hv=>
          rw[gV]at hb;exact⟨hv,by show v.bulk<_;omega⟩
   ·rw[h6]at he;simp only[cond_true]at he;have hb:=dh he;exact⟨hl e he,by omega⟩
theorem OZ{d:Dt}(hw:WV d):(fM d).length<=d.bulk:=by
 cases hw with
 | @mk k i t l ds hl hd=>
   rw[dS];have h3:=dx l;have h4:=dx ds;unfold fM;cases (I (.agg [.int k,.int i,.str t,.lst l,.lst ds]) 0==6)<;>cases (I (.agg [.int k,.int i,.str t,.lst l,.lst ds]) 0==5)<;>simp[L,fld,toLst]<;>omega
def Zz:Nat->Dt->Nat
 |0,_=>1
 |n+1,d=>1+((fM d).map (Zz n)).sum
theorem G9:∀(n n':Nat)(d:Dt),WV d->d.bulk<=n->d.bulk<=n'->Zz n d=Zz n' d
 |0,_,d,_,h,_=>by have:=bV d;omega
 |_+1,0,d,_,_,h=>by have:=bV d;omega
 |n+1,n'+1,d,hw,h,h'=>by simp only[Zz];congr 2;refine List.map_congr_left fun e he=>?_;have:=nH hw e he;exact G9 n n' e this.1 (by omega) (by omega)
def nds(d:Dt):Nat:=Zz d.bulk d
theorem Dr{d:Dt}(hw:WV d):nds d=1+((fM d).map nds).sum:=by obtain⟨k,hk⟩:∃k,d.bulk=k+1:=⟨d.bulk-1,by have:=bV d;omega⟩;unfold nds;rw[hk];simp only[Zz];congr 2;refine List.map_congr_left fun e he=>?_;have:=nH hw e he;exact G9 _ _ e this.1 (by omega) (aL _)
theorem anR{d:Dt}(hw:WV d):1<=nds d:=by rw[Dr hw];omega
theorem sum_cons(f:Dt->Nat){L:List Dt}{i:Nat}(h:i<L.length):((L.drop i).map f).sum=f L[i]+((L.drop (i+1)).map f).sum:=by rw[ay h,List.map_cons,List.sum_cons]
theorem O0(m:Nat)(self:Dt->Int->Option Int)(L:List Dt)(hl:L.length<9223372036854775807)(most:Nat)(hb:most<1000000)(hs:∀e∈L,∀k:Nat,1<=k->k<=most->self e (k:Int)=some ((min (nds e) k:Nat):Int)):∀(M i acc:Nat),i<=L.length->L.length-i<M->acc<=most->
  EU m self M (most:Int) (acc:Int) L (i:Int)=some ((min (acc+((L.drop i).map nds).sum) most:Nat):Int)
 |0,i,_,_,h,_=>by omega
 |M+    1,i,acc,hi,h,ha=>by
  simp only[EU,dlt];by_cases hlt:i<L.length
  ·simp only[hlt,decide_true,cond_true];by_cases hm:acc<most
   ·    have hw:IntKind.wrap IntKind.i64 ((most:Int)-(acc:Int))=((most-acc:Nat):Int):=by rw[wrap64 (by omega) (by omega)];omega
        have hr:=hs _ (aD hlt) (most-acc) (by omega) (by omega);have hw2:IntKind.wrap IntKind.i64 ((acc:Int)+((min (nds L[i]) (most-acc):Nat):Int))=((acc+min (nds L[i]) (most-acc):Nat):Int):=by rw[wrap64 (by omega) (by omega)];omega
        simp only[hm,decide_true,cond_true,abA,abB,ET,Sq,bg hlt,ah,hw,hr,hw2,bF (show i<9223372036854775807 by omega),O0 m self L hl most hb hs M (i+1) (acc+min (nds L[i]) (most-acc)) (by omega) (by omega) (by omega),sum_cons nds hlt];congr 2;omega
   ·    have:acc=most:=by omega
        subst this;simp only[hm,decide_false,cond_false];first|(simp only[ET];congr 2;omega)|(congr 2;omega)
  ·rw[List.drop_eq_nil_of_le (by omega)];simp only[hlt,decide_false,cond_false,List.map_nil,List.sum_nil];first|(simp only[ET];congr 2;omega)|(congr 2;omega)
theorem count_eq:∀(N:Nat)(d:Dt),d.bulk<=N->N<=137438953472->WV d->∀m,N<=m->∀most:Nat,1<=most->most<1000000->zE (m+2) d (most:Int)=some ((min (nds d) most:Nat):Int)
 |0,d,h,_,_,_,_,_,_,_=>by have:=bV d;omega
 |N+1,d,h,hN,hw,m,hm,most,h1,h2=>by
  obtain⟨m,rfl⟩:∃q,m=q+1:=⟨m-1,by omega⟩;simp only[zE,parts_eq d hw (m+1) (by omega) (by omega),ah,Sq];have hl:=OZ hw;have:=O0 (m+2) (zE (m+2)) (fM d) (by omega) most h2 (fun e he k hk1 hk2=>by obtain⟨hwe,hbe⟩:=nH hw e he;exact count_eq N e (by omega) (by omega) hwe m (by omega) k hk1 (by omega)) (m+3) 0 1 (aN _) (by omega) h1
  rw[aK,←Dr hw]at this;exact this
theorem ZA{d:Dt}(hw:WV d)(hb:d.bulk<=137438953472)(m:Nat)(hm:d.bulk<=m):yO (m+3) d=some ((min (nds d) 1025:Nat):Int):=by simp only[yO];rw[show ((1025:Int))=((1025:Nat):Int)from rfl,count_eq d.bulk d (aL _) hb hw m hm 1025 (by omega) (by omega)];rfl
theorem Wi(m:Nat)(self:Dt->Int->Int->Option (Bool×Int×Int))(L:List Dt)(hl:L.length<9223372036854775807)(most:Nat)(hs:∀e∈L,∀k:Nat,k<most->self e (k:Int) (most:Int)=some (decide (((min (k+nds e) most:Nat):Int)<(most:Int)),((min (k+nds e) most:Nat):Int),(most:Int))):∀(M i acc:Nat),i<=L.length->L.length-i<M->acc<most->
  pV m self M L (L.length:Int) (i:Int) (acc:Int) (most:Int)=some (((min (acc+((L.drop i).map nds).sum) most:Nat):Int),(most:Int))
 |0,i,_,_,h,_=>by omega
 |M+    1,i,acc,hi,h,ha=>by
  simp only[pV,dlt];by_cases hlt:i<L.length
  ·have hr:=hs _ (aD hlt) acc ha;simp only[hlt,decide_true,cond_true,uo,uq,uw,uy,uz,uD,bg hlt,ah,hr,dlt,bF (show i<9223372036854775807 by omega),sum_cons nds hlt];by_cases hm:min (acc+nds L[i]) most<most
   ·    simp only[hm,decide_true,Bool.not_true,cond_false,Wi m self L hl most hs M (i+1) (min (acc+nds L[i]) most) (by omega) (by omega) hm];congr 3;omega
   ·    simp only[hm,decide_false,Bool.not_false,cond_true];congr 3;omega
  ·rw[List.drop_eq_nil_of_le (by omega)];simp only[hlt,decide_false,cond_false,List.map_nil,List.sum_nil];congr 3;omega
theorem Wj(m:Nat)(self:Dt->Int->Int->Option (Bool×Int×Int))(L:List Dt)(hl:L.length<9223372036854775807)(most:Nat)(hs:∀e∈L,∀k:Nat,k<most->self (fld e 1) (k:Int) (most:Int)=some (decide (((min (k+nds (fld e 1)) most:Nat):Int)<(most:Int)),((min (k+nds (fld e 1)) most:Nat):Int),(most:Int))):∀(M i acc:Nat),i<=L.length->L.length-i<M->acc<most->
  pW m self M L (L.length:Int) (i:Int) (acc:Int) (most:Int)=some (((min (acc+((L.drop i).map fun f=>nds (fld f 1)).sum) most:Nat):Int),(most:Int))
 |0,i,_,_,h,_=>by omega
 |M+    1,i,acc,hi,h,ha=>by
  simp only[pW,dlt];by_cases hlt:i<L.length
  ·have hr:=hs _ (aD hlt) acc ha;simp only[hlt,decide_true,cond_true,uo,uq,uw,uy,uz,uD,bg hlt,ah,hr,dlt,bF (show i<9223372036854775807 by omega),sum_cons (fun f=>nds (fld f 1)) hlt];by_cases hm:min (acc+nds (fld L[i] 1)) most<most
   ·    simp only[hm,decide_true,Bool.not_true,cond_false,Wj m self L hl most hs M (i+1) (min (acc+nds (fld L[i] 1)) most) (by omega) (by omega) hm];congr 3;omega
   ·    simp only[hm,decide_false,Bool.not_false,cond_true];congr 3;omega
  ·rw[List.drop_eq_nil_of_le (by omega)];simp only[hlt,decide_false,cond_false,List.map_nil,List.sum_nil];congr 3;omega
theorem He:∀(N:Nat)(d:Dt),d.bulk<=N->N<=137438953472->WV d->∀m,3*N<=m->∀most:Nat,1<=most->most<1000000->z7 (m+1) d (most:Int)=some ((min (nds d) most:Nat):Int)
 |0,d,h,_,_,_,_,_,_,_=>by have:=bV d;omega
 |N+    1,d,h,hN,hw,m,hm,most,h1,h2=>by
  obtain⟨m,rfl⟩:∃q,m=q+3:=⟨m-3,by omega⟩;simp only[z7];have hpos:=anR hw;by_cases e1:most=1
  ·subst e1;have:(((1:Int))==((1:Nat):Int))=true:=rfl;simp only[this,cond_true];congr 1;omega
  ·have e2:(((1:Int))==(most:Int))=false:=by rw[beq_eq_false_iff_ne];omega
   have hc:∀e:Dt,WV e->e.bulk<=N->∀k:Nat,k<most->i90 (m+2) e (k:Int) (most:Int)=some (decide (((min (k+nds e) most:Nat):Int)<(most:Int)),((min (k+nds e) most:Nat):Int),(most:Int)):=fun e hwe hbe k hk=>by
        have hw1:IntKind.wrap IntKind.i64 ((most:Int)-(k:Int))=((most-k:Nat):Int):=by rw[wrap64 (by omega) (by omega)];omega
        have hr:=He N e hbe (by omega) hwe m (by omega) (most-k) (by omega) (by omega);have hw2:IntKind.wrap IntKind.i64 ((k:Int)+((min (nds e) (most-k):Nat):Int))=((min (k+nds e) most:Nat):Int):=by rw[wrap64 (by omega) (by omega)];omega
        simp only[i90,hw1,hr,ah,hw2]
   obtain⟨p1,p2,p3,p4⟩:=bU hw;have k1:=Wi (m+2) (i90 (m+2)) (L d 3) (by omega) most (fun e he=>hc e (p3 e he).1 (by have:=(p3 e he).2;omega)) (m+3) 0 1 (aN _) (by omega) (by omega);have k2:=Wj (m+2) (i90 (m+2)) (L d 4) (by omega) most (fun e he=>hc _ (p4 e he).1 (by have:=(p4 e he).2;omega)) (m+3) 0 1 (aN _) (by omega) (by omega);rw[aK]at k1 k2;have hn:=Dr hw;unfold fM at hn;simp only[e2,cond_false,aaX,i89];cases h6:(I d 0==6)
   ·    rw[h6]at hn;cases h5:(I d 0==5)
        ·rw[h5]at hn;simp only[cond_false,List.map_nil,List.sum_nil]at hn;simp only[cond_false,ah,hn];congr 1;omega
        ·rw[h5]at hn;simp only[cond_false,cond_true,List.map_map]at hn;have hn':nds d=1+((L d 4).map fun f=>nds (fld f 1)).sum:=hn;have k2':pW (m+2) (i90 (m+2)) (Nat.succ (m+2)) (L d 4) ((L d 4).length:Int) 0 1 (most:Int)=_:=k2;simp only[cond_false,cond_true,uo,uq,uw,uy,uz,uD,k2',ah,hn']
   ·    rw[h6]at hn;simp only[cond_true]at hn;have k1':pV (m+2) (i90 (m+2)) (Nat.succ (m+2)) (L d 3) ((L d 3).length:Int) 0 1 (most:Int)=_:=k1;simp only[cond_true,uo,uq,uw,uy,uz,uD,k1',ah,hn]
theorem ZB{d:Dt}(hw:WV d)(hb:d.bulk<=137438953472)(m:Nat)(hm:3*d.bulk<=m):yK (m+2) d=some ((min (nds d) 1025:Nat):Int):=by simp only[yK];rw[show ((1025:Int))=((1025:Nat):Int)from rfl,He d.bulk d (aL _) hb hw m hm 1025 (by omega) (by omega)];rfl
end Go.Proofs.YtmecfjhdnbgfeaaGreatDoor
namespace Go.Proofs.YtmecfjhdnbgfeaaGreatDoor
open Go.Am
def Hf(b:UInt8):Bool:=decide (128<=b.toNat)&&decide (b.toNat<=191)
def tlU(n:Nat)(r:List UInt8):Bool:=decide (n<=r.length)&&(r.take n).all Hf
def hdN(r:List UInt8):Nat:=(r.getD 0 0).toNat
def okU(b:Nat)(r:List UInt8):Option Nat:=
 if b<128 then some 0
 else if 194<=b∧b<=223 then(if tlU 1 r=true then some 1 else none)
 else if 224<=b∧b<=239 then(if tlU 2 r=true∧¬(b=224∧hdN r<160)∧¬(b=237∧159<hdN r)then some 2 else none)
 else if 240<=b∧b<=244 then(if tlU 3 r=true∧¬(b=240∧hdN r<144)∧¬(b=244∧143<hdN r)then some 3 else none)
 else none
theorem tl1(r:List UInt8):tlU 1 r=true↔1<=r.length∧128<=(r.getD 0 0).toNat∧(r.getD 0 0).toNat<=191:=by
 unfold tlU Hf;match r with
 | []=>simp
 |a::r=>simp
theorem tl2(r:List UInt8):tlU 2 r=true↔2<=r.length∧(128<=(r.getD 0 0).toNat∧(r.getD 0 0).toNat<=191)∧128<=(r.getD 1 0).toNat∧(r.getD 1 0).toNat<=191:=by
 unfold tlU Hf;match r with
 | []=>simp
 | [a]=>simp
 |a::b::r=>simp
theorem tl3(r:List UInt8):tlU 3 r=true↔3<=r.length∧(128<=(r.getD 0 0).toNat∧(r.getD 0 0).toNat<=191)∧(128<=(r.getD 1 0).toNat∧(r.getD 1 0).toNat<=191)∧128<=(r.getD 2 0).toNat∧(r.getD 2 0).toNat<=191:=by
 unfold tlU Hf;match r with
 | []=>simp
 | [a]=>simp
 | [a,b]=>simp
 |a::b::c::r=>simp
theorem anS(n b0 b1 b2 b3:Nat)(k0:b0<256)(k1:b1<256)(k2:b2<256)(k3:b3<256)(k:Nat)(h:(b0<128∧k=0)∨(194<=b0∧b0<=223∧1<n∧128<=b1∧b1<=191∧k=1)∨(224<=b0∧b0<=239∧2<n∧(128<=b1∧b1<=191)∧(128<=b2∧b2<=191)∧¬(b0=224∧b1<160)∧¬(b0=237∧159<b1)∧k=2)∨(240<=b0∧b0<=244∧3<n∧(128<=b1∧b1<=191)∧(128<=b2∧b2<=191)∧(128<=b3∧b3<=191)∧¬(b0=240∧b1<144)∧¬(b0=244∧143<b1)∧k=3)):
  ¬((Lib.decodeN n b0 b1 b2 b3).1=65533∧(Lib.decodeN n b0 b1 b2 b3).2=1)∧(Lib.decodeN n b0 b1 b2 b3).2=k+1:=by
 rcases h with⟨h1,rfl⟩| ⟨h1,h2,h3,h4,h5,rfl⟩| ⟨h1,h2,h3,h4,h5,h6,h7,rfl⟩| ⟨h1,h2,h3,h4,h5,h6,h7,h8,rfl⟩
 ·unfold Lib.decodeN;rw[if_pos h1];exact⟨fun h=>by have:=h.1;dsimp only at this;omega,rfl⟩
 ·unfold Lib.decodeN;rw[if_neg (by omega),if_pos (by omega),if_pos (by omega)];exact⟨fun h=>by have:=h.2;dsimp only at this;omega,rfl⟩
 ·unfold Lib.decodeN;rw[if_neg (by omega),if_neg (by omega),if_pos (by omega),if_pos (by omega)];exact⟨fun h=>by have:=h.2;dsimp only at this;omega,rfl⟩
 ·unfold Lib.decodeN;rw[if_neg (by omega),if_neg (by omega),if_neg (by omega),if_pos (by omega),if_pos (by omega)];exact⟨fun h=>by have:=h.2;dsimp only at this;omega,rfl⟩
theorem anT(n b0 b1 b2 b3:Nat)(k0:b0<256)(k1:b1<256)(k2:b2<256)(k3:b3<256)(h1:¬b0<128)(h2:¬(194<=b0∧b0<=223∧1<n∧128<=b1∧b1<=191))(h3:¬(224<=b0∧b0<=239∧2<n∧(128<=b1∧b1<=191)∧(128<=b2∧b2<=191)∧¬(b0=224∧b1<160)∧¬(b0=237∧159<b1)))(h4:¬(240<=b0∧b0<=244∧3<n∧(128<=b1∧b1<=191)∧(128<=b2∧b2<=191)∧(128<=b3∧b3<=191)∧¬(b0=240∧b1<144)∧¬(b0=244∧143<b1))):
  Lib.decodeN n b0 b1 b2 b3=(65533,1):=by
 unfold Lib.decodeN;rw[if_neg h1];split;·rw[if_neg (by omega)]
 ·split;·rw[if_neg (by omega)]
  ·split;·rw[if_neg (by omega)]
   ·rfl
theorem amk(b:UInt8)(r:List UInt8):(∀n,okU b.toNat r=some n->¬((Lib.decodeL (b::r)).1=65533∧(Lib.decodeL (b::r)).2=1)∧(Lib.decodeL (b::r)).2=n+1)∧(okU b.toNat r=none->(Lib.decodeL (b::r)).1=65533∧(Lib.decodeL (b::r)).2=1):=by
 rw[Lib.decodeL_N];have k0:=b.toNat_lt;have k1:=(r.getD 0 0).toNat_lt;have k2:=(r.getD 1 0).toNat_lt;have k3:=(r.getD 2 0).toNat_lt;have e0:((b::r).getD 0 0)=b:=rfl;have e1:((b::r).getD 1 0)=r.getD 0 0:=rfl;have e2:((b::r).getD 2 0)=r.getD 1 0:=rfl;have e3:((b::r).getD 3 0)=r.getD 2 0:=rfl;rw[e0,e1,e2,e3,List.length_cons];have t1:=tl1 r;have t2:=tl2 r;have t3:=tl3 r;unfold okU hdN;generalize tlU 1 r=u1 at*
 generalize tlU 2 r=u2 at*
 generalize tlU 3 r=u3 at*
 generalize (r.getD 0 0).toNat=c1 at*
 generalize (r.getD 1 0).toNat=c2 at*
 generalize (r.getD 2 0).toNat=c3 at*
 generalize b.toNat=c0 at*
 refine⟨fun n hn=>?_,fun hn=>?_⟩
 ·refine anS _ _ _ _ _ k0 k1 k2 k3 n ?_;split at hn;·simp only[aA]at hn;omega
  ·split  at hn
   ·    split at hn;·rename_i h;have:=t1.1 h;simp only[aA]at hn;omega
        ·cases hn
   ·    split at hn
        ·split at hn;·rename_i h;have:=t2.1 h.1;simp only[aA]at hn;omega
         ·cases hn
        ·split at hn
         ·split at hn;·rename_i h;have:=t3.1 h.1;simp only[aA]at hn;omega
          ·cases hn
         ·cases hn
 ·have key:Lib.decodeN (r.length+1) c0 c1 c2 c3=(65533,1):=by
   refine anT _ _ _ _ _ k0 k1 k2 k3 ?_ ?_ ?_ ?_<;>intro h;·rw[if_pos h]at hn;cases hn
   ·rw[if_neg (by omega),if_pos (by omega),if_pos (t1.2 (by omega))]at hn;cases hn
   ·rw[if_neg (by omega),if_neg (by omega),if_pos (by omega),if_pos ⟨t2.2 (by omega),by omega,by omega⟩]at hn;cases hn
   ·rw[if_neg (by omega),if_neg (by omega),if_neg (by omega),if_pos (by omega),if_pos ⟨t3.2 (by omega),by omega,by omega⟩]at hn;cases hn
  rw[key];exact⟨rfl,rfl⟩
theorem Jw(k:Nat)(b:UInt8)(r:List UInt8):Lib.validGoD (k+1) (b::r)=match okU b.toNat r with
  |some n=>Lib.validGoD k (r.drop n)
  |none=>false:=by
 obtain⟨h1,h2⟩:=amk b r;have hd:Lib.validGoD (k+1) (b::r)=if(b::r:List UInt8)=[]then true else if(Lib.decodeL (b::r)).1=65533∧(Lib.decodeL (b::r)).2=1 then false else Lib.validGoD k ((b::r).drop (Lib.decodeL (b::r)).2):=rfl;rw[hd,if_neg (by simp)];cases e:okU b.toNat r with
 |none=>
  rw[if_pos (h2 e)]
 |some n=>
  obtain⟨h3,h4⟩:=h1 n e;rw[if_neg h3,h4,List.drop_succ_cons]
theorem O1:∀k,Lib.validGoD k []=true
 |0=>rfl
 |k+1=>by unfold Lib.validGoD;rw[if_pos rfl]
def okB(c:UInt8):Bool:=!(decide ((c.toNat:Int)<33)||decide ((126:Int)<c.toNat)||((c.toNat:Int)==46))
def nmL(l:List UInt8):Bool:=match l with
 | []=>false
 |c::r=>decide (r.length<32)&&!((c.toNat:Int)==36)&&(c::r).all okB
def nm(s:ByteArray):Bool:=nmL s.data.toList
theorem Du(s:ByteArray)(i:Nat)(h:i<s.size):s.data.toList.drop i=s[i]::s.data.toList.drop (i+1):=by rw[ay (show i<s.data.toList.length by simpa using h)];rfl
theorem wo(s:ByteArray):s.data.toList.length=s.size:=by rw[Array.length_toList];rfl
theorem Hg(m:Nat)(s:ByteArray)(hs:s.size<9223372036854775807):∀(M i:Nat),i<=s.size->s.size-i<M->yY m M s (i:Int)=some ((s.data.toList.drop i).all okB)
 |0,i,_,h=>by omega
 |M+1,i,hi,h=>by
  simp only[yY,dlt];by_cases hlt:i<s.size
  ·rw[Du s i hlt];simp only[hlt,decide_true,cond_true,yU,rF,yV,yX,yZ,y5,rG,dW hlt,ah,bF (show i<9223372036854775807 by omega),Hg m s hs M (i+1) (by omega) (by omega),List.all_cons,okB];cases decide (((s[i]).toNat:Int)<33)<;>cases decide ((126:Int)<((s[i]).toNat:Int))<;>cases (((s[i]).toNat:Int)==46)<;>rfl
  ·have:i=s.size:=by omega
   subst this;rw[List.drop_eq_nil_of_le (by rw[wo];omega)];simp[yU,rF,yV,yX,yZ,y5,rG]
theorem O3(s:ByteArray)(h1:1<=s.size)(h2:s.size<=32):nm s=(!(((s[0]).toNat:Int)==36)&&s.data.toList.all okB):=by
 have e:=Du s 0 (by omega);have hl:(s.data.toList.drop 1).length<32:=by rw[List.length_drop,wo];omega
 rw[aK]at e;unfold nm;rw[e];simp only[Nat.zero_add]at hl ⊢
 unfold nmL;simp only[hl,decide_true,Bool.true_and]
theorem O4(s:ByteArray)(h:s.size<1):nm s=false:=by unfold nm;have:s.data.toList=[]:=List.eq_nil_of_length_eq_zero (by rw[wo];omega);rw[this];rfl
theorem Wl(s:ByteArray)(h:32<s.size):nm s=false:=by
 have e:=Du s 0 (by omega);have hl:¬(s.data.toList.drop 1).length<32:=by rw[List.length_drop,wo];omega
 rw[aK]at e;unfold nm;rw[e];simp only[Nat.zero_add];unfold nmL;simp only[hl,decide_false,Bool.false_and]
theorem Wm(m:Nat)(hm:33<=m)(s:ByteArray):qT (m+1) s=some (nm s):=by
 simp only[qT];by_cases h1:s.size<1
 ·have:decide ((s.size:Int)<1)=true:=by simp;omega
  simp only[this,cond_true,yU,rF,yV,yX,yZ,y5,rG,O4 s h1]
 have e1:decide ((s.size:Int)<1)=false:=by simp;omega
 by_cases h2:32<s.size
 ·have:decide ((32:Int)<(s.size:Int))=true:=by simp;omega
  simp only[e1,this,cond_true,cond_false,yU,rF,yV,yX,yZ,y5,rG,Wl s h2]
 have e2:decide ((32:Int)<(s.size:Int))=false:=by simp;omega
 have hx:=dW (s:=s) (i:=0) (by omega);have hl:=Hg m s (by omega) (m+1) 0 (by omega) (by omega);rw[aK]at hl;have hl':yY m (Nat.succ m) s 0=some (s.data.toList.all okB):=hl;simp only[e1,e2,cond_false,show idxS s 0=_ from hx,ah,yU,rF,yV,yX,yZ,y5,rG,hl',O3 s (by omega) (by omega)];cases (((s[0]).toNat:Int)==36)<;>rfl
theorem Hl(m:Nat)(s:ByteArray)(i n:Nat)(hin:i+n<=s.size)(hs:s.size<4611686018427387904):∀(M k:Nat),k<=n->n-k<M->EX m M s (i:Int) (n:Int) (k:Int)=some (((s.data.toList.drop (i+k)).take (n-k)).all Hf)
 |0,k,_,h=>by omega
 |M+    1,k,hk,h=>by
  simp only[EX,dlt];by_cases hlt:k<n
  ·have w1:IntKind.wrap IntKind.i64 ((i:Int)+(k:Int))=((i+k:Nat):Int):=by rw[wrap64 (by omega) (by omega)];omega
   rw[Du s (i+k) (by omega),show n-k=(n-(k+1))+1 by omega,List.take_succ_cons,List.all_cons];simp only[hlt,decide_true,cond_true,Ka,EW,Kc,Ke,Kg,Kh,w1,dW (show i+k<s.size by omega),ah,bF (show k<9223372036854775807 by omega),Hl m s i n hin hs M (k+1) (by omega) (by omega),Hf];rw[show i+k+1=i+(k+1) by omega];generalize (s[i+k]).toNat=b;by_cases h1:b<128
   ·    have e1:decide ((b:Int)<128)=true:=by simp;omega
        have e2:decide (128<=b)=false:=by simp;omega
        simp only[e1,e2,cond_true,Bool.false_and]
   ·    have e1:decide ((b:Int)<128)=false:=by simp;omega
        have e2:decide (128<=b)=true:=by simp;omega
        by_cases h2:191<b
        ·have e3:decide ((191:Int)<(b:Int))=true:=by simp;omega
         have e4:decide (b<=191)=false:=by simp;omega
         simp only[e1,e2,e3,e4,cond_true,cond_false,Bool.true_and,Bool.false_and]
        ·have e3:decide ((191:Int)<(b:Int))=false:=by simp;omega
         have e4:decide (b<=191)=true:=by simp;omega
         simp only[e1,e2,e3,e4,cond_true,cond_false,Bool.true_and]
  ·have:k=n:=by omega
   subst this;simp[Ka,EW,Kc,Ke,Kg,Kh]
theorem anU(m:Nat)(hm:4<=m)(s:ByteArray)(hs:s.size<4611686018427387904)(i n:Nat)(hn:n<=3)(hi:i<=s.size):zC (m+1) s (i:Int) (n:Int)=some (tlU n (s.data.toList.drop i)):=by
 have w1:IntKind.wrap IntKind.i64 ((i:Int)+(n:Int))=((i+n:Nat):Int):=by rw[wrap64 (by omega) (by omega)];omega
 have hl:(s.data.toList.drop i).length=s.size-i:=by rw[List.length_drop,wo]
 simp only[zC,w1,dlt,tlU,hl];by_cases h:s.size<i+n
 ·have e:decide (n<=s.size-i)=false:=by simp;omega
  simp only[h,e,decide_true,cond_true,Bool.false_and]
 ·have e:decide (n<=s.size-i)=true:=by simp;omega
  have:=Hl m s i n (by omega) hs (m+1) 0 (by omega) (by omega);rw[Nat.add_zero,Nat.sub_zero]at this;simp only[h,e,decide_false,cond_false,Bool.true_and,Ka,EW,Kc,Ke,Kg,Kh];exact this
theorem auE(s:ByteArray)(i:Nat)(h:i<s.size):idxS s (i:Int)=some ((hdN (s.data.toList.drop i):Nat):Int):=by rw[dW h,Du s i h];rfl
theorem bN(b k:Nat):(((b:Nat):Int)==((k:Nat):Int))=decide (b=k):=by rw[Bool.eq_iff_iff];simp;omega
def Jy(b h:Nat):Bool:=(decide (b=224)&&decide (h<160))||(decide (b=237)&&decide (159<h))||(decide (b=240)&&decide (h<144))||(decide (b=244)&&decide (143<h))
theorem auF(m:Nat)(rec1:ByteArray->Int->Option Bool)(s:ByteArray)(hs:s.size<4611686018427387904)(i b n:Nat)(hn:n<=3)(hi:i<s.size)(hb:b<128∨i+1<s.size):Sr m rec1 s (i:Int) (b:Int) (n:Int)=bif Jy b (hdN (s.data.toList.drop (i+1)))then some false else rec1 s ((i+n+1:Nat):Int):=by
 have q1:(((b:Nat):Int)==224)=decide (b=224):=bN b 224;have q2:(((b:Nat):Int)==237)=decide (b=237):=bN b 237;have q3:(((b:Nat):Int)==240)=decide (b=240):=bN b 240;have q4:(((b:Nat):Int)==244)=decide (b=244):=bN b 244;have w0:IntKind.wrap IntKind.i64 ((IntKind.wrap IntKind.i64 ((i:Int)+(n:Int)))+1)=((i+n+1:Nat):Int):=by
  have wa:IntKind.wrap IntKind.i64 ((i:Int)+(n:Int))=((i+n:Nat):Int):=by rw[wrap64 (by omega) (by omega)];omega
  rw[wa,bF (by omega)]
 have w1:IntKind.wrap IntKind.i64 ((i:Int)+1)=((i+1:Nat):Int):=bF (by omega);simp only[Sr,eF,abC,q1,q2,q3,q4,w0,w1,Jy];by_cases hlt:i+1<s.size
 ·rw[auE s (i+1) hlt];generalize hdN (s.data.toList.drop (i+1))=h;have d1:decide (((h:Nat):Int)<160)=decide (h<160):=dlt (j:=160);have d2:decide ((159:Int)<((h:Nat):Int))=decide (159<h):=dlt (i:=159);have d3:decide (((h:Nat):Int)<144)=decide (h<144):=dlt (j:=144);have d4:decide ((143:Int)<((h:Nat):Int))=decide (143<h):=dlt (i:=143);simp only[ah,d1,d2,d3,d4];cases decide (b=224)<;>cases decide (b=237)<;>cases decide (b=240)<;>cases decide (b=244)<;>cases decide (h<160)<;>cases decide (159<h)<;>cases decide (h<144)<;>cases decide (143<h)<;>rfl
 ·have hb':b<128:=by omega
  have c1:decide (b=224)=false:=by simp;omega
  have c2:decide (b=237)=false:=by simp;omega
  have c3:decide (b=240)=false:=by simp;omega
  have c4:decide (b=244)=false:=by simp;omega
  simp only[c1,c2,c3,c4,cond_false,Bool.false_and,Bool.or_false]
theorem auG(m:Nat)(hm:4<=m)(rec1:ByteArray->Int->Option Bool)(s:ByteArray)(hs:s.size<4611686018427387904)(i b n:Nat)(hn:n<=3)(hi:i<s.size)(hb:b<128∨1<=n):AP (m+1) rec1 s (i:Int) (b:Int) (n:Int)=bif tlU n (s.data.toList.drop (i+1))then(bif Jy b (hdN (s.data.toList.drop (i+1)))then some false else rec1 s ((i+n+1:Nat):Int))else some false:=by
 have w1:IntKind.wrap IntKind.i64 ((i:Int)+1)=((i+1:Nat):Int):=bF (by omega);simp only[AP,w1,anU m hm s hs (i+1) n hn (by omega),ah];cases ht:tlU n (s.data.toList.drop (i+1));·simp only[Bool.not_false,cond_true,cond_false]
 ·have h1:i+1+n<=s.size:=by unfold tlU at ht;have:=of_decide_eq_true (Bool.and_eq_true_iff.1 ht).1;rw[List.length_drop,wo]at this;omega
  simp only[Bool.not_true,cond_true,cond_false,auF (m+1) rec1 s hs i b n hn hi (by omega)]
theorem aml(m:Nat)(hm:4<=m)(rec1:ByteArray->Int->Option Bool)(s:ByteArray)(hs:s.size<4611686018427387904)(i:Nat)(hi:i<s.size):Sz (m+1) rec1 s (i:Int)=match okU (s[i]).toNat (s.data.toList.drop (i+1))with
  |some n=>rec1 s ((i+n+1:Nat):Int)
  |none=>some false:=by
 have hlt:=(s[i]).toNat_lt;simp only[Sz,dW hi,ah];generalize (s[i]).toNat=b at hlt;have t0:tlU 0 (s.data.toList.drop (i+1))=true:=by simp[tlU]
 have r:=auG m hm rec1 s hs i b;have r0:=fun h=>r 0 (by omega) hi h;have r1:=fun h=>r 1 (by omega) hi h;have r2:=fun h=>r 2 (by omega) hi h;have r3:=fun h=>r 3 (by omega) hi h;rw[t0]at r0;have d128:decide (((b:Nat):Int)<128)=decide (b<128):=dlt (j:=128);have d194:decide ((194:Int)<=((b:Nat):Int))=decide (194<=b):=dle (i:=194);have d223:decide (((b:Nat):Int)<=223)=decide (b<=223):=dle (j:=223);have d224:decide ((224:Int)<=((b:Nat):Int))=decide (224<=b):=dle (i:=224);have d239:decide (((b:Nat):Int)<=239)=decide (b<=239):=dle (j:=239);have d240:decide ((240:Int)<=((b:Nat):Int))=decide (240<=b):=dle (i:=240);have d244:decide (((b:Nat):Int)<=244)=decide (b<=244):=dle (j:=244);simp only[d128,d194,d223,d224,d239,d240,d244];unfold okU;by_cases h1:b<128
 ·have hr:=r0 (.inl h1);have hbad:Jy b (hdN (s.data.toList.drop (i+1)))=false:=by simp only[Jy,show decide (b=224)=false by simp;omega,show decide (b=237)=false by simp;omega,show decide (b=240)=false by simp;omega,show decide (b=244)=false by simp;omega,Bool.false_and,Bool.or_false]
  rw[if_pos h1];simp only[h1,decide_true,cond_true];rw[show (0:Int)=((0:Nat):Int)from rfl,hr,hbad];rfl
 rw[if_neg h1];simp only[h1,decide_false,cond_false,Sy,Sw,Sv,d224,d239,d240,d244];by_cases h2:194<=b∧b<=223
 ·have hr:=r1 (.inr (by omega));have hbad:Jy b (hdN (s.data.toList.drop (i+1)))=false:=by simp only[Jy,show decide (b=224)=false by simp;omega,show decide (b=237)=false by simp;omega,show decide (b=240)=false by simp;omega,show decide (b=244)=false by simp;omega,Bool.false_and,Bool.or_false]
  rw[if_pos h2];simp only[h2.1,h2.2,decide_true,cond_true];rw[show (1:Int)=((1:Nat):Int)from rfl,hr,hbad];cases tlU 1 (s.data.toList.drop (i+1))<;>rfl
 rw[if_neg h2];have e2:(bif decide (194<=b)then decide (b<=223)else false)=false:=by
  by_cases h:194<=b;·simp only[h,decide_true,cond_true];simp;omega
  ·simp[h]
 have k2:∀{X:Type}(f:Bool->X),(bif decide (194<=b)then f (decide (b<=223))else f false)=f false:=fun f=>by
  by_cases h:194<=b
  ·have:decide (b<=223)=false:=by simp;omega
   simp only[h,decide_true,cond_true,this]
  ·simp only[h,decide_false,cond_false]
 have k3:=fun{X:Type}(f:Bool->X)(h:¬(224<=b∧b<=239))=>show (bif decide (224<=b)then f (decide (b<=239))else f false)=f false by
  by_cases h':224<=b
  ·have:decide (b<=239)=false:=by simp;omega
   simp only[h',decide_true,cond_true,this]
  ·simp only[h',decide_false,cond_false]
 have k4:=fun{X:Type}(f:Bool->X)(h:¬(240<=b∧b<=244))=>show (bif decide (240<=b)then f (decide (b<=244))else f false)=f false by
  by_cases h':240<=b
  ·have:decide (b<=244)=false:=by simp;omega
   simp only[h',decide_true,cond_true,this]
  ·simp only[h',decide_false,cond_false]
 by_cases h3:224<=b∧b<=239
 ·have hr:=r2 (.inr (by omega));have hg:decide (194<=b)=true:=by simp;omega
  have hg2:decide (b<=223)=false:=by simp;omega
  rw[if_pos h3];simp only[hg,hg2,h3.1,h3.2,decide_true,cond_true,cond_false];rw[show (2:Int)=((2:Nat):Int)from rfl,hr];simp only[Jy,show decide (b=240)=false by simp;omega,show decide (b=244)=false by simp;omega,Bool.false_and,Bool.or_false];generalize hdN (s.data.toList.drop (i+1))=h;cases tlU 2 (s.data.toList.drop (i+1));·rw[if_neg (by simp)];rfl
  ·by_cases hb1:b=224∧h<160
   ·    rw[if_neg (by simp;omega)];simp only[hb1.1,hb1.2,decide_true,Bool.true_and,Bool.true_or,cond_true]
   ·    by_cases hb2:b=237∧159<h
        ·rw[if_neg (by simp;omega)];simp only[hb2.1,hb2.2,decide_true,Bool.true_and,Bool.or_true,cond_true]
        ·rw[if_pos ⟨rfl,hb1,hb2⟩];have e1:(decide (b=224)&&decide (h<160))=false:=by rw[Bool.and_eq_false_iff];simp;omega
         have e3:(decide (b=237)&&decide (159<h))=false:=by rw[Bool.and_eq_false_iff];simp;omega
         simp only[e1,e3,Bool.or_false,cond_true,cond_false]
 rw[if_neg h3];by_cases h4:240<=b∧b<=244
 ·have hr:=r3 (.inr (by omega));have hg:decide (194<=b)=true:=by simp;omega
  have hg2:decide (b<=223)=false:=by simp;omega
  have hg3:decide (224<=b)=true:=by simp;omega
  have hg4:decide (b<=239)=false:=by simp;omega
  rw[if_pos h4];simp only[hg,hg2,hg3,hg4,h4.1,h4.2,decide_true,cond_true,cond_false];rw[show (3:Int)=((3:Nat):Int)from rfl,hr];simp only[Jy,show decide (b=224)=false by simp;omega,show decide (b=237)=false by simp;omega,Bool.false_and,Bool.false_or];generalize hdN (s.data.toList.drop (i+1))=h;cases tlU 3 (s.data.toList.drop (i+1));·rw[if_neg (by simp)];rfl
  ·by_cases hb1:b=240∧h<144
   ·    rw[if_neg (by simp;omega)];simp only[hb1.1,hb1.2,decide_true,Bool.true_and,Bool.true_or,cond_true]
   ·    by_cases hb2:b=244∧143<h
        ·rw[if_neg (by simp;omega)];simp only[hb2.1,hb2.2,decide_true,Bool.true_and,Bool.or_true,cond_true]
        ·rw[if_pos ⟨rfl,hb1,hb2⟩];have e1:(decide (b=240)&&decide (h<144))=false:=by rw[Bool.and_eq_false_iff];simp;omega
         have e3:(decide (b=244)&&decide (143<h))=false:=by rw[Bool.and_eq_false_iff];simp;omega
         simp only[e1,e3,Bool.or_false,cond_true,cond_false]
 rw[if_neg h4];by_cases g1:194<=b<;>by_cases g2:224<=b<;>by_cases g3:240<=b;all_goals by_cases g4:b<=223<;>by_cases g5:b<=239<;>by_cases g6:b<=244
 all_goals first|(exfalso;omega)|(simp only[g1,g2,g3,g4,g5,g6,decide_true,decide_false,cond_true,cond_false])
theorem O5(     m:Nat)(hm:4<=m)(s:ByteArray)(hs:s.size<4611686018427387904):∀(M i k:Nat),i<=s.size->s.size-i<M->s.size-i<=k->AQ (m+1) M s (i:Int)=some (Lib.validGoD k (s.data.toList.drop i))
 |0,i,_,_,h,_=>by omega
 |M+    1,i,k,hi,h,hk=>by
  simp only[AQ,dlt];by_cases hlt:i<s.size
  ·obtain⟨  k,rfl⟩:∃q,k=q+1:=⟨k-1,by omega⟩;simp only[hlt,decide_true,cond_true];rw[aml m hm _ s hs i hlt,Du s i hlt,Jw];cases e:okU (s[i]).toNat (s.data.toList.drop (i+1))with
   |none=>rfl
   |    some n=>
        have hn:n<=(s.data.toList.drop (i+1)).length:=by
         unfold okU at e;split at e;·simp only[aA]at e;omega
         ·split at e
          · split at e;·rename_i h;have:=(tl1 _).1 h;simp only[aA]at e;omega
            ·cases e
          · split at e
            ·  split at e;·rename_i h;have:=(tl2 _).1 h.1;simp only[aA]at e;omega
               ·cases e
            ·  split at e
               ·split at e;·rename_i h;have:=(tl3 _).1 h.1;simp only[aA]at e;omega
                ·cases e
               ·cases e
        rw[List.length_drop,wo]at hn;show AQ (m+1) M s ((i+n+1:Nat):Int)=_;rw[O5 m hm s hs M (i+n+1) k (by omega) (by omega) (by omega)];show _=some (Lib.validGoD k (List.drop n (List.drop (i+1) s.data.toList)));rw[List.drop_drop,show i+1+n=i+n+1 by omega]
  ·rw[List.drop_eq_nil_of_le (by rw[wo];omega),O1];simp only[hlt,decide_false,cond_false];simp[Qc]
theorem auH(m:Nat)(s:ByteArray)(hs:s.size<4611686018427387904)(hm:s.size+5<=m):qP (m+1) s=some (Lib.validD s.data.toList):=by obtain⟨m,rfl⟩:∃q,m=q+1:=⟨m-1,by omega⟩;have:=O5 m (by omega) s hs (m+2) 0 s.size (by omega) (by omega) (by omega);rw[aK]at this;unfold Lib.validD;rw[wo];exact this
def eqb(a b:ByteArray):Bool:=a.toList==b.toList
theorem Jz(a b:ByteArray):eqb a b=true↔a=b:=by
 unfold eqb;rw[ByteArray.toList_eq,ByteArray.toList_eq,beq_iff_eq];refine⟨fun h=>?_,fun h=>by rw[h]⟩;cases a with|mk x=>cases b with|mk y=>
 have:x=y:=Array.ext' h;rw[this]
theorem O6(a b:ByteArray):eqb a b=eqb b a:=by rw[Bool.eq_iff_iff,Jz,Jz];exact eq_comm
theorem auI(a b:ByteArray):eqb a b=(a==b):=by rw[Bool.eq_iff_iff,Jz,fT]
theorem O7(s t:ByteArray)(v:Dt):∀es:List Dt,mget (mput es s v) t=bif s==t then some v else mget es t
 | []=>by simp only[mput,mget];rfl
 | e::r=>by
   simp only[mput];cases h:(e.S 0)==s
   ·simp only[cond_false,mget,O7 s t v r];cases h2:(e.S 0)==t;·rfl
    ·   have:(s==t)=false:=ku fun e1=>by subst e1;rw[h]at h2;cases h2
        rw[this];rfl
   ·have e1:=(fT _ _).1 h;simp only[cond_true,mget,e1];show (bif s==t then some v else mget r t)=bif s==t then some v else(bif s==t then some (e.fld 1)else mget r t);cases (s==t)<;>rfl
def anV(mp:List Dt)(seen:List ByteArray):Prop:=∀s,(mgetD mp s (.bool false)).toBool=seen.any (eqb s)
theorem amm:anV [] []:=fun s=>rfl
theorem amn{mp:List Dt}{seen:List ByteArray}(h:anV mp seen)(s:ByteArray):anV (mput mp s (.bool true)) (seen++[s]):=fun t=>by
 have:=h t;unfold mgetD at this ⊢
 rw[O7,List.any_append,←this];simp only[List.any_cons,List.any_nil,Bool.or_false];rw[O6 t s,auI];cases (s==t);·simp
 ·simp[Dt.toBool]
end Go.Proofs.YtmecfjhdnbgfeaaGreatDoor
namespace Go.Proofs.YtmecfjhdnbgfeaaGreatDoor
open Go.Am Dt
def shp(d:Dt):Bool:=
 (I d 0==3||I d 0==9||I d 0==10||I d 1==0)&&(I d 0==4||I d 0==7||I d 0==8||(S d 2).toList==[])&&
 (I d 0==6||!(decide ((0:Int)<((L d 3).length:Int))))&&(I d 0==5||!(decide ((0:Int)<((L d 4).length:Int))))
def fl(p:ByteArray->Bool)(self:Dt->Bool):List ByteArray->List Dt->Bool
 |_,[]=>true
 |seen,f::r=>p (S f 0)&&!(seen.any (eqb (S f 0)))&&self (fld f 1)&&fl p self (seen++[S f 0]) r
def bX(p:ByteArray->Bool):Nat->Dt->Bool
 |0,_=>false
 |  n+1,d=>shp d&&(bif I d 0==9 then(I d 1==0||I d 1==1)else bif I d 0==10 then decide ((0:Int)<=I d 1)else bif I d 0==4 then(decide (((S d 2).size:Int)<=4096)&&Lib.validD (S d 2).data.toList)else
    bif I d 0==7 then decide (((S d 2).size:Int)<=4096)else bif I d 0==8 then(((S d 2).size:Int)==12)else bif I d 0==6 then(L d 3).all (bX p n)else bif I d 0==5 then fl p (bX p n) [] (L d 4)else(decide (1<=I d 0)&&decide (I d 0<=11)))
theorem O8(k:Int):k=1∨k=2∨k=3∨k=4∨k=5∨k=6∨k=7∨k=8∨k=9∨k=10∨k=11∨(k<1∨11<k):=by omega
theorem kno{k:Int}(h:k<1∨11<k):(k==1)=false∧(k==2)=false∧(k==3)=false∧(k==4)=false∧(k==5)=false∧(k==6)=false∧(k==7)=false∧(k==8)=false∧(k==9)=false∧(k==10)=false∧(k==11)=false:=by refine⟨?_,?_,?_,?_,?_,?_,?_,?_,?_,?_,?_⟩<;>rw[beq_eq_false_iff_ne]<;>omega
theorem amo(m:Nat)(s:ByteArray)(hs:s.size<9223372036854775807):∀(M i:Nat),i<=s.size->s.size-i<M->zy m M s (s.size:Int) (i:Int)=some ((s.data.toList.drop i).all okB)
 |0,i,_,h=>by omega
 |M+1,i,hi,h=>by
  simp only[zy,dlt];by_cases hlt:i<s.size
  ·rw[Du s i hlt];simp only[hlt,decide_true,cond_true,zq,rH,zu,zw,Aa,Ab,rJ,dW hlt,ah,bF (show i<9223372036854775807 by omega),amo m s hs M (i+1) (by omega) (by omega),List.all_cons,okB];cases decide (((s[i]).toNat:Int)<33)<;>cases decide ((126:Int)<((s[i]).toNat:Int))<;>cases (((s[i]).toNat:Int)==46)<;>rfl
  ·have:i=s.size:=by omega
   subst this;rw[List.drop_eq_nil_of_le (by rw[wo];omega)];simp[zq,rH,zu,zw,Aa,Ab,rJ]
theorem ayc(m:Nat)(hm:33<=m)(s:ByteArray):qN (m+1) s=some (nm s):=by
 simp only[qN];by_cases h1:s.size<1
 ·have:decide ((s.size:Int)<1)=true:=by simp;omega
  simp only[this,cond_true,zq,rH,zu,zw,Aa,Ab,rJ,O4 s h1]
 have e1:decide ((s.size:Int)<1)=false:=by simp;omega
 by_cases h2:32<s.size
 ·have:decide ((32:Int)<(s.size:Int))=true:=by simp;omega
  simp only[e1,this,cond_true,cond_false,zq,rH,zu,zw,Aa,Ab,rJ,Wl s h2]
 have e2:decide ((32:Int)<(s.size:Int))=false:=by simp;omega
 have hx:=dW (s:=s) (i:=0) (by omega);have hl:=amo m s (by omega) (m+1) 0 (by omega) (by omega);rw[aK]at hl;have hl':zy m (Nat.succ m) s (s.size:Int) 0=some (s.data.toList.all okB):=hl;simp only[e1,e2,cond_false,show idxS s 0=_ from hx,ah,zq,rH,zu,zw,Aa,Ab,rJ,hl',O3 s (by omega) (by omega)];cases (((s[0]).toNat:Int)==36)<;>rfl
def okW(c:UInt8):Bool:=!(decide ((c.toNat:Int)<32)||decide ((126:Int)<c.toNat))
def wd(s:ByteArray):Bool:=decide (1<=s.size)&&decide (s.size<=128)&&s.data.toList.all okW
theorem Ho(m:Nat)(s:ByteArray)(hs:s.size<9223372036854775807):∀(M i:Nat),i<=s.size->s.size-i<M->AY m M s (i:Int)=some ((s.data.toList.drop i).all okW)
 |0,i,_,h=>by omega
 |M+1,i,hi,h=>by
  simp only[AY,dlt];by_cases hlt:i<s.size
  ·rw[Du s i hlt];simp only[hlt,decide_true,cond_true,AR,wH,AU,AX,AZ,A8,wI,dW hlt,ah,bF (show i<9223372036854775807 by omega),Ho m s hs M (i+1) (by omega) (by omega),List.all_cons,okW];cases decide (((s[i]).toNat:Int)<32)<;>cases decide ((126:Int)<((s[i]).toNat:Int))<;>rfl
  ·have:i=s.size:=by omega
   subst this;rw[List.drop_eq_nil_of_le (by rw[wo];omega)];simp[AR,wH,AU,AX,AZ,A8,wI]
theorem anW(m:Nat)(hm:129<=m)(s:ByteArray):qV (m+1) s=some (wd s):=by
 simp only[qV,wd];by_cases h1:s.size<1
 ·have:decide ((s.size:Int)<1)=true:=by simp;omega
  have e:decide (1<=s.size)=false:=decide_eq_false (by omega);simp only[this,cond_true,AR,wH,AU,AX,AZ,A8,wI,e,Bool.false_and]
 have e1:decide ((s.size:Int)<1)=false:=by simp;omega
 have f1:decide (1<=s.size)=true:=by simp;omega
 by_cases h2:128<s.size
 ·have:decide ((128:Int)<(s.size:Int))=true:=by simp;omega
  have e:decide (s.size<=128)=false:=by simp;omega
  simp only[e1,f1,this,cond_true,cond_false,AR,wH,AU,AX,AZ,A8,wI,e,Bool.false_and,Bool.and_false]
 have e2:decide ((128:Int)<(s.size:Int))=false:=by simp;omega
 have f2:decide (s.size<=128)=true:=by simp;omega
 have hl:=Ho m s (by omega) (m+1) 0 (by omega) (by omega);rw[aK]at hl;have hl':AY m (Nat.succ m) s 0=some (s.data.toList.all okW):=hl;simp only[e1,e2,f1,f2,cond_false,AR,wH,AU,AX,AZ,A8,wI,hl',Bool.true_and]
theorem Wn(m:Nat)(hm:34<=m)(self:Dt->Option Bool)(g:Dt->Bool)(L:List Dt)(hl:L.length<9223372036854775807)(hs:∀f∈L,self (fld f 1)=some (g (fld f 1))):∀(M i:Nat)(mp:List Dt),i<=L.length->L.length-i<M->anV mp ((L.take i).map fun f=>S f 0)->
  EK m self M L (L.length:Int) (i:Int) mp=some (fl nm g ((L.take i).map fun f=>S f 0) (L.drop i))
 |0,i,_,_,h,_=>by omega
 |M+    1,i,mp,hi,h,hmp=>by
  obtain⟨m,rfl⟩:∃q,m=q+1:=⟨m-1,by omega⟩;simp only[EK,dlt];by_cases hlt:i<L.length
  ·have hr:=hs _ (aD hlt);have hp:=hmp (S L[i] 0);have hmp':=amn hmp (S L[i] 0);have et:(L.take (i+1)).map (fun f=>S f 0)=((L.take i).map fun f=>S f 0)++[S L[i] 0]:=by rw[List.take_succ_eq_append_getElem hlt,List.map_append];rfl
   rw[←et]at hmp';have ih:=Wn (m+1) hm self g L hl hs M (i+1) _ (by omega) (by omega) hmp';rw[ay hlt,fl,←et];simp only[hlt,decide_true,cond_true,JW,JX,Ag,JY,JZ,J2,bg hlt,ah,hr,hp,ayc m (by omega),bF (show i<9223372036854775807 by omega),ih];cases nm (S L[i] 0)<;>cases ((L.take i).map fun f=>S f 0).any (eqb (S L[i] 0))<;>cases g (fld L[i] 1)<;>rfl
  ·have:i=L.length:=by omega
   subst this;simp[JW,JX,Ag,JY,JZ,J2,fl]
theorem Wo(m:Nat)(self:Dt->Option Bool)(self2:List Dt->Option Bool)(g:Dt->Bool)(L:List Dt)(hl:L.length<9223372036854775807)(hs:∀e∈L,self e=some (g e)):∀(M i:Nat),i<=L.length->L.length-i<M->
  Ac m self self2 M L (L.length:Int) (i:Int)=some ((L.drop i).all g)
 |0,i,_,h=>by omega
 |M+1,i,hi,h=>by
  simp only[Ac,dlt];by_cases hlt:i<L.length
  ·have hr:=hs _ (aD hlt);have ih:=Wo m self self2 g L hl hs M (i+1) (by omega) (by omega);rw[ay hlt,List.all_cons];simp only[hlt,decide_true,cond_true,H6,Sn,H7,JV,Ad,nL,Ae,rM,Af,rO,rP,rQ,bg hlt,ah,hr,bF (show i<9223372036854775807 by omega),ih];cases g L[i]<;>rfl
  ·have:i=L.length:=by omega
   subst this;simp[H6,Sn,H7,JV,Ad,nL,Ae,rM,Af,rO,rP,rQ]
theorem auJ(m:Nat)(d:Dt):qC (m+1) d=bif shp d then nL m (qC m) (qH m) (I d 0) (I d 0==1||I d 0==2||I d 0==11||I d 0==3) d else some false:=by
 have e5:∀s1 s2,Ae m s1 s2 d=nL m s1 s2 (I d 0) (I d 0==1||I d 0==2||I d 0==11||I d 0==3) d:=fun s1 s2=>by simp only[Ae];cases (I d 0==1)<;>cases (I d 0==2)<;>cases (I d 0==11)<;>rfl
 have e3:∀s1 s2,Af m s1 s2 d=bif (I d 0==6||!(decide ((0:Int)<((L d 3).length:Int))))&&(I d 0==5||!(decide ((0:Int)<((L d 4).length:Int))))then Ae m s1 s2 d else some false:=fun s1 s2=>by simp only[Af,rM,bne];cases (I d 0==6)<;>cases (I d 0==5)<;>cases decide ((0:Int)<((L d 3).length:Int))<;>cases decide ((0:Int)<((L d 4).length:Int))<;>rfl
 have e1:∀s1 s2 x0 x1,rP m s1 s2 x0 x1 d=bif (x0||I d 1==0)&&(x1||(S d 2).toList==[])then Af m s1 s2 d else some false:=fun s1 s2 x0 x1=>by simp only[rP,rO,bne];cases x0<;>cases x1<;>cases (I d 1==0)<;>cases ((S d 2).toList==[])<;>rfl
 have e0:∀s1 s2 x0,rQ m s1 s2 x0 d=rP m s1 s2 x0 (I d 0==4||I d 0==7||I d 0==8) d:=fun s1 s2 x0=>by simp only[rQ];cases (I d 0==4)<;>cases (I d 0==7)<;>rfl
 have e:qC (m+1) d=rQ m (qC m) (qH m) (I d 0==3||I d 0==9||I d 0==10) d:=by simp only[qC];cases (I d 0==3)<;>cases (I d 0==9)<;>rfl
 rw[e,e0,e1,e3,e5];unfold shp;cases (I d 0==3||I d 0==9||I d 0==10||I d 1==0)<;>cases (I d 0==4||I d 0==7||I d 0==8||(S d 2).toList==[])<;>cases (I d 0==6||!(decide ((0:Int)<((L d 3).length:Int))))<;>cases (I d 0==5||!(decide ((0:Int)<((L d 4).length:Int))))<;>rfl
theorem Hq:∀(N:Nat)(d:Dt),d.bulk<=N->N<=137438953472->WV d->∀m,2*N+40<=m->qC (m+1) d=some (bX nm N d)
 |0,d,h,_,_,_,_=>by have:=bV d;omega
 |N+1,d,h,hN,hw,m,hm=>by
  obtain⟨m,rfl⟩:∃q,m=q+2:=⟨m-2,by omega⟩;obtain⟨p1,p2,p3,p4⟩:=bU hw;have ih:∀e:Dt,WV e->e.bulk<=N->∀q,2*N+40<=q->qC (q+1) e=some (bX nm N e):=fun e hwe hbe q hq=>Hq N e hbe (by omega) hwe q hq;have k1:=Wo (m+2) (qC (m+2)) (qH (m+2)) (bX nm N) (L d 3) (by omega) (fun e he=>ih e (p3 e he).1 (by have:=(p3 e he).2;omega) (m+1) (by omega)) (m+3) 0 (aN _) (by omega);have k2:=Wn (m+1) (by omega) (qC (m+1)) (bX nm N) (L d 4) (by omega) (fun f hf=>ih _ (p4 f hf).1 (by have:=(p4 f hf).2;omega) m (by omega)) (m+2) 0 [] (aN _) (by omega) amm;rw[aK]at k1 k2;have k1':Ac (m+2) (qC (m+2)) (qH (m+2)) (Nat.succ (m+2)) (L d 3) ((L d 3).length:Int) 0=some ((L d 3).all (bX nm N)):=k1;have k2':qH (m+2) (L d 4)=some (fl nm (bX nm N) [] (L d 4)):=by simp only[qH,JW,JX,Ag,JY,JZ,J2];exact k2
  rw[auJ];have hj:JV (m+2) (qC (m+2)) (qH (m+2)) (L d 3) ((L d 3).length:Int) 0=some ((L d 3).all (bX nm N)):=k1';simp only[nL,Ad,hj,k2',ah,utf8_ValidString,bX];cases shp d;·rfl
  simp only[cond_true,Bool.true_and];generalize (L d 3).all (bX nm N)=a1;generalize fl nm (bX nm N) [] (L d 4)=a2;generalize Lib.validD (S d 2).data.toList=a3;generalize I d 0=k;generalize ((S d 2).size:Int)=sz;generalize I d 1=n;rcases O8 k with rfl|rfl|rfl|rfl|rfl|rfl|rfl|rfl|rfl|rfl|rfl|hk
  case inr.inr.inr.inr.inr.inr.inr.inr.inr.inr.inr=>
   obtain⟨q1,q2,q3,q4,q5,q6,q7,q8,q9,q10,q11⟩:=kno hk;simp only[q1,q2,q3,q4,q5,q6,q7,q8,q9,q10,q11,Bool.or_self,cond_false];have:(decide (1<=k)&&decide (k<=11))=false:=by rw[Bool.and_eq_false_iff];simp;omega
   rw[this]
  all_goals first|rfl|(cases (n==0)<;>rfl)|(show (bif decide (sz<=4096)then some a3 else some false)=some (decide (sz<=4096)&&a3);cases decide (sz<=4096)<;>rfl)
def nmP(names:Bool)(s:ByteArray):Bool:=bif names then nm s else wd s
theorem asq(m:Nat)(self:Dt->Bool->Option Bool)(names:Bool)(rec1:Bool->Int->Dt->Option Bool)(d f:Dt)(i:Nat)(hi:i<(L d 4).length)(hl:(L d 4).length<9223372036854775807):∀(M k:Nat),k<=i->i-k<M->
  Bc m self rec1 M names (i:Int) (k:Int) d f=bif ((((L d 4).take i).drop k).map fun e=>S e 0).any (eqb (S f 0))then some false else rec1 names ((i+1:Nat):Int) d
 |0,k,_,h=>by omega
 |M+1,k,hk,h=>by
  simp only[Bc,dlt];by_cases hlt:k<i
  ·have hk2:k<((L d 4).take i).length:=by rw[List.length_take];omega
   have ih:=asq m self names rec1 d f i hi hl M (k+1) (by omega) (by omega);rw[ay hk2,List.map_cons,List.any_cons,List.getElem_take];simp only[hlt,decide_true,cond_true,EZ,E8,E9,Fa,Fb,kQ,Fe,uN,Bd,bg (show k<(L d 4).length by omega),ah,bF (show k<9223372036854775807 by omega),ih];rw[O6 (S f 0)];unfold eqb;cases ((S (L d 4)[k] 0).toList==(S f 0).toList)<;>rfl
  ·have:k=i:=by omega
   subst this;rw[List.drop_eq_nil_of_le (by rw[List.length_take];omega)];simp only[hlt,decide_false,cond_false,EZ,E8,E9,Fa,Fb,kQ,Fe,uN,Bd,bF (show k<9223372036854775807 by omega)];rfl
theorem Wp(m:Nat)(hm:140<=m)(self:Dt->Bool->Option Bool)(g:Dt->Bool)(names:Bool)(d:Dt)(hl:(L d 4).length<m)(hl2:m<9223372036854775807)(hs:∀f∈L d 4,self (fld f 1) names=some (g (fld f 1))):∀(M i:Nat),i<=(L d 4).length->(L d 4).length-i<M->
  wJ m self M names (i:Int) d=some (fl (nmP names) g (((L d 4).take i).map fun f=>S f 0) ((L d 4).drop i))
 |0,i,_,h=>by omega
 |M+    1,i,hi,h=>by
  obtain⟨m,rfl⟩:∃q,m=q+1:=⟨m-1,by omega⟩;simp only[wJ,dlt];by_cases hlt:i<(L d 4).length
  ·have hr:=hs _ (aD hlt);have et:((L d 4).take (i+1)).map (fun f=>S f 0)=(((L d 4).take i).map fun f=>S f 0)++[S (L d 4)[i] 0]:=by rw[List.take_succ_eq_append_getElem hlt,List.map_append];rfl
   have ih:=Wp (m+1) hm self g names d hl hl2 hs M (i+1) (by omega) (by omega);have hin:=asq (m+1) self names (wJ (m+1) self M) d (L d 4)[i] i hlt (by omega) (m+2) 0 (by omega) (by omega);rw[aK,ih]at hin;have hin':Bc (m+1) self (wJ (m+1) self M) (Nat.succ (m+1)) names (i:Int) 0 d (L d 4)[i]=_:=hin;rw[ay hlt,fl,←et];simp only[hlt,decide_true,cond_true,EZ,E8,E9,Fa,Fb,kQ,Fe,uN,Bd,bg hlt,ah,Wm m (by omega),anW m (by omega),hr,hin',nmP];cases names<;>cases nm (S (L d 4)[i] 0)<;>cases wd (S (L d 4)[i] 0)<;>cases (((L d 4).take i).map fun f=>S f 0).any (eqb (S (L d 4)[i] 0))<;>cases g (fld (L d 4)[i] 1)<;>rfl
  ·have:i=(L d 4).length:=by omega
   subst this;simp[EZ,E8,E9,Fa,Fb,kQ,Fe,uN,Bd,fl]
theorem O9(m:Nat)(self self2:Dt->Bool->Option Bool)(g:Dt->Bool)(names:Bool)(d:Dt)(hl:(L d 3).length<9223372036854775807)(hs:∀e∈L d 3,self e names=some (g e))(r:Bool)(hr:self2 d names=some r):∀(M i:Nat),i<=(L d 3).length->(L d 3).length-i<M->
  EY m self self2 M names (i:Int) d=some (((L d 3).drop i).all g&&r)
 |0,i,_,h=>by omega
 |M+1,i,hi,h=>by
  simp only[EY,dlt];by_cases hlt:i<(L d 3).length
  ·have hr2:=hs _ (aD hlt);have ih:=O9 m self self2 g names d hl hs r hr M (i+1) (by omega) (by omega);rw[ay hlt,List.all_cons];simp only[hlt,decide_true,cond_true,abD,Qd,bg hlt,ah,hr2,bF (show i<9223372036854775807 by omega),ih];cases g (L d 3)[i]<;>rfl
  ·have:i=(L d 3).length:=by omega
   subst this;simp[Qe,hr]
theorem auK(m:Nat)(d:Dt)(names:Bool):qD (m+1) d names=bif shp d&&(decide (1<=I d 0)&&decide (I d 0<=11))then Ki m (qD m) (qG m) names d else some false:=by
 have e3:∀s1 s2 x1 x2,A9 m s1 s2 names x1 x2 d=bif (x1||(S d 2).toList==[])&&(x2||I d 1==0)&&(!(decide (I d 0<1))&&!(decide (11<I d 0)))then Ki m s1 s2 names d else some false:=fun s1 s2 x1 x2=>by simp only[A9,jV,bne];cases x1<;>cases x2<;>cases (I d 1==0)<;>cases ((S d 2).toList==[])<;>cases decide (I d 0<1)<;>cases decide (11<I d 0)<;>rfl
 have e2:∀s1 s2 x1,Ba m s1 s2 names x1 d=A9 m s1 s2 names x1 (I d 0==3||I d 0==9||I d 0==10) d:=fun s1 s2 x1=>by simp only[Ba];cases (I d 0==3)<;>cases (I d 0==9)<;>rfl
 have e1:∀s1 s2,Kj m s1 s2 names d=Ba m s1 s2 names (I d 0==4||I d 0==7||I d 0==8) d:=fun s1 s2=>by simp only[Kj];cases (I d 0==4)<;>cases (I d 0==7)<;>rfl
 have e:qD (m+1) d names=bif (I d 0==6||!(decide ((0:Int)<((L d 3).length:Int))))&&(I d 0==5||!(decide ((0:Int)<((L d 4).length:Int))))then Kj m (qD m) (qG m) names d else some false:=by simp only[qD,Bb,bne];cases (I d 0==6)<;>cases (I d 0==5)<;>cases decide ((0:Int)<((L d 3).length:Int))<;>cases decide ((0:Int)<((L d 4).length:Int))<;>rfl
 have d1:(!(decide (I d 0<1)))=decide (1<=I d 0):=by rw[Bool.eq_iff_iff];simp
 have d2:(!(decide (11<I d 0)))=decide (I d 0<=11):=by rw[Bool.eq_iff_iff];simp
 rw[e,e1,e2,e3,d1,d2];unfold shp;cases (I d 0==3||I d 0==9||I d 0==10||I d 1==0)<;>cases (I d 0==4||I d 0==7||I d 0==8||(S d 2).toList==[])<;>cases (I d 0==6||!(decide ((0:Int)<((L d 3).length:Int))))<;>cases (I d 0==5||!(decide ((0:Int)<((L d 4).length:Int))))<;>rfl
theorem xH{l:List Dt}(h:(!(decide ((0:Int)<(l.length:Int))))=true):l=[]:=by
 refine List.eq_nil_of_length_eq_zero ?_;have:decide ((0:Int)<(l.length:Int))=false:=by simpa using h
 have:=of_decide_eq_false this;omega
theorem Dv(names:Bool):∀(N:Nat)(d:Dt),d.bulk<=N->N<=100000000000->WV d->∀m,2*N+200<=m->m<9223372036854775807->qD (m+1) d names=some (bX (nmP names) N d)
 |0,d,h,_,_,_,_,_=>by have:=bV d;omega
 |N+1,d,h,hN,hw,m,hm,hm2=>by
  obtain⟨m,rfl⟩:∃q,m=q+2:=⟨m-2,by omega⟩;obtain⟨p1,p2,p3,p4⟩:=bU hw;have ih:∀e:Dt,WV e->e.bulk<=N->∀q,2*N+200<=q->q<9223372036854775807->qD (q+1) e names=some (bX (nmP names) N e):=fun e hwe hbe q hq hq2=>Dv names N e hbe (by omega) hwe q hq hq2;have k2:=Wp (m+1) (by omega) (qD (m+1)) (bX (nmP names) N) names d (by omega) (by omega) (fun f hf=>ih _ (p4 f hf).1 (by have:=(p4 f hf).2;omega) m (by omega) (by omega)) (m+2) 0 (aN _) (by omega);rw[aK]at k2;have k2':qG (m+2) d names=some (fl (nmP names) (bX (nmP names) N) [] (L d 4)):=by simp only[qG,Bd];exact k2
  have k1:=O9 (m+2) (qD (m+2)) (qG (m+2)) (bX (nmP names) N) names d (by omega) (fun e he=>ih e (p3 e he).1 (by have:=(p3 e he).2;omega) (m+1) (by omega) (by omega)) _ k2' (m+3) 0 (aN _) (by omega);rw[aK]at k1;have k1':abE (m+2) (qD (m+2)) (qG (m+2)) names d=some ((L d 3).all (bX (nmP names) N)&&fl (nmP names) (bX (nmP names) N) [] (L d 4)):=k1;rw[auK];have hsz:(S d 2).size<=d.bulk:=by
   cases hw with
   | @mk k i t l ds hl hd=>rw[dS];show t.size<=_;omega
  have hu:qP (m+2) (S d 2)=some (Lib.validD (S d 2).data.toList):=auH (m+1) _ (by omega) (by omega);simp only[Ki,k1',hu,ah,bX];cases hsh:shp d;·simp only[Bool.false_and,cond_false]
  have hsp:=hsh;unfold shp at hsp;have s6:(I d 0==6||!(decide ((0:Int)<((L d 3).length:Int))))=true:=by rw[Bool.and_eq_true_iff,Bool.and_eq_true_iff]at hsp;exact hsp.1.2
  have s5:(I d 0==5||!(decide ((0:Int)<((L d 4).length:Int))))=true:=by rw[Bool.and_eq_true_iff]at hsp;exact hsp.2
  have n3:I d 0≠6->L d 3=[]:=fun hne=>by
   rcases Bool.or_eq_true_iff.1 s6 with h|h;·exact absurd (by simpa using h) hne
   ·exact xH h
  have n4:I d 0≠5->L d 4=[]:=fun hne=>by
   rcases Bool.or_eq_true_iff.1 s5 with h|h;·exact absurd (by simpa using h) hne
   ·exact xH h
  simp only[Bool.true_and];generalize L d 3=l3 at*
  generalize L d 4=l4 at*
  generalize Lib.validD (S d 2).data.toList=a3;generalize I d 0=k at*
  generalize ((S d 2).size:Int)=sz;generalize I d 1=n;rcases O8 k with rfl|rfl|rfl|rfl|rfl|rfl|rfl|rfl|rfl|rfl|rfl|hk
  case inr.inr.inr.inr.inr.inr.inr.inr.inr.inr.inr=>
   obtain⟨q1,q2,q3,q4,q5,q6,q7,q8,q9,q10,q11⟩:=kno hk;have:(decide (1<=k)&&decide (k<=11))=false:=by rw[Bool.and_eq_false_iff];simp;omega
   simp only[q1,q2,q3,q4,q5,q6,q7,q8,q9,q10,q11,this,cond_false]
  all_goals first
   |(have e3:=n3 (by decide);have e4:=n4 (by decide);subst e3 e4;rfl)
   |(have e4:=n4 (by decide);subst e4;show some (l3.all (bX (nmP names) N)&&true)=some (l3.all (bX (nmP names) N));rw[Bool.and_true])
   |(have e3:=n3 (by decide);subst e3;rfl)
   |(cases (n==0)<;>rfl)
   |(show (bif decide (sz<=4096)then some a3 else some false)=some (decide (sz<=4096)&&a3);cases decide (sz<=4096)<;>rfl)
def mx(f:Dt->Nat):List Dt->Nat
 | []=>0
 |e::r=>max (f e) (mx f r)
theorem Dw{f g:Dt->Nat}:∀{L:List Dt},(∀e∈L,f e=g e)->mx f L=mx g L
 | [],_=>rfl
 |e::r,h=>by simp only[mx,h e (aZ ..),Dw fun x hx=>h x (aY _ hx)]
theorem amq(f:Dt->Nat)(k:Dt->Dt):∀L:List Dt,mx f (L.map k)=mx (fun x=>f (k x)) L
 | []=>rfl
 |e::r=>by simp only[List.map_cons,mx,amq f k r]
theorem JA(f:Dt->Nat){L:List Dt}{i:Nat}(h:i<L.length):mx f (L.drop i)=max (f L[i]) (mx f (L.drop (i+1))):=by rw[ay h];rfl
def ZC:Nat->Dt->Nat
 |0,_=>1
 |n+1,d=>1+mx (ZC n) (fM d)
theorem Hr:∀(n n':Nat)(d:Dt),WV d->d.bulk<=n->d.bulk<=n'->ZC n d=ZC n' d
 |0,_,d,_,h,_=>by have:=bV d;omega
 |_+1,0,d,_,_,h=>by have:=bV d;omega
 |n+1,n'+1,d,hw,h,h'=>by simp only[ZC];congr 1;refine Dw fun e he=>?_;have:=nH hw e he;exact Hr n n' e this.1 (by omega) (by omega)
def dpt(d:Dt):Nat:=ZC d.bulk d
theorem JB{d:Dt}(hw:WV d):dpt d=1+mx dpt (fM d):=by obtain⟨k,hk⟩:∃k,d.bulk=k+1:=⟨d.bulk-1,by have:=bV d;omega⟩;unfold dpt;rw[hk];simp only[ZC];congr 1;refine Dw fun e he=>?_;have:=nH hw e he;exact Hr _ _ e this.1 (by omega) (aL _)
theorem Wq(a b:Nat):(bif decide ((a:Int)<(b:Int))then(b:Int)else(a:Int))=((max a b:Nat):Int):=by
 rw[dlt];by_cases h:a<b;·simp only[h,decide_true,cond_true];omega
 ·simp only[h,decide_false,cond_false];omega
theorem Pb(m:Nat)(self:Dt->Int->Option Int)(L:List Dt)(hl:L.length<9223372036854775807)(most:Nat)(h2:2<=most)(h3:most<1000000)(hs:∀e∈L,self e ((most-1:Nat):Int)=some ((min (dpt e) (most-1):Nat):Int)):∀(M i best:Nat),i<=L.length->L.length-i<M->best<=most->
  AJ m self M (most:Int) L (best:Int) (i:Int)=some ((max best (min (mx dpt (L.drop i)) (most-1))+1:Nat):Int)
 |0,i,_,_,h,_=>by omega
 |M+1,i,best,hi,h,hb=>by
  simp only[AJ,dlt];by_cases hlt:i<L.length
  ·have hr:=hs _ (aD hlt);have hw:IntKind.wrap IntKind.i64 ((most:Int)-1)=((most-1:Nat):Int):=by rw[wrap64 (by omega) (by omega)];omega
   simp only[hlt,decide_true,cond_true,Az,AA,AB,AL,AO,wG,bg hlt,ah,hw,hr,Wq,bF (show i<9223372036854775807 by omega),Pb m self L hl most h2 h3 hs M (i+1) (max best (min (dpt L[i]) (most-1))) (by omega) (by omega) (by omega),JA dpt hlt];congr 2;omega
  ·rw[List.drop_eq_nil_of_le (by omega)];simp only[hlt,decide_false,cond_false,Az,AA,AB,AL,AO,wG,mx];rw[wrap64 (by omega) (by omega)];congr 1;omega
theorem Ht:∀(N:Nat)(d:Dt),d.bulk<=N->N<=137438953472->WV d->∀m,N<=m->∀most:Nat,1<=most->most<1000000->qO (m+2) d (most:Int)=some ((min (dpt d) most:Nat):Int)
 |0,d,h,_,_,_,_,_,_,_=>by have:=bV d;omega
 |N+    1,d,h,hN,hw,m,hm,most,h1,h3=>by
  obtain⟨m,rfl⟩:∃q,m=q+1:=⟨m-1,by omega⟩;rw[qO,parts_eq d hw (m+1) (by omega) (by omega),ah];have hd:=JB hw;by_cases h2:most<2
  ·have:decide ((most:Int)<2)=true:=by simp;omega
   simp only[this,cond_true,Az,AA,AB,AL,AO,wG];congr 1;omega
  ·have e2:decide ((most:Int)<2)=false:=by rw[decide_eq_false_iff_not];omega
   by_cases h0:(fM d).length=0
   ·    have e0:((((fM d).length:Nat):Int)==0)=true:=by simp;exact List.length_eq_zero_iff.1 h0
        rw[List.length_eq_zero_iff.1 h0]at hd;simp only[mx]at hd;simp only[e2,cond_false,e0,cond_true,Az,AA,AB,AL,AO,wG];congr 1;omega
   ·    have e0:((((fM d).length:Nat):Int)==0)=false:=by rw[beq_eq_false_iff_ne];omega
        have hlen:=OZ hw;have:=Pb (m+2) (qO (m+2)) (fM d) (by omega) most (by omega) h3 (fun e he=>by obtain⟨hwe,hbe⟩:=nH hw e he;exact Ht N e (by omega) (by omega) hwe m (by omega) (most-1) (by omega) (by omega)) (m+3) 0 0 (aN _) (by omega) (by omega)
        rw[aK]at this;have h':AJ (m+2) (qO (m+2)) (Nat.succ (m+2)) (most:Int) (fM d) 0 0=_:=this;have e9:max 0 (min (mx dpt (fM d)) (most-1))+1=min (dpt d) most:=by omega
        simp only[e2,cond_false,e0,Az,AA,AB,AL,AO,wG,h',e9]
theorem ZE{d:Dt}(hw:WV d)(hb:d.bulk<=137438953472)(m:Nat)(hm:d.bulk<=m):yN (m+3) d=some ((min (dpt d) 17:Nat):Int):=by simp only[yN];rw[show ((17:Int))=((17:Nat):Int)from rfl,Ht d.bulk d (aL _) hb hw m hm 17 (by omega) (by omega)];rfl
theorem Wt(m:Nat)(self:Dt->Int->Int->Option (Bool×Int×Int))(L:List Dt)(hl:L.length<9223372036854775807)(most:Nat)(hs:∀e∈L,∀k:Nat,k<most-1->self e (k:Int) (most:Int)=some (decide (((max k (min (dpt e) (most-1)):Nat):Int)<((most-1:Nat):Int)),((max k (min (dpt e) (most-1)):Nat):Int),(most:Int))):∀(M i acc:Nat),i<=L.length->L.length-i<M->acc<most-1->
  pX m self M L (L.length:Int) (i:Int) (acc:Int) (most:Int)=some (((max acc (min (mx dpt (L.drop i)) (most-1)):Nat):Int),(most:Int))
 |0,i,_,_,h,_=>by omega
 |M+    1,i,acc,hi,h,ha=>by
  simp only[pX,dlt];by_cases hlt:i<L.length
  ·have hr:=hs _ (aD hlt) acc ha;simp only[hlt,decide_true,cond_true,uE,uF,uG,uI,uJ,uK,bg hlt,ah,hr,dlt,bF (show i<9223372036854775807 by omega),JA dpt hlt];by_cases hm:max acc (min (dpt L[i]) (most-1))<most-1
   ·    simp only[hm,decide_true,Bool.not_true,cond_false,Wt m self L hl most hs M (i+1) (max acc (min (dpt L[i]) (most-1))) (by omega) (by omega) hm];congr 3;omega
   ·    simp only[hm,decide_false,Bool.not_false,cond_true];congr 3;omega
  ·rw[List.drop_eq_nil_of_le (by omega)];simp only[hlt,decide_false,cond_false,mx];congr 3;omega
theorem Wu(m:Nat)(self:Dt->Int->Int->Option (Bool×Int×Int))(L:List Dt)(hl:L.length<9223372036854775807)(most:Nat)(hs:∀e∈L,∀k:Nat,k<most-1->self (fld e 1) (k:Int) (most:Int)=some (decide (((max k (min (dpt (fld e 1)) (most-1)):Nat):Int)<((most-1:Nat):Int)),((max k (min (dpt (fld e 1)) (most-1)):Nat):Int),(most:Int))):∀(M i acc:Nat),i<=L.length->L.length-i<M->acc<most-1->
  pY m self M L (L.length:Int) (i:Int) (acc:Int) (most:Int)=some (((max acc (min (mx (fun f=>dpt (fld f 1)) (L.drop i)) (most-1)):Nat):Int),(most:Int))
 |0,i,_,_,h,_=>by omega
 |M+    1,i,acc,hi,h,ha=>by
  simp only[pY,dlt];by_cases hlt:i<L.length
  ·have hr:=hs _ (aD hlt) acc ha;simp only[hlt,decide_true,cond_true,uE,uF,uG,uI,uJ,uK,bg hlt,ah,hr,dlt,bF (show i<9223372036854775807 by omega),JA (fun f=>dpt (fld f 1)) hlt];by_cases hm:max acc (min (dpt (fld L[i] 1)) (most-1))<most-1
   ·    simp only[hm,decide_true,Bool.not_true,cond_false,Wu m self L hl most hs M (i+1) (max acc (min (dpt (fld L[i] 1)) (most-1))) (by omega) (by omega) hm];congr 3;omega
   ·    simp only[hm,decide_false,Bool.not_false,cond_true];congr 3;omega
  ·rw[List.drop_eq_nil_of_le (by omega)];simp only[hlt,decide_false,cond_false,mx];congr 3;omega
theorem Hu:∀(N:Nat)(d:Dt),d.bulk<=N->N<=137438953472->WV d->∀m,3*N<=m->∀most:Nat,1<=most->most<1000000->z8 (m+1) d (most:Int)=some ((min (dpt d) most:Nat):Int)
 |0,d,h,_,_,_,_,_,_,_=>by have:=bV d;omega
 |N+    1,d,h,hN,hw,m,hm,most,h1,h2=>by
  obtain⟨m,rfl⟩:∃q,m=q+3:=⟨m-3,by omega⟩;simp only[z8];have hd:=JB hw;by_cases e1:most=1
  ·subst e1;have:((((1:Nat):Int))==(1:Int))=true:=rfl;simp only[this,cond_true];congr 1;omega
  ·have e2:(((most:Int))==(1:Int))=false:=by rw[beq_eq_false_iff_ne];omega
   have hc:∀e:Dt,WV e->e.bulk<=N->∀k:Nat,k<most-1->i92 (m+2) e (k:Int) (most:Int)=some (decide (((max k (min (dpt e) (most-1)):Nat):Int)<((most-1:Nat):Int)),((max k (min (dpt e) (most-1)):Nat):Int),(most:Int)):=fun e hwe hbe k hk=>by
        have hw1:IntKind.wrap IntKind.i64 ((most:Int)-1)=((most-1:Nat):Int):=by rw[wrap64 (by omega) (by omega)];omega
        have hr:=Hu N e hbe (by omega) hwe m (by omega) (most-1) (by omega) (by omega);simp only[i92,hw1,hr,ah,Wq]
   obtain⟨p1,p2,p3,p4⟩:=bU hw;have k1:=Wt (m+2) (i92 (m+2)) (L d 3) (by omega) most (fun e he=>hc e (p3 e he).1 (by have:=(p3 e he).2;omega)) (m+3) 0 0 (aN _) (by omega) (by omega);have k2:=Wu (m+2) (i92 (m+2)) (L d 4) (by omega) most (fun e he=>hc _ (p4 e he).1 (by have:=(p4 e he).2;omega)) (m+3) 0 0 (aN _) (by omega) (by omega);rw[aK]at k1 k2;unfold fM at hd;have fin:∀x:Nat,x<most->IntKind.wrap IntKind.i64 ((1:Int)+(x:Int))=((1+x:Nat):Int):=fun x hx=>by rw[wrap64 (by omega) (by omega)];omega
   simp only[e2,cond_false,aaY,i91];cases h6:(I d 0==6)
   ·    rw[h6]at hd;cases h5:(I d 0==5)
        ·rw[h5]at hd;simp only[cond_false,mx]at hd;simp only[cond_false,ah];rw[show ((0:Int))=((0:Nat):Int)from rfl,fin 0 (by omega),hd];congr 2;omega
        ·rw[h5]at hd;simp only[cond_false,cond_true,amq]at hd;have k2':pY (m+2) (i92 (m+2)) (Nat.succ (m+2)) (L d 4) ((L d 4).length:Int) 0 0 (most:Int)=_:=k2;simp only[cond_false,cond_true,uE,uF,uG,uI,uJ,uK,k2',ah];rw[fin _ (by omega),hd];congr 2;omega
   ·    rw[h6]at hd;simp only[cond_true]at hd;have k1':pX (m+2) (i92 (m+2)) (Nat.succ (m+2)) (L d 3) ((L d 3).length:Int) 0 0 (most:Int)=_:=k1;simp only[cond_true,uE,uF,uG,uI,uJ,uK,k1',ah];rw[fin _ (by omega),hd];congr 2;omega
theorem ZF{d:Dt}(hw:WV d)(hb:d.bulk<=137438953472)(m:Nat)(hm:3*d.bulk<=m):yM (m+2) d=some ((min (dpt d) 17:Nat):Int):=by simp only[yM];rw[show ((17:Int))=((17:Nat):Int)from rfl,Hu d.bulk d (aL _) hb hw m hm 17 (by omega) (by omega)];rfl
def okV(d:Dt):Bool:=decide (nds d<=1024)&&decide (dpt d<=16)&&bX nm d.bulk d
theorem lim(n k:Nat)(h:k<1000000):decide (((min n (k+1):Nat):Int)<=((k:Nat):Int))=decide (n<=k):=by rw[dle,Bool.eq_iff_iff];simp only[decide_eq_true_eq];omega
theorem nI{d:Dt}(hw:WV d)(m:Nat)(hm:3*d.bulk+300<=m)(hb:d.bulk<=100000000000):yD (m+3) d=some (okV d):=by have h1:yK (m+2) d=some ((min (nds d) (1024+1):Nat):Int):=ZB hw (by omega) m (by omega);have h2:yM (m+2) d=some ((min (dpt d) (16+1):Nat):Int):=ZF hw (by omega) m (by omega);have h3:qC (m+2) d=some (bX nm d.bulk d):=Hq d.bulk d (aL _) (by omega) hw (m+1) (by omega);have l1:decide (((min (nds d) (1024+1):Nat):Int)<=1024)=decide (nds d<=1024):=lim _ 1024 (by omega);have l2:decide (((min (dpt d) (16+1):Nat):Int)<=16)=decide (dpt d<=16):=lim _ 16 (by omega);simp only[yD,h1,h2,h3,ah,l1,l2,okV];cases decide (nds d<=1024)<;>cases decide (dpt d<=16)<;>rfl
theorem iC{d:Dt}(hw:WV d)(m:Nat)(hm:2*d.bulk+300<=m)(hm2:m<9223372036854775000)(hb:d.bulk<=100000000000):yC (m+4) d=some (okV d):=by have h1:yO (m+3) d=some ((min (nds d) (1024+1):Nat):Int):=ZA hw (by omega) m (by omega);have h2:yN (m+3) d=some ((min (dpt d) (16+1):Nat):Int):=ZE hw (by omega) m (by omega);have h3:qD (m+3) d true=some (bX nm d.bulk d):=Dv true d.bulk d (aL _) (by omega) hw (m+2) (by omega) (by omega);have l1:decide (((min (nds d) (1024+1):Nat):Int)<=1024)=decide (nds d<=1024):=lim _ 1024 (by omega);have l2:decide (((min (dpt d) (16+1):Nat):Int)<=16)=decide (dpt d<=16):=lim _ 16 (by omega);simp only[yC,h1,h2,h3,ah,l1,l2,okV];cases decide (nds d<=1024)<;>cases decide (dpt d<=16)<;>rfl
end Go.Proofs.YtmecfjhdnbgfeaaGreatDoor
namespace Go.Proofs.YtmecfjhdnbgfeaaGreatDoor
open IntKind (wrap)
open Go.Am Dt
theorem auL(k u:Nat):gr (k+1) u=if u<128 then 0 else gr k (u/128)+1:=rfl
theorem Wv:∀k u,u<128^(k+1)->gr (k+1) u=gr k u
 |0,u,h=>by
  have:u<128:=by simpa using h
  rw[auL,if_pos this];rfl
 |k+1,u,h=>by
  have a:=auL (k+1) u;have b:=auL k u;by_cases hu:u<128
  ·rw[if_pos hu]at a b;rw[a,b]
  ·rw[if_neg hu]at a b;rw[a,b,Wv k (u/128) (Nat.div_lt_of_lt_mul (by rw[Nat.pow_succ,Nat.mul_comm]at h;exact h))]
theorem bL(x:Int):(strOfNums [x]).size=1:=by rw[strOfNums_size];rfl
theorem dU{a b:Nat}(h:a+b<=1152921504606846976):Nat.ble (a+b) 1152921504606846976=true:=Nat.ble_eq_true_of_le h
theorem RS(m:Nat):∀(K M u:Nat)(s:ByteArray),K<=10->K<M->u<18446744073709551616->s.size+K+20<=1000000000000000->∃t,wD m M (u:Int) s ((10-K:Nat):Int)=some t∧t.size=s.size+gr K u+1
 |_,0,_,_,_,h,_,_=>by omega
 |0,M+1,u,s,_,_,_,hs=>by have e:decide (((10-0:Nat):Int)<10)=false:=rfl;rw[wD,e,cond_false];simp only[J6,J7,EN,J8,EO,bL,dU (show s.size+1<=1152921504606846976 by omega),cond_true];exact⟨_,rfl,by rw[ByteArray.size_append,bL,gr]⟩
 |K+    1,M+1,u,s,hK,hM,hu,hs=>by
  have e:decide (((10-(K+1):Nat):Int)<10)=true:=decide_eq_true (by omega);rw[wD,e,cond_true,gr];by_cases h:u<128
  ·rw[decide_eq_false (by omega),cond_false,if_pos h];simp only[J6,J7,EN,J8,EO,bL,dU (show s.size+1<=1152921504606846976 by omega),cond_true];exact⟨_,rfl,by rw[ByteArray.size_append,bL]⟩
  ·rw[decide_eq_true (by omega),cond_true,if_neg h];have e1:wrap IntKind.u64 (Int.tdiv (u:Int) 128)=((u/128:Nat):Int):=by rw[show Int.tdiv (u:Int) 128=((u/128:Nat):Int)from rfl,fA];omega
   have e2:wrap IntKind.i64 (((10-(K+1):Nat):Int)+1)=((10-K:Nat):Int):=by rw[bF (by omega)];congr 1;omega
   simp only[J6,J7,EN,J8,EO,bL,dU (show s.size+1<=1152921504606846976 by omega),cond_true,e1,e2];by_cases hK':K=0
   ·    subst hK';obtain⟨t,t1,t2⟩:=RS m 0 M (u/128) (s++strOfNums [orI IntKind.u8 (wrap IntKind.u8 (Int.tmod (u:Int) 128)) 128]) (by omega) (by omega) (by omega) (by rw[ByteArray.size_append,bL];omega);exact⟨t,t1,by rw[t2,ByteArray.size_append,bL];omega⟩
   ·    obtain⟨t,t1,t2⟩:=RS m K M (u/128) (s++strOfNums [orI IntKind.u8 (wrap IntKind.u8 (Int.tmod (u:Int) 128)) 128]) (by omega) (by omega) (by omega) (by rw[ByteArray.size_append,bL];omega);exact⟨t,t1,by rw[t2,ByteArray.size_append,bL];omega⟩
theorem amr(x:Nat)(h:x<18446744073709551616):complI IntKind.u64 (x:Int)=((18446744073709551615-x:Nat):Int):=by
 have e1:complI IntKind.u64 (x:Int)=wrap IntKind.u64 (((BitVec.ofInt 64 18446744073709551615^^^BitVec.ofInt 64 (x:Int)).toNat:Nat):Int):=rfl;have e5:((BitVec.ofInt 64 18446744073709551615^^^BitVec.ofInt 64 (x:Int)).toNat:Int)=((18446744073709551615-x:Nat):Int):=by
  have e6:BitVec.ofInt 64 18446744073709551615=BitVec.allOnes 64:=by decide
  have:(BitVec.ofInt 64 18446744073709551615^^^BitVec.ofInt 64 (x:Int))= ~~~ BitVec.ofInt 64 (x:Int):=by rw[e6,BitVec.xor_comm,BitVec.xor_allOnes]
  rw[this,BitVec.toNat_not,BitVec.toNat_ofInt];omega
 rw[e1,e5,fA];omega
theorem tY(m:Nat)(hm:12<=m)(n:Int)(h1: -9223372036854775808<=n)(h2:n<=9223372036854775807):∃t,zF (m+1) n=some t∧t.size=eU n:=by
 have hz:=OV h1 h2;have hl:shlI IntKind.u64 (wrap IntKind.u64 n) (1:Int)=wrap IntKind.u64 (wrap IntKind.u64 n*2):=rfl;have go:∃t,wD m (m+1) ((zz n:Nat):Int) (ByteArray.mk (List.toArray [])) ((10-10:Nat):Int)=some t∧t.size=(ByteArray.mk (List.toArray [])).size+gr 10 (zz n)+1:=RS m 10 (m+1) (zz n) (ByteArray.mk (List.toArray [])) (by omega) (by omega) hz (by show 0+10+20<=_;omega);obtain⟨t,t1,t2⟩:=go;refine⟨t,?_,?_⟩
 ·rw[   zF,hl];by_cases h:n<0
  ·have e2:wrap IntKind.u64 n=n+18446744073709551616:=by rw[fA];omega
   have e3:wrap IntKind.u64 ((n+18446744073709551616)*2)=((18446744073709551615-zz n:Nat):Int):=by rw[fA];unfold zz;rw[if_neg (by omega)];omega
   rw[decide_eq_true h,cond_true,e2,e3,amr _ (by omega),show 18446744073709551615-(18446744073709551615-zz n)=zz n by omega];exact t1
  ·have e2:wrap IntKind.u64 n=n:=by rw[fA];omega
   have e3:wrap IntKind.u64 (n*2)=((zz n:Nat):Int):=by rw[fA];unfold zz;rw[if_pos (by omega)];omega
   rw[decide_eq_false h,cond_false,e2,e3];exact t1
 ·rw[t2,Wv 9 (zz n) (by rw[show (128:Nat)^(9+1)=1180591620717411303424 from by decide];omega)];show 0+gr 9 (zz n)+1=_;unfold eU;omega
theorem asr(m:Nat)(self:Dt->Option ByteArray)(d:Dt)(g:Dt->Nat)(hl:(L d 3).length<1000000000000)(hs:∀e∈L d 3,∃t,self e=some t∧t.size=g e):∀(M i:Nat)(s:ByteArray),i<=(L d 3).length->(L d 3).length-i<M->s.size+(((L d 3).drop i).map g).sum<1000000000000->∃t,EP m self M s (i:Int) d=some t∧t.size=s.size+(((L d 3).drop i).map g).sum
 |0,i,s,_,h,_=>by omega
 |M+1,i,s,hi,h,hb=>by
  simp only[EP,dlt];by_cases hlt:i<(L d 3).length
  ·rw[ay hlt,List.map_cons,List.sum_cons]at hb ⊢
   obtain⟨r,r1,r2⟩:=hs _ (aD hlt);simp only[hlt,decide_true,cond_true,jU,Ao,Ap,Aq,p9,Ar,Au,wE,wF,bg hlt,ah,r1,dU (show s.size+r.size<=1152921504606846976 by omega),bF (show i<9223372036854775807 by omega)];obtain⟨t,t1,t2⟩:=asr m self d g hl hs M (i+1) (s++r) (by omega) (by omega) (by rw[ByteArray.size_append];omega);exact⟨t,t1,by rw[t2,ByteArray.size_append,r2];omega⟩
  ·have:(L d 3).drop i=[]:=List.drop_eq_nil_of_le (by omega);exact⟨s,by simp[hlt,jU,Ao,Ap,Aq,p9,Ar,Au,wE,wF],by simp[this]⟩
theorem ams(m:Nat)(hm:12<=m)(self:Dt->Option ByteArray)(d:Dt)(g:Dt->Nat)(hl:(L d 4).length<1000000000000)(hz:∀f∈L d 4,(S f 0).size<1000000000000)(hs:∀f∈L d 4,∃t,self (fld f 1)=some t∧t.size=g f):∀(M i:Nat)(s:ByteArray),i<=(L d 4).length->(L d 4).length-i<M->s.size+(((L d 4).drop i).map fun f=>eU (S f 0).size+(S f 0).size+g f).sum<1000000000000->∃t,ER (m+1) self M s (i:Int) d=some t∧t.size=s.size+(((L d 4).drop i).map fun f=>eU (S f 0).size+(S f 0).size+g f).sum
 |0,i,s,_,h,_=>by omega
 |M+1,i,s,hi,h,hb=>by
  simp only[ER,dlt];by_cases hlt:i<(L d 4).length
  ·rw[ay hlt,List.map_cons,List.sum_cons]at hb ⊢
   obtain⟨n,n1,n2⟩:=tY m hm (S (L d 4)[i] 0).size (by omega) (by have:=hz _ (aD hlt);omega);obtain⟨r,r1,r2⟩:=hs _ (aD hlt);simp only[hlt,decide_true,cond_true,jU,Ao,Ap,Aq,p9,Ar,Au,wE,wF,bg hlt,ah,n1,r1,ByteArray.size_append,dU (show s.size+n.size<=1152921504606846976 by omega),dU (show s.size+n.size+(S (L d 4)[i] 0).size<=1152921504606846976 by omega),dU (show s.size+n.size+(S (L d 4)[i] 0).size+r.size<=1152921504606846976 by omega),bF (show i<9223372036854775807 by omega)];obtain⟨t,t1,t2⟩:=ams m hm self d g hl hz hs M (i+1) (s++n++S (L d 4)[i] 0++r) (by omega) (by omega) (by rw[ByteArray.size_append,ByteArray.size_append,ByteArray.size_append];omega);exact⟨t,t1,by rw[t2,ByteArray.size_append,ByteArray.size_append,ByteArray.size_append,r2,n2];omega⟩
  ·have:(L d 4).drop i=[]:=List.drop_eq_nil_of_le (by omega);exact⟨s,by simp[hlt,jU,Ao,Ap,Aq,p9,Ar,Au,wE,wF],by simp[this]⟩
theorem tZ:∀(N:Nat)(d:Dt),WV d->WR d->d.bulk<=N->N<=100000000000->∀m,N+30<=m->∃t,qI (m+1) d=some t∧t.size=fD N d
 |0,d,_,_,h,_,_,_=>by have:=bV d;omega
 |N+1,d,hw,hr,h,hN,m,hm=>by
  obtain⟨p1,p2,p3,p4⟩:=bU hw;obtain⟨r1,r3,r4⟩:=iP hr;have hz:=jC hw;have hle:=yt (N+1) d hw;obtain⟨q,rfl⟩:∃q,m=q+1:=⟨m-1,by omega⟩;have k3:=asr (q+1) (qI (q+1)) d (fD N) (by omega) (fun e he=>tZ N e (p3 e he).1 (r3 e he) (by have:=(p3 e he).2;omega) (by omega) q (by omega)) (q+2) 0;have k4:=ams q (by omega) (qI (q+1)) d (fun f=>fD N (fld f 1)) (by omega) (fun f hf=>by have:=jD hw f hf;have:=dh hf;omega) (fun f hf=>tZ N _ (p4 f hf).1 (r4 f hf) (by have:=(p4 f hf).2;omega) (by omega) q (by omega)) (q+2) 0;obtain⟨t1,a1,b1⟩:=tY q (by omega) (I d 1) r1.1 r1.2;obtain⟨t2,a2,b2⟩:=tY q (by omega) (S d 2).size (by omega) (by omega);obtain⟨t3,a3,b3⟩:=tY q (by omega) (L d 3).length (by omega) (by omega);obtain⟨t4,a4,b4⟩:=tY q (by omega) (L d 4).length (by omega) (by omega);have l1:=fB (I d 1);have l2:=fB (S d 2).size;have l3:=fB (L d 3).length;have l4:=fB (L d 4).length;rw[fD]at hle ⊢
  simp only[qI,jU,Ao,Ap,Aq,p9,Ar,Au,wE,wF];cases e3:(I d 0==3)
  case true=>
   simp only[cond_true,a1,ah,bL,dU (show 1+t1.size<=1152921504606846976 by omega)];exact⟨_,rfl,by rw[ByteArray.size_append,bL,b1]⟩
  cases e10:(I d 0==10)
  case true=>
   simp only[cond_true,cond_false,a1,ah,bL,dU (show 1+t1.size<=1152921504606846976 by omega)];exact⟨_,rfl,by rw[ByteArray.size_append,bL,b1]⟩
  cases e9:(I d 0==9)
  case true=>
   simp only[cond_true,cond_false,bL,dU (show 1+1<=1152921504606846976 by omega)];exact⟨_,rfl,by rw[ByteArray.size_append,bL,bL]⟩
  cases e4:(I d 0==4)
  case true=>
   simp only[cond_true,cond_false,a2,ah,ByteArray.size_append,bL,dU (show 1+t2.size<=1152921504606846976 by omega),dU (show 1+t2.size+(S d 2).size<=1152921504606846976 by omega)];exact⟨_,rfl,by rw[ByteArray.size_append,ByteArray.size_append,bL,b2];omega⟩
  cases e7:(I d 0==7)
  case true=>
   simp only[cond_true,cond_false,a2,ah,ByteArray.size_append,bL,dU (show 1+t2.size<=1152921504606846976 by omega),dU (show 1+t2.size+(S d 2).size<=1152921504606846976 by omega)];exact⟨_,rfl,by rw[ByteArray.size_append,ByteArray.size_append,bL,b2];omega⟩
  cases e8:(I d 0==8)
  case true=>
   simp only[cond_true,cond_false,bL,dU (show 1+(S d 2).size<=1152921504606846976 by omega)];exact⟨_,rfl,by rw[ByteArray.size_append,bL]⟩
  cases e6:(I d 0==6)
  case true=>
   simp only[e3,e10,e9,e4,e7,e8,e6,cond_true,cond_false]at hle;simp only[cond_true,cond_false,a3,ah,bL,dU (show 1+t3.size<=1152921504606846976 by omega)];obtain⟨t,g1,g2⟩:=k3 (strOfNums [wrap IntKind.u8 (I d 0)]++t3) (aN _) (by omega) (by rw[aK,ByteArray.size_append,bL];omega);rw[aK,ByteArray.size_append,bL,b3,Nat.add_assoc]at g2;exact⟨t,g1,g2⟩
  cases e5:(I d 0==5)
  case true=>
   simp only[e3,e10,e9,e4,e7,e8,e6,e5,cond_true,cond_false]at hle;simp only[cond_true,cond_false,a4,ah,bL,dU (show 1+t4.size<=1152921504606846976 by omega)];obtain⟨t,g1,g2⟩:=k4 (strOfNums [wrap IntKind.u8 (I d 0)]++t4) (aN _) (by omega) (by rw[aK,ByteArray.size_append,bL];omega);rw[aK,ByteArray.size_append,bL,b4,Nat.add_assoc]at g2;exact⟨t,g1,g2⟩
  simp only[cond_false];exact⟨_,rfl,bL _⟩
noncomputable def lenD(d:Dt):Nat:=fD 1048576 d
theorem RU{d:Dt}(hw:WV d)(hr:WR d)(hb:d.bulk<=1048576)(hv:okV d=true)(m:Nat)(hm:4000000<=m)(hm2:m<9000000000000000000):yE (m+6) d=some ((lenD d:Int),0):=by obtain⟨t,t1,t2⟩:=tZ 1048576 d hw hr hb (by omega) (m+3) (by omega);rw[yE,zY,iC hw m (by omega) (by omega) (by omega),hv,ah];simp only[Bool.not_true,cond_false,SE,t1,ah,t2];rfl
end Go.Proofs.YtmecfjhdnbgfeaaGreatDoor
namespace Go.Proofs.YtmecfjhdnbgfeaaGreatDoor
open Go.Am Dt
def fi(s:ByteArray):List Dt->Option Nat
 | []=>none
 |f::r=>bif ByteArray.toList (S f 0)==ByteArray.toList s then some 0 else(fi s r).map (· +1)
def oI(i:Nat):Option Nat->Int
 |some k=>((i+k:Nat):Int)
 |none=> -1
theorem JC(i:Nat)(o:Option Nat):oI i (o.map (· +1))=oI (i+1) o:=by cases o<;>simp[oI];omega
theorem Dx{s:ByteArray}:∀{L:List Dt}{k:Nat},fi s L=some k->k<L.length
 | [],k,h=>by cases h
 |f::r,k,h=>by
  rw[fi]at h;cases hc:(ByteArray.toList (S f 0)==ByteArray.toList s)with
  |true=>rw[hc]at h;cases h;simp
  |false=>
   rw[hc,cond_false]at h;cases hr:fi s r with
   |none=>rw[hr]at h;cases h
   |some j=>rw[hr]at h;cases h;have:=Dx hr;simp;omega
theorem amt(m:Nat)(s:ByteArray)(L:List Dt)(hl:L.length<9223372036854775807):∀(M i:Nat),i<=L.length->L.length-i<M->Ee m M L s (L.length:Int) (i:Int)=some (oI i (fi s (L.drop i)))
 |0,i,_,h=>by omega
 |M+    1,i,hi,h=>by
  simp only[Ee,dlt];by_cases hlt:i<L.length
  ·rw[ay hlt];simp only[hlt,decide_true,cond_true,ZR,ZQ,bg hlt,ah,fi,bF (show i<9223372036854775807 by omega)];cases (ByteArray.toList (S L[i] 0)==ByteArray.toList s)
   ·    simp only[cond_false];rw[amt m s L hl M (i+1) (by omega) (by omega),JC]
   ·simp[oI]
  ·have e:i=L.length:=by omega
   subst e;simp[ZT,fi,oI]
theorem asu(m:Nat)(s:ByteArray)(L:List Dt)(hm:L.length<=m)(hm2:m<9223372036854775807):zM (m+1) L s=some (oI 0 (fi s L)):=by have h:=amt m s L (by omega) (m+1) 0 (aN _) (by omega);rw[aK]at h;exact h
def dgs(a:Nat):List UInt8->Option Nat
 | []=>some a
 |c::r=>if 48<=c.toNat∧c.toNat<=57 then dgs (10*a+(c.toNat-48)) r else none
def nu(s:ByteArray):Option Nat:=
 if s.size<1∨4<s.size then none else if(s.data.toList.head?.map (·.toNat))=some 48∧1<s.size then none else dgs 0 s.data.toList
def oP:Option Nat->Int×Bool
 |some k=>((k:Int),true)
 |none=>(0,false)
theorem ayd{x:Int}(h0:0<=x)(h1:x<256):IntKind.wrap IntKind.u8 x=x:=by unfold IntKind.wrap;simp only[IntKind.bits,IntKind.signed,Bool.false_and,Bool.false_eq_true,if_false];omega
theorem Pf{n c:Nat}(hn:n<10000)(h1:48<=c)(h2:c<=57):IntKind.wrap IntKind.i64 ((IntKind.wrap IntKind.i64 ((10:Int)*(n:Int)))+(IntKind.wrap IntKind.i64 (IntKind.wrap IntKind.u8 ((c:Int)-(48:Int)))))=((10*n+(c-48):Nat):Int):=by rw[ayd (by omega) (by omega),wrap64 (n:=(10:Int)*(n:Int)) (by omega) (by omega),wrap64 (n:=(c:Int)-48) (by omega) (by omega),wrap64 (by omega) (by omega)];omega
theorem Dy(m:Nat)(s:ByteArray)(hs:s.size<=4):∀(M i n:Nat),i<=s.size->s.size-i<M->n<10^i->Ef m M s (n:Int) (s.size:Int) (i:Int)=some (oP (dgs n (s.data.toList.drop i)))
 |0,i,_,_,h,_=>by omega
 |M+    1,i,n,hi,h,hn=>by
  have hp:10^i<=10^4:=Nat.pow_le_pow_right (by omega) (by omega);rw[Ef,dlt];by_cases hlt:i<s.size
  ·rw[   Du s i hlt,dgs,decide_eq_true hlt,cond_true,ZW,dW hlt,ah];by_cases h48:s[i].toNat<48
   ·    rw[decide_eq_true (show ((s[i].toNat:Nat):Int)<48 by omega),if_neg (by omega)];rfl
   ·    rw[decide_eq_false (show ¬((s[i].toNat:Nat):Int)<48 by omega),cond_false,ah];by_cases h57:57<s[i].toNat
        ·rw[decide_eq_true (show (57:Int)<((s[i].toNat:Nat):Int) by omega),if_neg (by omega)];rfl
        ·have e1:(10:Nat)^(i+1)=10*10^i:=by rw[Nat.pow_succ];omega
         rw[if_pos (by omega),decide_eq_false (show ¬(57:Int)<((s[i].toNat:Nat):Int) by omega),RY,cond_false,ZV,dW hlt,ah,Pf (by omega) (by omega) (by omega),ZU,bF (by omega)];exact Dy m s hs M (i+1) _ (by omega) (by omega) (by omega)
  ·have e:i=s.size:=by omega
   subst e;rw[decide_eq_false hlt,List.drop_eq_nil_of_le (by rw[wo];omega)];rfl
theorem Hw(m:Nat)(s:ByteArray)(hs:s.size<=4):∀(M i n:Nat),i<=s.size->s.size-i<M->n<10^i->Ez m M s (n:Int) (i:Int)=some (oP (dgs n (s.data.toList.drop i)))
 |0,i,_,_,h,_=>by omega
 |M+    1,i,n,hi,h,hn=>by
  have hp:10^i<=10^4:=Nat.pow_le_pow_right (by omega) (by omega);rw[Ez,dlt];by_cases hlt:i<s.size
  ·rw[   Du s i hlt,dgs,decide_eq_true hlt,cond_true,aaK,dW hlt,ah];by_cases h48:s[i].toNat<48
   ·    rw[decide_eq_true (show ((s[i].toNat:Nat):Int)<48 by omega),if_neg (by omega)];rfl
   ·    rw[decide_eq_false (show ¬((s[i].toNat:Nat):Int)<48 by omega),cond_false,ah];by_cases h57:57<s[i].toNat
        ·rw[decide_eq_true (show (57:Int)<((s[i].toNat:Nat):Int) by omega),if_neg (by omega)];rfl
        ·have e1:(10:Nat)^(i+1)=10*10^i:=by rw[Nat.pow_succ];omega
         rw[if_pos (by omega),decide_eq_false (show ¬(57:Int)<((s[i].toNat:Nat):Int) by omega),Sd,cond_false,aaJ,dW hlt,ah,Int.mul_comm ((n:Nat):Int) (10:Int),Pf (by omega) (by omega) (by omega),aaI,bF (by omega)];exact Hw m s hs M (i+1) _ (by omega) (by omega) (by omega)
  ·have e:i=s.size:=by omega
   subst e;rw[decide_eq_false hlt,List.drop_eq_nil_of_le (by rw[wo];omega)];rfl
theorem Ww(s:ByteArray)(h:0<s.size):s.data.toList.head?.map (·.toNat)=some s[0].toNat:=by have:=Du s 0 h;rw[aK]at this;rw[this];rfl
theorem Dz(m:Nat)(hm:4<=m)(s:ByteArray):zB (m+1) s=some (oP (nu s)):=by
 rw[zB,nu];by_cases h1:s.size<1
 ·rw[decide_eq_true (show ((s.size:Nat):Int)<1 by omega),cond_true,if_pos (.inl h1)];rfl
 rw[decide_eq_false (show ¬((s.size:Nat):Int)<1 by omega),cond_false];by_cases h4:4<s.size
 ·rw[decide_eq_true (show (4:Int)<((s.size:Nat):Int) by omega),cond_true,if_pos (.inr h4)];rfl
 have hi:idxS s (0:Int)=some ((s[0]).toNat:Int):=dW (i:=0) (by omega);have good:Eh m s false=some (oP (dgs 0 s.data.toList)):=Dy m s (by omega) (m+1) 0 0 (aN _) (by omega) (by decide);rw[decide_eq_false (show ¬(4:Int)<((s.size:Nat):Int) by omega),cond_false,hi,ah,if_neg (by omega),Ww s (by omega)];by_cases h48:(s[0]).toNat=48
 ·have e:(((s[0]).toNat:Int)==48)=true:=by rw[h48];rfl
  rw[e,cond_true];by_cases h2:1<s.size
  ·rw[decide_eq_true (show (1:Int)<((s.size:Nat):Int) by omega),if_pos ⟨by rw[h48],h2⟩];rfl
  ·rw[decide_eq_false (show ¬(1:Int)<((s.size:Nat):Int) by omega),if_neg (by omega)];exact good
 ·have e:(((s[0]).toNat:Int)==48)=false:=by rw[beq_eq_false_iff_ne];omega
  rw[e,cond_false,if_neg (by rintro⟨h,_⟩;exact h48 (Option.some.inj h))];exact good
theorem JD(m:Nat)(hm:4<=m)(s:ByteArray):qY (m+1) s=some (oP (nu s)):=by
 rw[qY,nu];by_cases h1:s.size<1
 ·rw[decide_eq_true (show ((s.size:Nat):Int)<1 by omega),cond_true,if_pos (.inl h1)];rfl
 rw[decide_eq_false (show ¬((s.size:Nat):Int)<1 by omega),cond_false];by_cases h4:4<s.size
 ·rw[decide_eq_true (show (4:Int)<((s.size:Nat):Int) by omega),cond_true,if_pos (.inr h4)];rfl
 have hi:idxS s (0:Int)=some ((s[0]).toNat:Int):=dW (i:=0) (by omega);have good:EA m s false=some (oP (dgs 0 s.data.toList)):=Hw m s (by omega) (m+1) 0 0 (aN _) (by omega) (by decide);rw[decide_eq_false (show ¬(4:Int)<((s.size:Nat):Int) by omega),cond_false,hi,ah,if_neg (by omega),Ww s (by omega)];by_cases h48:(s[0]).toNat=48
 ·have e:(((s[0]).toNat:Int)==48)=true:=by rw[h48];rfl
  rw[e,cond_true];by_cases h2:1<s.size
  ·rw[decide_eq_true (show (1:Int)<((s.size:Nat):Int) by omega),if_pos ⟨by rw[h48],h2⟩];rfl
  ·rw[decide_eq_false (show ¬(1:Int)<((s.size:Nat):Int) by omega),if_neg (by omega)];exact good
 ·have e:(((s[0]).toNat:Int)==48)=false:=by rw[beq_eq_false_iff_ne];omega
  rw[e,cond_false,if_neg (by rintro⟨h,_⟩;exact h48 (Option.some.inj h))];exact good
def mkV(v:Dt)(l fs:List Dt):Dt:= .agg [.int (I v 0),.int (I v 1),.str (S v 2),.lst l,.lst fs]
def chF(v:Dt)(k:Nat):Dt:=fld ((L v 4).getD k (.int 0)) 1
def JE(v:Dt)(k:Nat)(c:Dt):Dt:=mkV v (L v 3) ((L v 4).set k (.agg [.str (S ((L v 4).getD k (.int 0)) 0),c]))
def anX(v:Dt)(s:ByteArray)(c:Dt):Dt:=mkV v (L v 3) (L v 4++[.agg [.str s,c]])
theorem oI0(k:Nat):oI 0 (some k)=(k:Int):=by simp[oI]
theorem getD_lt{l:List Dt}{k:Nat}{z:Dt}(h:k<l.length):l.getD k z=l[k]:=by rw[List.getD,aB h];rfl
theorem wv6{d:Dt}(hw:WV d):6<=d.bulk:=by cases hw with|mk hl hd=>rw[dS];omega
theorem anY{v:Dt}(hw:WV v){k:Nat}(hk:k<(L v 4).length):chF v k=fld (L v 4)[k] 1∧WV (chF v k)∧(chF v k).bulk<v.bulk:=by
 have e:chF v k=fld (L v 4)[k] 1:=by unfold chF;rw[getD_lt hk]
 rw[e];exact⟨rfl,(bU hw).2.2.2 _ (aD hk)⟩
theorem b5{k:Int}(h:k=5):(k==5)=true∧(k !=5)=false:=by subst h;exact⟨rfl,rfl⟩
theorem b5n{k:Int}(h:k≠5):(k==5)=false∧(k !=5)=true:=by simp[h]
theorem b6{k:Int}(h:k=6):(k==5)=false∧(k !=5)=true∧(k==6)=true∧(k !=6)=false:=by subst h;exact⟨rfl,rfl,rfl,rfl⟩
theorem b6n{k:Int}(h:k≠6):(k==6)=false∧(k !=6)=true:=by simp[h]
theorem dn1:decide ((0:Int)<= -1)=false:=rfl
theorem dn2:decide ((-1:Int)<0)=true:=rfl
theorem dp1(k:Nat):decide ((0:Int)<=(k:Int))=true:=decide_eq_true (by omega)
theorem dp2(k:Nat):decide ((k:Int)<0)=false:=decide_eq_false (by omega)
theorem oIn:oI 0 none= -1:=rfl
theorem oP1(n:Nat):oP (some n)=((n:Int),true):=rfl
theorem oPn:oP none=(0,false):=rfl
theorem aye(m:Nat)(s:ByteArray)(v:Dt)(hl:(L v 4).length<9223372036854775807):∀(M i:Nat),i<=(L v 4).length->(L v 4).length-i<M->EB m M s (i:Int) v=some (oI i (fi s ((L v 4).drop i)))
 |0,i,_,h=>by omega
 |M+    1,i,hi,h=>by
  simp only[EB,dlt];by_cases hlt:i<(L v 4).length
  ·rw[ay hlt];simp only[hlt,decide_true,cond_true,aaM,aaL,bg hlt,ah,fi,bF (show i<9223372036854775807 by omega)];cases (ByteArray.toList (S (L v 4)[i] 0)==ByteArray.toList s)
   ·    simp only[cond_false];rw[aye m s v hl M (i+1) (by omega) (by omega),JC]
   ·simp[oI]
  ·have e:i=(L v 4).length:=by omega
   rw[e,List.drop_length];simp[aaN,fi,oI]
theorem at_eq(m:Nat)(s:ByteArray)(v:Dt)(h5:I v 0=5)(hm:(L v 4).length<=m)(hm2:m<9223372036854775807):zR (m+1) v s=some (oI 0 (fi s (L v 4))):=by have h:=aye m s v (by omega) (m+1) 0 (aN _) (by omega);rw[aK]at h;rw[zR,(b5 h5).2,cond_false];exact h
theorem iR{v:Dt}(hw:WV v):(∀e∈L v 3,WV e)∧(∀f∈L v 4,WF f)∧v.bulk=bulkL (L v 3)+bulkL (L v 4)+((S v 2).size+6):=by
 cases hw with
 |mk hl hd=>exact⟨hl,hd,dS⟩
theorem ayf{v:Dt}(hw:WV v){k:Nat}(hk:k<(L v 4).length):(L v 4)[k]= .agg [.str (S (L v 4)[k] 0),chF v k]∧(L v 4)[k].bulk=(chF v k).bulk+(S (L v 4)[k] 0).size+2:=by
 have h:=(iR hw).2.1 _ (aD hk);have hc:=(anY hw hk).1;rw[hc];generalize (L v 4)[k]=f at h;cases h with
 |mk h=>exact⟨rfl,gV⟩
theorem RX(v:Dt){l fs:List Dt}(hl:∀e∈l,WV e)(hd:∀f∈fs,WF f):WV (mkV v l fs):= .mk hl hd
theorem Pg(v:Dt)(l fs:List Dt):(mkV v l fs).bulk=bulkL l+bulkL fs+((S v 2).size+6):=dS
theorem Hy:∀{l:List Dt}{k:Nat}(x:Dt)(h:k<l.length),bulkL (l.set k x)+l[k].bulk=bulkL l+x.bulk
 |a::r,0,x,h=>by simp only[List.set_cons_zero,bulkL,List.getElem_cons_zero];omega
 |a::r,k+1,x,h=>by have:=Hy x (show k<r.length by simpa using h);simp only[List.set_cons_succ,bulkL,List.getElem_cons_succ];omega
theorem DC{l:List Dt}{k:Nat}{x e:Dt}{Q:Dt->Prop}(h:∀e∈l,Q e)(hx:Q x)(he:e∈l.set k x):Q e:=by
 rcases List.mem_or_eq_of_mem_set he with h'|rfl;·exact h _ h'
 ·exact hx
theorem Wx{v c:Dt}(hw:WV v)(hc:WV c)(k:Nat):WV (JE v k c):=RX v (iR hw).1 fun _ he=>DC (iR hw).2.1 (.mk hc) he
theorem ZG{v c:Dt}(hw:WV v){k:Nat}(hk:k<(L v 4).length):(JE v k c).bulk+(chF v k).bulk=v.bulk+c.bulk:=by have h1:=Hy (agg [.str (S (L v 4)[k] 0),c]) hk;have h2:=(ayf hw hk).2;rw[gV]at h1;rw[JE,Pg,getD_lt hk,(iR hw).2.2];omega
theorem amu(m:Nat)(s:ByteArray)(k:Nat)(v r z:Dt)(hl:(L v 4).length<=137438953472)(hk:k<(L v 4).length):∀(M i:Nat)(out:List Dt),i<=(L v 4).length->(L v 4).length-i<M->out.length<=i->
  wu m M s (k:Int) (i:Int) v r z out=some (mkV v (L v 3) (out++(if i<=k then((L v 4).drop i).set (k-i) (.agg [.str (S (L v 4)[k] 0),r])else(L v 4).drop i)))
 |0,i,_,_,h,_=>by omega
 |M+    1,i,out,hi,h,ho=>by
  simp only[wu,dlt];by_cases hlt:i<(L v 4).length
  ·rw[   ay hlt];have ha:∀e:Dt,app out [e]=some (out++[e]):=fun e=>gZ (by simp;omega);simp only[hlt,decide_true,cond_true,Si,JM,Sg,bg hlt,ah,bF (show i<9223372036854775807 by omega),ha];by_cases hik:i=k
   ·    subst hik;rw[show ((i:Int)==(i:Int))=true by simp,cond_true,amu m s i v r z hl hk M (i+1) _ (by omega) (by omega) (by simp;omega),if_neg (by omega),if_pos (aL _),Nat.sub_self,List.set_cons_zero];simp
   ·    rw[show ((i:Int)==(k:Int))=false by simp;omega,cond_false,amu m s k v r z hl hk M (i+1) _ (by omega) (by omega) (by simp;omega)];by_cases hik':i<=k
        ·rw[if_pos hik',if_pos (by omega),show k-i=(k-(i+1))+1 by omega,List.set_cons_succ];simp
        ·rw[if_neg hik',if_neg (by omega)];simp
  ·have e:i=(L v 4).length:=by omega
   rw[e,List.drop_length];simp only[Nat.lt_irrefl,decide_false,cond_false,Sj,dp2,JN];split<;>simp[mkV]
theorem amv(m:Nat)(s:ByteArray)(v r z:Dt)(hl:(L v 4).length<137438953472):∀(M i:Nat)(out:List Dt),i<=(L v 4).length->(L v 4).length-i<M->out.length<=i->
  wu m M s (-1) (i:Int) v r z out=some (mkV v (L v 3) (out++(L v 4).drop i++[.agg [.str s,r]]))
 |0,i,_,_,h,_=>by omega
 |M+1,i,out,hi,h,ho=>by
  simp only[wu,dlt];by_cases hlt:i<(L v 4).length
  ·rw[ay hlt];have ha:∀e:Dt,app out [e]=some (out++[e]):=fun e=>gZ (by simp;omega);simp only[hlt,decide_true,cond_true,Si,JM,Sg,bg hlt,ah,bF (show i<9223372036854775807 by omega),ha];rw[show ((i:Int)==(-1:Int))=false by rw[beq_eq_false_iff_ne];omega,cond_false,amv m s v r z hl M (i+1) _ (by omega) (by omega) (by simp;omega)];simp
  ·have e:i=(L v 4).length:=by omega
   rw[e,List.drop_length];simp only[Nat.lt_irrefl,decide_false,cond_false,Sj,dn2,cond_true,gZ (show out.length+[agg [.str s,r]].length<=137438953472 by simp;omega),ah,JN];simp[mkV]
theorem Ph(m:Nat)(s:ByteArray)(v r:Dt)(k:Nat)(h5:I v 0=5)(hm:v.bulk<=m)(hb:v.bulk<=137438953472)(hm2:m<9223372036854775807)(h:fi s (L v 4)=some k):zD (m+2) v s r=some (JE v k r):=by have hn:=kE v 4;have hk:=Dx h;rw[zD,(b5 h5).2,cond_false,Sk,at_eq m s v h5 (by omega) hm2,h,oI0,ah];have:=amu (m+1) s k v r aX (by omega) hk (m+2) 0 [] (aN _) (by omega) (aN _);rw[aK,if_pos (aN _),Nat.sub_zero,List.nil_append]at this;rw[JE,getD_lt hk];exact this
theorem Pj(m:Nat)(s:ByteArray)(v r:Dt)(h5:I v 0=5)(hm:v.bulk<=m)(hb:v.bulk<=137438953472)(hm2:m<9223372036854775807)(h:fi s (L v 4)=none):zD (m+2) v s r=some (anX v s r):=by have hn:=kE v 4;rw[zD,(b5 h5).2,cond_false,Sk,at_eq m s v h5 (by omega) hm2,h,oIn,ah];have:=amv (m+1) s v r aX (by omega) (m+2) 0 [] (aN _) (by omega) (aN _);rw[aK,List.nil_append]at this;exact this
