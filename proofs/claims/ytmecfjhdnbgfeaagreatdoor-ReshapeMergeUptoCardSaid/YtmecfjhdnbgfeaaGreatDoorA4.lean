/- The abstract machine, part 16: calls.
The abstract machine,part 17:regions.
The abstract machine:a region of four operations whose two stores may come in either order.
The abstract machine,part 18:THE SOUNDNESS OF THE MACHINE.
The abstract machine,part 19:places in a function's code;results as plain values.
The abstract machine,part 20:values in their plain forms (a type's data as Lean values).
The abstract machine,part G:contracts as a table (a function's arguments and results by their kinds). -/
import Derived.Test.YtmecfjhdnbgfeaaGreatDoorA3
set_option linter.all false
namespace Go.Am
open Go.RowKit
def CallOK{R:Type}(P:Program)(call:FuncId->List AV->List Ob->(Res->Option R)->Option R):Prop:=∀f args objs K r,call f args objs K=some r->∃q:Res,K q=some r∧FX P f args objs q.1 q.2∧HasBody P f
theorem iK{Z:Nat->Option Nat}{c:Nat}:∀{os:List Ob}{src:List Nat}{nm:Nat}{hs:List Ob},c∉src->¬(nm<=c∧c<nm+(os.length-src.length))->lk (wrO hs (jr Z nm src os)) c=lk hs c
 | [],src,nm,hs,_,_=>by cases src<;>rfl
 |o::os,[],nm,hs,h1,h2=>by simp only[jr,wrO];rw[iK (by simp) (by simp only[List.length_cons,List.length_nil]at h2 ⊢;omega),aS];intro e;subst e;simp only[List.length_cons,List.length_nil]at h2;omega
 |o::os,l::src,nm,hs,h1,h2=>by simp only[List.mem_cons,not_or]at h1;simp only[jr,wrO];rw[iK h1.2 (by simp only[List.length_cons]at h2 ⊢;omega),aS _ _ _ _ h1.1]
theorem FH{Z:Nat->Option Nat}:∀{os:List Ob}{src:List Nat}{nm:Nat}{hs:List Ob}{i l:Nat},src.Nodup->(∀l∈src,¬(nm<=l∧l<nm+(os.length-src.length)))->src.length<=os.length->src[i]? =some l->lk (wrO hs (jr Z nm src os)) l=(lk os i).ren Z
 | [],src,nm,hs,i,l,_,_,h3,h4=>by have:src=[]:=List.eq_nil_of_length_eq_zero (by simpa using h3);subst this;simp at h4
 |o::os,[],nm,hs,i,l,_,_,_,h4=>by simp at h4
 | o::os,m::src,nm,hs,i,l,h1,h2,h3,h4=>by
   obtain⟨hm,hnd⟩:=List.nodup_cons.1 h1;simp only[jr,wrO];cases i with
   |zero=>
    simp only[aO,aA]at h4;subst h4;rw[iK hm (by have:=h2 m (by simp);simp only[List.length_cons]at this ⊢;omega),bH];rfl
   |succ i=>
    simp only[aR]at h4;rw[FH hnd (fun l hl=>by have:=h2 l (by simp[hl]);simp only[List.length_cons]at this ⊢;omega) (by simpa using h3) h4];rfl
theorem uZ{Z:Nat->Option Nat}:∀{os:List Ob}{src:List Nat}{nm:Nat}{hs:List Ob}{j:Nat},(∀l∈src,¬(nm<=l∧l<nm+(os.length-src.length)))->src.length<=j->j<os.length->lk (wrO hs (jr Z nm src os)) (nm+(j-src.length))=(lk os j).ren Z
 | [],src,nm,hs,j,_,_,h3=>by simp at h3
 |o::os,[],nm,hs,j,h1,h2,h3=>by
  simp only[jr,wrO];cases j with
  |zero=>
   simp only[List.length_nil,Nat.sub_zero,Nat.add_zero];rw[iK (by simp) (by simp only[List.length_nil];omega),bH];rfl
  |succ j=>
   have:=uZ (Z:=Z) (os:=os) (src:=[]) (nm:=nm+1) (hs:=aV hs nm (o.ren Z)) (j:=j) (by simp) (by simp) (by simpa using h3);simp only[List.length_nil,Nat.sub_zero]at this ⊢
   rw[show nm+(j+1)=nm+1+j by omega,this];rfl
 |o::os,m::src,nm,hs,j,h1,h2,h3=>by
  simp only[jr,wrO];cases j with
  |zero=>simp at h2
  |succ j=>
   have:=uZ (Z:=Z) (os:=os) (src:=src) (nm:=nm) (hs:=aV hs m (o.ren Z)) (j:=j) (fun l hl=>by have:=h1 l (by simp[hl]);simp only[List.length_cons]at this ⊢;omega) (by simpa using h2) (by simpa using h3);simp only[List.length_cons]at this ⊢
   rw[show nm+(j+1-(src.length+1))=nm+(j-src.length) by omega,this];rfl
theorem ace{src:List Nat}{nm:Nat}{hs os:List Ob}(h1:src.Nodup)(h2:∀l∈src,¬(nm<=l∧l<nm+(os.length-src.length)))(h3:src.length<=os.length):BackH src nm hs os (wrO hs (jr (bkN src nm) nm src os)):=
 ⟨fun i l h=>FH h1 h2 h3 h,fun j h4 h5=>uZ h2 h4 h5,fun c h4 h5=>iK h4 h5⟩
theorem sw{hs:List Ob}:∀{src:List Nat},allNames hs src=true->∀l∈src,lk hs l≠ .free
 | [],_,l,hl=>by simp at hl
 |m::r,h,l,hl=>by
  unfold allNames at h;rcases List.mem_cons.1 hl with e|hl
  ·subst e;intro e;have:=aG h;rw[e]at this;cases this
  ·exact sw (aC h) l hl
theorem BN{l:Nat}:∀{m k:Nat},k<=l->l<k+m->l∈upto k m
 |0,k,h1,h2=>by omega
 |m+1,k,h1,h2=>by
  simp only[upto,List.mem_cons];by_cases h:l=k;·exact .inl h
  ·exact .inr (BN (by omega) (by omega))
theorem BO:∀(Ts:List TypeId)(hs:List Ob)(k:Nat),wrO hs (QF k Ts)=kN hs k Ts
 | [],_,_=>rfl
 |T::r,hs,k=>by simp only[QF,wrO,kN];exact BO r _ _
theorem u6:∀{Ts:List TypeId}{hs:List Ob}{k l:Nat},k+Ts.length<=l->lk hs l= .free->lk (kN hs k Ts) l= .free
 | [],_,_,_,_,h=>h
 |T::r,hs,k,l,h1,h2=>by simp only[List.length_cons]at h1;simp only[kN];refine u6 (by omega) ?_;rw[aS _ _ _ _ (by omega)];exact h2
theorem KJ(Z:Nat->Option Nat)(hs:List Ob):∀src:List Nat,(gT Z hs src).length=src.length
 | []=>rfl
 |_::r=>by simp[gT,KJ Z hs r]
section
variable{P:Program}{n:Nat}{o:Oper}{σ τ:St}{x y:Operand}{v:AV}{T:TypeId}{R:Type}{E:Env}{k:Dl->Option R}{r:R}{call:FuncId->List AV->List Ob->(Res->Option R)->Option R}
theorem WK(o:Ob):(om P o).isOwn=o.isOwn:=by
 unfold om;split
 ·split;·cases Nat.beq _ _<;>rfl
  ·rfl
 ·rfl
theorem WL{ok:Nat->Prop}{w:World}{β:Nat->Option Value}{v:Option Value}{o:Ob}(h:ObOK P ok w β o v):ObOK P ok w β (om P o) v:=by
 unfold om;split
 ·rename_i T c;split
  ·rename_i T' d hp;cases hb:Nat.beq T' T;·exact h
   ·    have e:=beq_eq hb;subst e;obtain⟨b,cs,h1,h2,h3,h4⟩:=h;have hrd:=dJ (hs:=[]) (fun l T es hl=>by cases l<;>cases hl) h4 hp;exact⟨b,cs,h1,h2,h3,.dat (by rw[rV hrd];exact hrd)⟩
  ·exact h
 ·exact h
theorem wN(os:List Ob)(l:Nat):lk (os.map (om P)) l=om P (lk os l):=by
 induction os generalizing l with
 |nil=>rfl
 |cons o r ih=>cases l with
  |zero=>rfl
  |succ l=>exact ih l
theorem acf{f:FuncId}{args:List AV}{b:Bool}{os hs':List Ob}{res:AV}(h:FX P f args (ap3 P b os) res hs'):FX P f args os res hs':=by
 cases b;·exact h
 replace h:FX P f args (os.map (om P)) res hs':=h;intro ok w β zs h1 h2 h3 h4 h5;have hown:∀l b,owns (os.map (om P)) β l b↔owns os β l b:=fun l b=>by simp only[owns,wN,WK]
 have hX:XO (os.map (om P)) β=XO os β:=by funext b;apply propext;exact⟨fun⟨l,hl⟩=>⟨l,(hown l b).1 hl⟩,fun⟨l,hl⟩=>⟨l,(hown l b).2 hl⟩⟩
 have hc:=h ok w β zs (fun b hb=>by rw[hX];exact h1 b hb) (fun l=>by rw[wN];exact WL (h2 l)) (fun l l' b q1 q2=>h3 l l' b ((hown _ _).1 q1) ((hown _ _).1 q2)) h4 h5;refine hc.mono ?_;rintro e w' ⟨v,β',rfl,hf,hr⟩;obtain⟨f1,f2,f3,f4,f5⟩:=hf;rw[hX,List.length_map]at f2 hr;rw[hX]at f1;exact⟨v,β',rfl,⟨f1,f2,f3,fun l b q=>by have:=f4 l b q;rwa [hX]at this,fun l hl=>f5 l (by rw[List.length_map];exact hl)⟩,hr⟩
theorem Iw{src:List Nat}{hs:List Ob}:∀(ws:List (Nat×Ob))(hs':List Ob),(ws.map (·.1)).Nodup->(∀l∈src,l∈ws.map (·.1)->lk hs' l=lk hs l)->∀l,lk (wrO hs' (af7 hs src ws)) l=lk (wrO hs' ws) l
 | [],_,_,_,_=>rfl
 |(k,o)::r,hs',hn,ha,l=>by
  simp only[List.map_cons,List.nodup_cons]at hn;unfold af7;cases hb:dZ k src&&af6 o (lk hs k)with
  |true=>
   simp only[cond_true];rw[Iw r hs' hn.2 (fun l h1 h2=>ha l h1 (aY _ h2)) l];have e1:lk hs' k=o:=by rw[ha k (ko.1 (aG hb)) (by simp),Ur (aC hb)]
   simp only[wrO];refine(fu (ls:=[l]) (fun c hc=>?_) l (by simp)).symm;rw[dM];split;·next h=>rw[h,e1]
   ·rfl
  |false=>
   simp only[cond_false,wrO];refine Iw r _ hn.2 (fun c h1 h2=>?_) l;rw[aS _ _ _ _ (fun e=>hn.1 (by rw[←e];exact h2))];exact ha c h1 (aY _ h2)
theorem acg{b:Bool}{src:List Nat}{hs hs':List Ob}{ws:List (Nat×Ob)}(ha:∀l∈src,lk hs' l=lk hs l)(l:Nat):lk (wrO hs' (keepW b hs src ws)) l=lk (wrO hs' ws) l:=by
 unfold keepW;cases hb:b&&nodupB (ws.map (·.1))with
 |true=>exact Iw ws hs' (fF (aC hb)) (fun c hc _=>ha c hc) l
 |false=>rfl
theorem Iy(hcall:CallOK P call){f:FuncId}{as:List AV}{hs1:List Ob}{rd0:List Nat}{wr0:List (Nat×Ob)}{nm:Nat}{src:List Nat}
  (h1:hs1=wrO σ.hs wr0)(hnm:σ.hs.length<=nm)(hfree:∀l,nm<=l->lk hs1 l= .free)
  (hpre:∀σ' rd,Agr o σ σ' (rd0++rd)->(∀l,σ.hs.length<=l->l<nm->l∈rd)->∀(K:OkX)(w0:World)(a:Act)(w:World),Rel P K w0 n σ' a w->σ.k0<=σ.hs.length->∃(β1:Nat->Option Value)(zs:List Value),RelB P K w0 n ⟨σ'.ts,wrO σ'.hs wr0,σ'.k0⟩ a w β1∧(HasBody P f->(execOp a.eval o).run P w= .ok (.enter f zs.toArray) w)∧RVsX P (okOf K w0 w (wrO σ'.hs wr0) β1) w β1 as zs)
  (h:gN P E call n o σ f as hs1 rd0 wr0 nm src k=some r):OpS P n o σ k r:=by
 unfold gN at h;have hh_:=aF h;clear h;obtain⟨hc,h⟩:=hh_;have hh_:=hcall _ _ _ _ _ h;clear h;obtain⟨q,h,hfx,hbody⟩:=hh_;replace hfx:=acf hfx;have hh_:=aF h;clear h;obtain⟨hc2,h⟩:=hh_;have hnd:=fF (aG hc);have hsf:=sw (aG (aC hc));have hk0:σ.k0<=σ.hs.length:=aI (aC (aC hc));have hlen:=aI (aG hc2);have hsrcnew:∀l∈src,¬(nm<=l∧l<nm+(q.2.length-src.length)):=fun l hl hc=>hsf l hl (hfree l hc.1);refine⟨_,h,fun σ' ag=>?_⟩;have hagr1:∀l∈src++upto σ.hs.length ((nm-σ.hs.length)+(q.2.length-src.length)),lk (wrO σ'.hs wr0) l=lk hs1 l:=by intro l hl;rw[h1];exact fu (ls:=src++upto σ.hs.length ((nm-σ.hs.length)+(q.2.length-src.length))) (fun l hl=>ag.hs l (List.mem_append_right _ hl)) l hl
 have hobj:∀i l,src[i]? =some l->lk (gT (ix src) hs1 src) i=(lk (wrO σ'.hs wr0) l).ren (ix src):=by intro i l hi;rw[xV,hi];simp only[Jb];rw[hagr1 l (aU _ (aM hi))]
 have hfr:∀j,j<q.2.length-src.length->lk (wrO σ'.hs wr0) (nm+j)= .free:=by intro j hj;rw[hagr1 _ (List.mem_append_right _ (BN (by omega) (by omega)))];exact hfree _ (by omega)
 have hsf':∀l∈src,lk (wrO σ'.hs wr0) l≠ .free:=fun l hl=>by rw[hagr1 l (aU _ hl)];exact hsf l hl
 intro K w0 a w rr Kt Q hK;obtain⟨β1,zs,r1,hrun,ha⟩:=hpre σ' _ ag (fun l h3 h4=>List.mem_append_right _ (BN h3 (by omega))) K w0 a w rr hk0;have hback:=ace (hs:=wrO σ'.hs wr0) hnd hsrcnew hlen;refine agJ (σ:=St.mk σ'.ts (wrO σ'.hs wr0) σ'.k0) (as:=as) (res:=q.1) (hrun hbody) hnd (KJ _ _ _) hobj hfx hfr (by show σ'.k0<=nm;rw[ag.k0];omega) hsf' hback r1 ha Kt Q fun z w' β'' h3 h4=>hK _ _ ?_;have hI:Imp P n (σ'.app o.dst ⟨o.dst.map fun _=>q.1.ren (bkN src nm),rd0++(src++upto σ.hs.length ((nm-σ.hs.length)+(q.2.length-src.length))),wr0++jr (bkN src nm) nm src q.2⟩) (σ'.app o.dst ⟨o.dst.map fun _=>q.1.ren (bkN src nm),rd0++(src++upto σ.hs.length ((nm-σ.hs.length)+(q.2.length-src.length))),wr0++keepW (E.rdo f) hs1 src (jr (bkN src nm) nm src q.2)⟩):=by refine Rel.congr (fun k=> .inr rfl) (fun l=>?_) rfl;unfold St.app;simp only;rw[fO,fO];exact acg (fun c hc=>hagr1 c (aU _ hc)) l
 refine hI _ _ _ _ ?_;unfold St.app;simp only;rw[fO];cases hd:o.dst with
 |none=>exact⟨β'',h3⟩
 |some d=>
  have hn:d<n:=by have:=aC hc2;unfold XR at this;rw[hd]at this;exact aI this
  exact Rel.put h3 hn h4
theorem Qs(hcall:CallOK P call){g:Operand}{xs:Array Operand}{Ts:Array TypeId}{f:FuncId}{as caps:List AV}{hs1:List Ob}{rd0:List Nat}{wr0:List (Nat×Ob)}{nm:Nat}{src:List Nat}(ho:o.op= .call ⟨.value g,xs,Ts⟩)(hcap:∀v∈caps,v.isAgg P=false∧∀us,v≠ .tup us)
  (h1:hs1=wrO σ.hs wr0)(hnm:σ.hs.length<=nm)(hfree:∀l,nm<=l->lk hs1 l= .free)
  (hpre:∀σ' rd,Agr o σ σ' (rd0++rd)->(∀l,σ.hs.length<=l->l<nm->l∈rd)->∀(K:OkX)(w0:World)(a:Act)(w:World),Rel P K w0 n σ' a w->σ.k0<=σ.hs.length->∃β1,RelB P K w0 n ⟨σ'.ts,wrO σ'.hs wr0,σ'.k0⟩ a w β1∧RV P (okOf K w0 w (wrO σ'.hs wr0) β1) w β1 (.fn f caps) (a.eval g)∧RVsX P (okOf K w0 w (wrO σ'.hs wr0) β1) w β1 as (xs.toList.map a.eval))
  (h:gN P E call n o σ f (as++caps) hs1 rd0 wr0 nm src k=some r):OpS P n o σ k r:=by
 refine Iy hcall h1 hnm hfree (fun σ' rd ag hin K w0 a w rr hk0=>?_) h;obtain⟨β1,r1,hg,ha⟩:=hpre σ' rd ag hin K w0 a w rr hk0;obtain⟨cv,ecv,hcv⟩:=MI hg hcap;exact⟨β1,_,r1,fun hb=>Gm (xs:=xs.toList) (by rw[ho]) hb a w ecv,ha.app hcv⟩
theorem RVsX.map_pk{b:Bool}{ok:Nat->Prop}{w:World}{β:Nat->Option Value}{hs:List Ob}{vs:List AV}{zs:List Value}(hf:lI P ok w β hs)(hfa:∀l T es,lk hs l= .frz T es->bS P T=false)(h:RVsX P ok w β vs zs):RVsX P ok w β (vs.map (pkA P b hs)) zs:=by
 induction h with
 |nil=>exact .nil
 |cons h _ ih=>
  refine .cons ?_ ih;unfold pkA;cases (b&&IG _)with
  |true=>exact h
  |false=>
  simp only[cond_false];split;·rename_i T d hp;exact h.pk hf hfa hp
  ·exact h
theorem RVsX.n2r{ok:Nat->Prop}{w:World}{β:Nat->Option Value}{vs:List AV}{zs:List Value}(h:RVsX P ok w β vs zs):∀k,vX β k (AV.n2rL P vs k).2.length->RVsX P ok w β (AV.n2rL P vs k).1 zs:=by
 induction h with
 |nil=>intro k _;exact .nil
 |cons h _ ih=>
  intro k hb;simp only[AV.n2rL,aT]at hb ⊢
  exact .cons (h.n2r k hb.left) (ih _ hb.right)
theorem RV.dn{ok:Nat->Prop}{w:World}{β:Nat->Option Value}{v:AV}{z:Value}(h:RV P ok w β v z):RV P ok w β (dn1 P v) z:=by
 unfold dn1;split
 ·split
  ·rename_i hu;have h1:=h.2 rfl;cases h1 with
   |nils=>exact(RV.dat_one (bQ hu rfl)).2 (RD.nil hu)
  ·exact h
 ·exact h
theorem RVsX.dn{ok:Nat->Prop}{w:World}{β:Nat->Option Value}{vs:List AV}{zs:List Value}(ps:List Nat)(h:RVsX P ok w β vs zs):∀k,RVsX P ok w β (dnL P ps k vs) zs:=by
 induction h with
 |nil=>intro k;exact .nil
 |cons h _ ih=>
  intro k;refine .cons ?_ (ih _);cases dZ k ps;·exact h
  ·exact h.dn
theorem RVsX.mono{ok ok':Nat->Prop}{w w':World}{β β':Nat->Option Value}{vs:List AV}{zs:List Value}(h:RVsX P ok w β vs zs)(hk:∀b,ok b->ok' b∧w'.heap[b]? =w.heap[b]?)(hβ:Ext β β'):RVsX P ok' w' β' vs zs:=by
 induction h with
 |nil=>exact .nil
 |cons h _ ih=>exact .cons (h.mono hk hβ) ih
theorem xP(P:Program):∀(vs:List AV)(k:Nat),∀T∈(AV.n2rL P vs k).2,∃E,P.underlying T=some (.slice E)
 | [],k,T,h=>by simp[AV.n2rL]at h
 |v::vs,k,T,h=>by
  simp only[AV.n2rL,List.mem_append]at h;rcases h with h|h;·exact Ri P v k T h
  ·exact xP P vs _ T h
theorem Iz{b:Bool}{hs hs':List Ob}:∀{vs:List AV},(∀l∈AV.rwsL vs,lk hs' l=lk hs l)->vs.map (pkA P b hs')=vs.map (pkA P b hs)
 | [],_=>rfl
 |v::r,h=>by simp only[List.map_cons];rw[Iz (vs:=r) fun l hl=>h l (by simp[AV.rwsL,hl])];congr 1;unfold pkA;rw[jM (hs:=hs) (hs':=hs') v fun l hl=>h l (by simp[AV.rwsL,hl])]
theorem sD:∀(Ts:List TypeId)(σ:St)(K:OkX)(w0 w:World)(a:Act)(β:Nat->Option Value)(k:Nat),RelB P K w0 n σ a w β->(∀T∈Ts,∃E,P.underlying T=some (.slice E))->(∀i,k<=i->i<k+Ts.length->lk σ.hs i= .free)->σ.k0<=k->
  ∃β',RelB P K w0 n ⟨σ.ts,kN σ.hs k Ts,σ.k0⟩ a w β'∧Ext β β'∧vX β' k Ts.length∧∀b,okOf K w0 w σ.hs β b->okOf K w0 w (kN σ.hs k Ts) β' b
 | [],σ,K,w0,w,a,β,k,r,_,_,_=>⟨β,r,Ext.refl _,fun i h1 h2=>by simp at h2;omega,fun b hb=>hb⟩
 |T::Ts,σ,K,w0,w,a,β,k,r,hT,hf,hk=>by
  obtain⟨E,hu⟩:=hT T (by simp);have hfk:=hf k (aL _) (by simp);have r1:=r.nilrow hu hfk hk;obtain⟨β',r2,e2,n2,o2⟩:=sD Ts (σ.lay k (.row T [])) K w0 w a _ (k+1) r1 (fun T' h=>hT T' (by simp[h])) (fun i hi hi2=>by show lk (aV σ.hs k _) i= .free;rw[aS _ _ _ _ (by omega)];exact hf i (by omega) (by simp;omega)) (by show σ.k0<=k+1;omega)
  have hb:β k=none:=by have:=r.hs k;rw[hfk]at this;exact this
  have e1:Ext β (upB β k (some (.slice none 0 0))):=fun i z hz=>by
   by_cases hik:i=k;·subst hik;rw[hb]at hz;cases hz
   ·rw[bO _ _ _ _ hik];exact hz
  refine⟨β',r2,e1.trans e2,fun i h1 h2=>?_,fun b hb2=>o2 b ⟨hb2.1,hb2.2.1,fun j hj=>?_⟩⟩
  ·by_cases hik:i=k;·subst hik;exact e2 _ _ (bJ _ _ _)
   ·exact n2 i (by omega) (by simp at h2 ⊢;omega)
  ·obtain⟨q1,z',q2,q3⟩:=hj;by_cases hjk:j=k
   ·    subst hjk;rw[bJ]at q2;cases q2;simp[Blk,blk]at q3
   ·    rw[bO _ _ _ _ hjk]at q2;have q1':(lk (aV σ.hs k (.row T [])) j).isOwn=true:=q1;rw[aS _ _ _ _ hjk]at q1';exact hb2.2.2 j ⟨q1',z',q2,q3⟩
theorem Tj{ok ok':Nat->Prop}{w w':World}{β β':Nat->Option Value}{v:AV}{z:Value}(hs:scV P v=true)(h:RV1 P ok w β v z):RV1 P ok' w' β' v z:=by
 cases v with
 |dat   T d=>
  simp only[scV,scT]at hs;have hag:bS P T=false:=by unfold bS;split at hs<;>simp_all
  have h1:=h.2 hag;refine⟨fun e=>(by rw[show AV.isAgg P (.dat T d)=false from hag]at e;cases e),fun _=>?_⟩;cases h1 with
  |dat h1=>
   refine .dat ?_;split at hs
   ·    rename_i hu;obtain⟨e1,e2,e3,e4⟩:=h1.int_inv hu;rw[e1,e2];exact .int hu e3 e4
   ·    rename_i hu;obtain⟨e1,e2⟩:=h1.bool_inv hu;rw[e1,e2];exact .bool hu
   ·    rename_i hu;obtain⟨e1,e2,e3⟩:=h1.str_inv hu;rw[e1,e2];exact .str hu e3
   ·cases hs
 |_=>cases hs
theorem amK{ok ok':Nat->Prop}{w w':World}{β β':Nat->Option Value}{v:AV}{z:Value}(hs:scR P v=true)(h:RV P ok w β v z):RV P ok' w' β' v z:=by
 cases v with
 |tup vs=>
  obtain⟨arr,e,hl,h⟩:=h;exact⟨arr,e,hl,fun i av hv=>Tj (List.all_eq_true.1 hs av (aM hv)) (h i av hv)⟩
 |dat T d=>exact Tj hs h
 |_=>cases hs
theorem ach(hcall:CallOK P call){g:Operand}{xs:Array Operand}{Ts:Array TypeId}{f:FuncId}{as caps:List AV}{rd:List Nat}(ho:o.op= .call ⟨.value g,xs,Ts⟩)(hcap:∀v∈caps,v.isAgg P=false∧∀us,v≠ .tup us)
  (hpre:∀σ',Agr o σ σ' rd->∀(K:OkX)(w0:World)(a:Act)(w:World),Rel P K w0 n σ' a w->∃hs1 β1,RelB P K w0 n ⟨σ'.ts,hs1,σ'.k0⟩ a w β1∧RV P (fun b=>b<w.heap.size) w β1 (.fn f caps) (a.eval g)∧RVsX P (fun b=>b<w.heap.size) w β1 as (xs.toList.map a.eval))
  (h:(call f (AV.renL (ix []) (as++caps)) [] fun q=>bif (scR P q.1&&(isNil q.2&&XR n o))then k ⟨o.dst.map fun _=>q.1,rd,[]⟩else none)=some r):OpS P n o σ k r:=by
 have hh_:=hcall _ _ _ _ _ h;clear h;obtain⟨q,h,hfx,hbody⟩:=hh_;have hh_:=aF h;clear h;obtain⟨hc2,h⟩:=hh_;have hsc:=aG hc2;have hnil:q.2=[]:=by
  have:=aG (aC hc2);cases hq:q.2 with
  |nil=>rfl
  |cons a b=>rw[hq]at this;cases this
 refine⟨_,h,fun σ' ag=>?_⟩;intro K w0 a w rr Kt Q hK;obtain⟨hs1,β1,r1,hg,ha⟩:=hpre σ' ag K w0 a w rr;obtain⟨β,rb⟩:=rr;obtain⟨cv,ecv,hcv⟩:=MI hg hcap;have hargs:=(ha.app hcv).ren (kM [] β1);have no:∀(β:Nat->Option Value) l b,¬owns [] β l b:=fun β l b h=>by obtain⟨h1,_⟩:=h;cases l<;>cases h1
 have hc:=hfx (fun b=>b<w.heap.size) w (gU [] β1) _ (fun b hb=>⟨hb,fun⟨l,hx⟩=>no _ _ _ hx⟩) (fun i=>by cases i<;>rfl) (fun l l' b h1=>(no _ _ _ h1).elim) hargs (r1.tab.mono fun b hb=>⟨hb.1,rfl⟩);rw[hnil]at hc;have ho':o.op= .call {callee:= .value g,args:=xs.toList.toArray,argTypes:=Ts}:=by rw[ho]
 unfold Oper.wp;rw[Gm ho' hbody a w ecv,Oper.upon_enter];refine hc.mono ?_;rintro e w' ⟨z,β',rfl,fin,hz⟩;have hbel:Below w.heap.size w w':=⟨fin.below.os,fin.below.tape,fin.below.output,fin.below.size,fun b hb=>fin.below.block b hb (fun⟨l,hx⟩=>no _ _ _ hx)⟩;obtain⟨rg,_⟩:=rb.grow hbel;refine hK _ _ ?_;unfold St.app;simp only;cases hd:o.dst with
 |none=>exact⟨β,rg⟩
 |some d=>
  have hn:d<n:=by have:=aC (aC hc2);unfold XR at this;rw[hd]at this;exact aI this
  exact Rel.put rg hn (amK hsc hz)
theorem auW{A:Type}{b:Bool}{x y z:A}(h:(bif b then x else y)=z):(b=true∧x=z)∨(b=false∧y=z):=by cases b<;>simp_all
theorem KL:∀us vs:List AV,AV.nmsL (us++vs)=AV.nmsL us++AV.nmsL vs
 | [],vs=>by simp[AV.nmsL]
 |u::us,vs=>by simp[AV.nmsL,KL us vs]
theorem BP{v:AV}{l:Nat}:∀{vs:List AV},v∈vs->l∈v.rws->l∈AV.rwsL vs
 |u::us,h,hl=>by
  simp only[AV.rwsL,List.mem_append];rcases List.mem_cons.1 h with e|h;·subst e;exact .inl hl
  ·exact .inr (BP h hl)
theorem aci{hs:List Ob}{f:Field}{u:AV}{d:Dt}(h:pkc P hs f u=some d):∃T,pk P hs u=some (T,d)∧compat P T f.type=true:=by
 unfold pkc at h;split at h
 ·rename_i T d' hp;obtain⟨h1,h2⟩:=aF h;cases h2;exact⟨T,hp,h1⟩
 ·cases h
theorem KM{hs:List Ob}:∀{fs:List Field}{vs:List AV}{ds:List Dt},DX P hs fs vs=some ds->ds.length=fs.length∧∀(i:Nat)(f:Field)(d:Dt),fs[i]? =some f->ds[i]? =some d->∃u,vs[i]? =some u∧XQ P hs f u=some d
 | [],[],ds,h=>by simp only[DX,aA]at h;subst h;exact⟨rfl,fun i f d hf=>by simp at hf⟩
 | [],_::_,ds,h=>by simp[DX]at h
 |_::_,[],ds,h=>by simp[DX]at h
 | f::fs,v::vs,ds,h=>by
   unfold DX at h;split at h
   ·rename_i d hv;split at h
    ·   rename_i ds' hr;cases h;obtain⟨h1,h2⟩:=KM hr;refine⟨by simp[h1],fun i g d2 hg hd=>?_⟩;cases i with
        |zero=>
         simp only[aO,aA]at hg hd;subst hg hd;exact⟨v,rfl,hv⟩
        |succ i=>
         simp only[aR]at hg hd;obtain⟨u,h3,h4⟩:=h2 i g d2 hg hd;exact⟨u,by simpa using h3,h4⟩
    ·cases h
   ·cases h
theorem WM{ok:Nat->Prop}{w:World}{β:Nat->Option Value}{cs:List Value}{hs:List Ob}{d:Dt}(hf:lI P ok w β hs)(h:RA P ok w β v cs)(hp:pkO P hs v=some (T,d)):RD P ok w T d cs:=by
 cases v with
 |agg   T' vs=>
  simp only[pkO]at hp;split at hp
  ·rename_i fs hu;split at hp
   ·    rename_i ds hpl;simp only[aA,Prod.mk.injEq]at hp;obtain⟨rfl,rfl⟩:=hp;obtain⟨q1,q2⟩:=KM hpl;cases h with
        |agg hu' hl hc h1 h=>
         rw[hu]at hu';cases hu';refine .agg hu (by rw[q1];simp) hc h1 fun i f d hf' hd=>?_;obtain⟨u,q3,q4⟩:=q2 i f d (by simpa using hf') hd;have hra:=h i f u hf' q3;have plain:pkc P hs f u=some d->RD P ok w f.type d ((cs.drop f.offset).take (P.cellsOf f.type)):=fun hc=>by obtain⟨T2,p1,p2⟩:=aci hc;exact(dJ hf hra p1).compat p2
         unfold XQ at q4;split at q4
         ·rename_i l;split at q4
          ·  rename_i K V hm;cases q4;generalize hseg:(cs.drop f.offset).take (P.cellsOf f.type)=seg at hra;cases hra with
             |row _ h1'=>exact .opq hm h1'
          ·exact plain q4
         ·exact plain q4
   ·cases hp
  ·cases hp
 |_=>exact dJ hf h hp
theorem KN{hs hs':List Ob}:∀{fs:List Field}{vs:List AV},(∀l∈AV.rwsL vs,lk hs' l=lk hs l)->DX P hs' fs vs=DX P hs fs vs
 | [],[],_=>rfl
 | [],_::_,_=>rfl
 |_::_,[],_=>rfl
 |f::fs,v::vs,h=>by
  have e:XQ P hs' f v=XQ P hs f v:=by
   have e2:∀u:AV,(∀l∈u.rws,lk hs' l=lk hs l)->pkc P hs' f u=pkc P hs f u:=fun u hu=>by unfold pkc;rw[jM (P:=P) (hs:=hs) (hs':=hs') u hu]
   have hv:∀l∈v.rws,lk hs' l=lk hs l:=fun l hl=>h l (by simp[AV.rwsL,hl]);unfold XQ;split
   ·    split;·rfl
        ·exact e2 _ hv
   ·exact e2 _ hv
  unfold DX;rw[e,KN (fs:=fs) (vs:=vs) fun l hl=>h l (by simp[AV.rwsL,hl])]
theorem amL{hs hs':List Ob}(v:AV)(h:∀l∈v.rws,lk hs' l=lk hs l):pkO P hs' v=pkO P hs v:=by
 cases v with
 |agg T vs=>
  simp only[pkO];split;·rw[KN (hs:=hs) (hs':=hs') (by simpa [AV.rws]using h)]
  ·rfl
 |_=>exact jM _ h
theorem KO{hs:List Ob}{ts:List AV}{k0:Nat}{K:OkX}{w0 w:World}{a:Act}{β:Nat->Option Value}{cs:List Value}(rb:RelB P K w0 n ⟨ts,hs,k0⟩ a w β)(h:RA P (fun b=>b<w.heap.size) w β v cs):RA P (fun b=>b<w.heap.size) w β (gD P hs v) cs:=by
 unfold gD;split
 ·rename_i l;split
  ·rename_i T c hl;split
   ·    rename_i T' d hp;cases hb:Nat.beq T' T;·exact h
        ·have e:=beq_eq hb;subst e;simp only[cond_true];have ho:=rb.hs l;rw[show lk (St.mk ts hs k0).hs l=lk hs l from rfl,hl]at ho;obtain⟨b,cc,e1,e2,e3,e4⟩:=ho;cases h with
         | @ptr _ b' off path hβ=>
           rw[e1]at hβ;simp only[aA,Value.pointer.injEq,Addr.mk.injEq,and_true]at hβ;subst hβ;have hrd:=WM rb.frzOK e4 hp;have hlt:b<w.heap.size:=(Array.getElem?_eq_some_iff.1 e2).1;refine .rptr (ad:=⟨b,0,none⟩) (cs:=cc.toList) hlt (by rw[Array.length_toList];exact e3) (fun j u hu=>?_) (hrd.mono fun b hb=>⟨hb.1,rfl⟩);rw[eP,Nat.zero_add];simp only[World.cell?,e2];rw[Array.getElem?_toList]at hu;simpa using hu
   ·exact h
  ·exact h
 ·exact h
theorem wO{hs:List Ob}(hv:v.isAgg P=false∧∀us,v≠ .tup us):(gD P hs v).isAgg P=false∧∀us,gD P hs v≠ .tup us:=by
 unfold gD;split
 ·split
  ·split
   ·    cases Nat.beq _ _;·exact hv
        ·exact⟨rfl,fun us h=>by cases h⟩
   ·exact hv
  ·exact hv
 ·exact hv
theorem KP{hs:List Ob}{ts:List AV}{k0:Nat}{K:OkX}{w0 w:World}{a:Act}{β:Nat->Option Value}{z:Value}(rb:RelB P K w0 n ⟨ts,hs,k0⟩ a w β)(h:RV P (fun b=>b<w.heap.size) w β v z):RV P (fun b=>b<w.heap.size) w β (l6 P hs v) z:=by
 cases v with
 |fn f caps=>
  have h1:=h.2 rfl;refine⟨fun hi=>(by cases hi),fun _=>?_⟩;show RA P _ w β (.fn f (caps.map (gD P hs))) [z];cases h1 with
  | @fn _ _ cv hl hh=>
    refine .fn (by rw[List.length_map];exact hl) fun i av hav=>?_;rw[List.getElem?_map]at hav;obtain⟨u,hu,rfl⟩:=aW.1 hav;exact KO rb (hh i u hu)
 |ptr l path off=>
  have h1:=h.2 rfl;have h2:=KO rb h1;have hp:(AV.ptr l path off).isAgg P=false∧∀us,AV.ptr l path off≠ .tup us:=⟨rfl,fun us h=>by cases h⟩;have h3:=wO (hs:=hs) hp;show RV P _ w β (gD P hs (.ptr l path off)) z;have h4:RV1 P (fun b=>b<w.heap.size) w β (gD P hs (.ptr l path off)) z:=⟨fun hi=>(by rw[h3.1]at hi;cases hi),fun _=>h2⟩;exact h4.toRV h3.2
 |_=>exact h
theorem j3{T:TypeId}{c:AV}:∀{ls:List Nat}{hs:List Ob}{l:Nat},lk (wrO hs (Am.frzW hs ls)) l= .box T c->lk hs l= .box T c
 | [],hs,l,h=>h
 |k::r,hs,l,h=>by
  unfold Am.frzW at h;split at h
  ·rename_i T' es hl;have h2:=j3 (ls:=r) (hs:=aV hs k (.frz T' es)) h;rw[dM]at h2;split at h2;·cases h2
   ·exact h2
  ·rename_i T' T2 c' kk es hl;split at h
   ·    rename_i ls hls;have h2:=j3 (ls:=r) (hs:=aV (aV (aV hs k (.row T' (frzD c' es ls))) kk .gone) k (.frz T' (frzD c' es ls))) h;simp only[dM]at h2;split at h2;·cases h2
        ·split at h2;·cases h2
         ·first|exact h2|(split at h2;·cases h2;·exact h2)
   ·exact j3 h
  ·exact j3 h
theorem wP{hs:List Ob}{q:Nat}:∀{ls:List Nat},q∈ls->q∈sJ hs ls
 |k::r,h=>by
  simp only[sJ,List.mem_append];rcases List.mem_cons.1 h with rfl|h;·left;split<;>simp
  ·exact .inr (wP h)
theorem lQ{hs:List Ob}{T:TypeId}{c:AV}{l q:Nat}:∀{ls:List Nat},l∈ls->lk hs l= .box T c->q∈c.rws->q∈bK hs ls
 |k::r,h,hl,hq=>by
  simp only[bK,List.mem_append];rcases List.mem_cons.1 h with rfl|h;·left;rw[hl];exact wP hq
  ·exact .inr (lQ h hl hq)
theorem FI{hs hs':List Ob}(h1:∀l∈v.nms,lk hs' l=lk hs l)(h2:∀l∈v.nms,∀T c,lk hs l= .box T c->∀q∈c.rws,lk hs' q=lk hs q):gD P hs' v=gD P hs v:=by
 cases v with
 |ptr   l path off=>
  have hl:l∈(AV.ptr l path off).nms:=by simp[AV.nms]
  cases path with
  |nil    =>
   cases off with
   |    zero=>
        simp only[gD,h1 l hl];cases hk:lk hs l with
        | box T c=>
          simp only;rw[amL (P:=P) (hs:=hs) (hs':=hs') c (h2 l hl T c hk)]
        |_=>rfl
   |succ _=>rfl
  |cons _ _=>rfl
 |_=>rfl
theorem jI{hs hs':List Ob}:∀{vs:List AV},(∀l∈AV.nmsL vs,lk hs' l=lk hs l)->(∀l∈AV.nmsL vs,∀T c,lk hs l= .box T c->∀q∈c.rws,lk hs' q=lk hs q)->vs.map (gD P hs')=vs.map (gD P hs)
 | [],_,_=>rfl
 |v::r,h1,h2=>by simp only[List.map_cons];rw[FI (fun l hl=>h1 l (by simp[AV.nmsL,hl])) (fun l hl=>h2 l (by simp[AV.nmsL,hl])),jI (vs:=r) (fun l hl=>h1 l (by simp[AV.nmsL,hl])) (fun l hl=>h2 l (by simp[AV.nmsL,hl]))]
theorem WO{hs hs':List Ob}(h1:∀l∈v.nms,lk hs' l=lk hs l)(h2:∀l∈v.nms,∀T c,lk hs l= .box T c->∀q∈c.rws,lk hs' q=lk hs q):l6 P hs' v=l6 P hs v:=by
 cases v with
 |fn f caps=>
  show AV.fn f (caps.map (gD P hs'))=AV.fn f (caps.map (gD P hs));rw[jI h1 h2]
 |ptr l path off=>exact FI h1 h2
 |_=>rfl
theorem Tk{b:Bool}{hs:List Ob}:∀l∈(pkA P b hs v).nms,l∈v.nms:=by
 intro l hl;unfold pkA at hl;cases hb:(b&&IG v)
 ·rw[hb,cond_false]at hl;split at hl;·simp[AV.nms]at hl
  ·exact hl
 ·rw[hb,cond_true]at hl;exact hl
theorem BQ{b:Bool}{hs hs':List Ob}(h:∀l∈v.rws,lk hs' l=lk hs l):pkA P b hs' v=pkA P b hs v:=by unfold pkA;rw[jM (hs:=hs) (hs':=hs') v h]
theorem nN{b:Bool}{hs hs':List Ob}:∀{vs:List AV},(∀l∈AV.rwsL vs,lk hs' l=lk hs l)->(∀l∈AV.nmsL vs,lk hs' l=lk hs l)->(∀l∈AV.nmsL vs,∀T c,lk hs l= .box T c->∀q∈c.rws,lk hs' q=lk hs q)->(vs.map fun v=>l6 P hs' (pkA P b hs' v))=vs.map fun v=>l6 P hs (pkA P b hs v)
 | [],_,_,_=>rfl
 |v::r,h0,h1,h2=>by
  simp only[List.map_cons];rw[BQ (hs:=hs) fun l hl=>h0 l (by simp[AV.rwsL,hl]),WO (fun l hl=>h1 l (by simp[AV.nmsL,Tk l hl])) (fun l hl=>h2 l (by simp[AV.nmsL,Tk l hl])),
   nN (vs:=r) (fun l hl=>h0 l (by simp[AV.rwsL,hl])) (fun l hl=>h1 l (by simp[AV.nmsL,hl])) (fun l hl=>h2 l (by simp[AV.nmsL,hl]))]
theorem RVsX.map_lend{hs:List Ob}{ts:List AV}{k0:Nat}{K:OkX}{w0 w:World}{a:Act}{β:Nat->Option Value}{vs:List AV}{zs:List Value}(rb:RelB P K w0 n ⟨ts,hs,k0⟩ a w β)(h:RVsX P (fun b=>b<w.heap.size) w β vs zs):RVsX P (fun b=>b<w.heap.size) w β (vs.map (l6 P hs)) zs:=by
 induction h with
 |nil=>exact .nil
 |cons h _ ih=>exact .cons (KP rb h) ih
theorem u7{pty:TypeId->Option TypeId}{hs:List Ob}{l:Nat}{ob:Ob}(h:XP P pty hs l=some ob):∃T c PT d,lk hs l= .box T c∧P.underlying PT=some (.pointer T)∧pk P hs c=some (T,d)∧ob= .frz PT [d]:=by
 unfold XP at h;split at h
 ·rename_i T c hl;split at h
  ·rename_i PT hPT;split at h
   ·    rename_i T2 hT2;split at h
        ·rename_i T' d hp;obtain⟨hc,h⟩:=aF h;cases h;have e1:=beq_eq (aG hc);have e2:=beq_eq (aC hc);subst e1 e2;exact⟨_,c,PT,d,hl,mG hT2,hp,rfl⟩
        ·cases h
   ·cases h
  ·cases h
 ·cases h
theorem RelB.fzbW{K:OkX}{w0 w:World}{a:Act}{β:Nat->Option Value}{pty:TypeId->Option TypeId}:∀{bs:List Nat}{σ:St},RelB P K w0 n σ a w β->RelB P K w0 n ⟨σ.ts,wrO σ.hs (Am.fzbW P pty σ.hs bs),σ.k0⟩ a w β
 | [],σ,r=>r
 |l::bs,σ,r=>by
  unfold Am.fzbW;split
  ·rename_i ob h1;obtain⟨T,c,PT,d,h2,h3,h4,rfl⟩:=u7 h1;exact RelB.fzbW (bs:=bs) (σ:=⟨σ.ts,aV σ.hs l (.frz PT [d]),σ.k0⟩) (r.frzBox h2 h4 h3)
  ·exact RelB.fzbW (bs:=bs) r
theorem acj{pty:TypeId->Option TypeId}{hs hs':List Ob}{l:Nat}(h1:lk hs' l=lk hs l)(h2:∀T c,lk hs l= .box T c->∀q∈c.rws,lk hs' q=lk hs q):XP P pty hs' l=XP P pty hs l:=by
 unfold XP;rw[h1];split
 ·rename_i T c hl;rw[jM (P:=P) (hs:=hs) (hs':=hs') c (h2 T c hl)]
 ·rfl
theorem BR{pty:TypeId->Option TypeId}:∀{bs:List Nat}{hs hs':List Ob},(∀l∈bs,lk hs' l=lk hs l)->(∀l∈bs,∀T c,lk hs l= .box T c->∀q∈c.rws,lk hs' q=lk hs q)->fzbW P pty hs' bs=fzbW P pty hs bs
 | [],_,_,_,_=>rfl
 |l::bs,hs,hs',h1,h2=>by
  unfold fzbW;rw[acj (h1 l (by simp)) (h2 l (by simp))];split
  ·rename_i ob hob;obtain⟨T0,c0,PT,d,_,_,_,rfl⟩:=u7 hob;rw[BR (bs:=bs) (hs:=aV hs l (.frz PT [d])) (hs':=aV hs' l (.frz PT [d])) (fun k hk=>?_) (fun k hk T c hkc q hq=>?_)]
   ·    rw[dM,dM];split;·rfl
        ·exact h1 k (by simp[hk])
   ·    rw[dM]at hkc;rw[dM,dM];split;·rfl
        ·split at hkc;·cases hkc
         ·exact h2 k (by simp[hk]) T c hkc q hq
  ·exact BR (fun k hk=>h1 k (by simp[hk])) (fun k hk=>h2 k (by simp[hk]))
theorem vg{pty:TypeId->Option TypeId}:∀{bs:List Nat}{hs:List Ob}{l:Nat},lk hs l= .free->lk (wrO hs (fzbW P pty hs bs)) l= .free
 | [],hs,l,h=>h
 |k::r,hs,l,h=>by
  unfold fzbW;split
  ·rename_i ob hob;obtain⟨T0,c0,PT,d,h2,_,_,rfl⟩:=u7 hob;simp only[wrO];refine vg ?_;rw[dM];split;·rename_i e;subst e;rw[h]at h2;cases h2
   ·exact h
  ·exact vg h
theorem as0{ok:Nat->Prop}{w:World}{β:Nat->Option Value}{hs:List Ob}{z:Value}(hf:lI P ok w β hs)(hfa:∀l T es,lk hs l= .frz T es->bS P T=false)(h:RV P ok w β v z):RV P ok w β (pkZ hs v) z:=by
 unfold pkZ;split
 ·rename_i l;split
  ·rename_i T es hl;have h1:=h.2 rfl;obtain⟨z',e,hr⟩:=hf l T es hl;cases h1 with
   |    ptr hβ=>
        rw[hβ]at e;cases e;exact(RV.dat_one (hfa l T es hl)).2 hr
  ·exact h
 ·exact h
theorem RVsX.map_pkZ{b:Bool}{ok:Nat->Prop}{w:World}{β:Nat->Option Value}{hs:List Ob}{vs:List AV}{zs:List Value}(hf:lI P ok w β hs)(hfa:∀l T es,lk hs l= .frz T es->bS P T=false)(h:RVsX P ok w β vs zs):RVsX P ok w β (vs.map fun v=>pkZ hs (pkA P b hs v)) zs:=by
 have h2:=h.map_pk (b:=b) hf hfa;generalize hus:vs.map (pkA P b hs)=us at h2;have e:(vs.map fun v=>pkZ hs (pkA P b hs v))=us.map (pkZ hs):=by rw[←hus,List.map_map];rfl
 rw[e];clear e hus h;induction h2 with
 |nil=>exact .nil
 |cons h _ ih=>exact .cons (as0 hf hfa h) ih
theorem FJ{l:Nat}:∀{vs:List AV},.ptr l [] 0∈vs->l∈dA vs
 |u::us,h=>by
  simp only[dA,List.mem_append];rcases List.mem_cons.1 h with e|h;·subst e;left;simp
  ·exact .inr (FJ h)
theorem KQ{b:Bool}{hs hs':List Ob}{vs:List AV}(h0:∀l∈AV.rwsL vs,lk hs' l=lk hs l)(h1:∀l∈dA vs,lk hs' l=lk hs l):(vs.map fun v=>pkZ hs' (pkA P b hs' v))=vs.map fun v=>pkZ hs (pkA P b hs v):=by
 refine List.map_congr_left fun v hv=>?_;rw[BQ (hs:=hs) (hs':=hs') fun l hl=>h0 l (BP hv hl)];cases v with
 |ptr l p q=>
  have e:pkA P b hs (.ptr l p q)= .ptr l p q:=by unfold pkA;cases b<;>rfl
  rw[e];match p,q with
  | [],0=>simp only[pkZ];rw[h1 l (FJ hv)]
  | [],_+1=>rfl
  |_::_,_=>rfl
 |_=>
  unfold pkA;cases b<;>simp only[IG,Bool.and_false,Bool.and_true,cond_false,cond_true]<;>first|rfl|(split<;>rfl)
theorem s_call(hcall:CallOK P call){g:Operand}{xs:Array Operand}{Ts:Array TypeId}(ho:o.op= .call ⟨.value g,xs,Ts⟩)(h:QH P E call n o σ g xs.toList Ts.toList k=some r):OpS P n o σ k r:=by
 have hg:g∈o.op.operands.toList:=by rw[ho];simp[Op.operands,Call.operands]
 have hxs:∀z∈xs.toList,z∈o.op.operands.toList:=by intro z hz;rw[ho];simp[Op.operands,Call.operands];right;simpa using hz
 unfold QH at h;split at h
 ·rename_i f caps e1;have hh_:=aF h;clear h;obtain⟨hc,h⟩:=hh_;have hlen:=beq_eq (aG hc);have hcap:=rA (aC hc);cases how:E.own f with
  |true=>
   rw[how]at h;simp only[cond_true]at h;refine Qs hcall ho (fun v hv=>⟨(hcap v hv).1,(hcap v hv).2.2⟩) (BO _ _ _).symm (by omega) (fun l hl=>u6 hl (dF _ _ (by omega))) ?_ h;intro σ' rd ag hin K w0 a w rr hk0;obtain⟨β,rb⟩:=rr;obtain⟨β1,r1,ex1,nb1,ok1⟩:=sD (P:=P) (n:=n) _ σ' K w0 w a β σ.hs.length rb (xP P (dnL P (E.nd f) 0 (bG P E.dt σ Ts.toList xs.toList)) σ.hs.length) (fun i h3 h4=>by rw[ag.hs i (hin i h3 h4)];exact dF _ _ h3) (by rw[ag.k0];exact hk0)
   rw[←BO]at r1 ok1;have hk:∀b,okOf K w0 w σ'.hs β b->okOf K w0 w (wrO σ'.hs (QF σ.hs.length (AV.n2rL P (dnL P (E.nd f) 0 (bG P E.dt σ Ts.toList xs.toList)) σ.hs.length).2)) β1 b∧w.heap[b]? =w.heap[b]? :=fun b hb=>⟨ok1 b hb,rfl⟩;have hopds:=(nk (P:=P) (σ:=σ') (D:=E.dt) hlen).rvs rb;rw[kg ag.ts hxs]at hopds;exact⟨β1,r1,(bB ag hg e1 _ _ _ _ _ _ rb).mono hk ex1,((hopds.mono hk ex1).dn _ 0).n2r _ nb1⟩
  |false    =>
   rw[how]at h;simp only[cond_false]at h
   have    main:∀(L:List Nat),(∀l∈AV.rwsL (bG P E.dt σ Ts.toList xs.toList),l∈L)->∀σ' rd,Agr o σ σ' (L++rd)->∀(K:OkX)(w0:World)(a:Act)(w:World),Rel P K w0 n σ' a w->∃β1,RelB P K w0 n ⟨σ'.ts,wrO σ'.hs (frzW σ.hs L),σ'.k0⟩ a w β1∧RV P (okOf K w0 w (wrO σ'.hs (frzW σ.hs L)) β1) w β1 (.fn f caps) (a.eval g)∧RVsX P (okOf K w0 w (wrO σ'.hs (frzW σ.hs L)) β1) w β1 ((bG P E.dt σ Ts.toList xs.toList).map (pkA P (E.raw f) (wrO σ.hs (frzW σ.hs L)))) (xs.toList.map a.eval):=by
    intro L hL σ' rd ag K w0 a w rr;obtain⟨β,rb⟩:=rr;have hagr:∀l∈L,lk σ'.hs l=lk σ.hs l:=fun l hl=>ag.hs l (aU _ hl);have hfw:=dQ hagr;obtain⟨β1,r1⟩:=Imp.frzW (P:=P) (n:=n) (σ:=σ') L K w0 a w ⟨β,rb⟩;rw[hfw]at r1;refine⟨β1,r1,?_,?_⟩
    ·    have:=CG (P:=P) (T:=0) (D:=E.dt) (hs:=wrO σ'.hs (frzW σ.hs L)) (k0:=σ'.k0) ag hg;rw[e1]at this;exact this _ _ _ _ _ _ r1
    ·    have hopds:=(nk (P:=P) (σ:=St.mk σ'.ts (wrO σ'.hs (frzW σ.hs L)) σ'.k0) (D:=E.dt) hlen).rvs r1;rw[kg (σ:=σ) (σ':=St.mk σ'.ts (wrO σ'.hs (frzW σ.hs L)) σ'.k0) (xs:=o.op.operands.toList) (fun t ht=>ag.ts t ht) hxs]at hopds;have:=hopds.map_pk (b:=E.raw f) r1.frzOK r1.frzAgg;have e3:(bG P E.dt σ Ts.toList xs.toList).map (pkA P (E.raw f) (wrO σ'.hs (frzW σ.hs L)))=(bG P E.dt σ Ts.toList xs.toList).map (pkA P (E.raw f) (wrO σ.hs (frzW σ.hs L))):=
           Iz fun l hl=>fu hagr l (hL l hl)
         rw[e3]at this;exact this
   cases hfz:E.fzc f with
   |    true=>
        rw[hfz]at h;simp only[cond_true]at h;rw[←fO]at h;refine Qs hcall ho (fun v hv=>⟨(hcap v hv).1,(hcap v hv).2.2⟩) rfl (aL _) (fun l hl=>(by rw[fO];exact vg (fV (dF _ _ hl)))) (fun σ' rd ag _ K w0 a w rr _=>?_) h;obtain⟨β,rb⟩:=rr;have hagL:∀l∈AV.rwsL (bG P E.dt σ Ts.toList xs.toList)++bK σ.hs (dA (bG P E.dt σ Ts.toList xs.toList)),lk σ'.hs l=lk σ.hs l:=fun l hl=>ag.hs l (aU _ (aU _ hl));have hagB:∀l∈dA (bG P E.dt σ Ts.toList xs.toList),lk σ'.hs l=lk σ.hs l:=fun l hl=>ag.hs l (aU _ (List.mem_append_right _ hl));have hfw:=dQ hagL;obtain⟨β1,r1⟩:=Imp.frzW (P:=P) (n:=n) (σ:=σ') (AV.rwsL (bG P E.dt σ Ts.toList xs.toList)++bK σ.hs (dA (bG P E.dt σ Ts.toList xs.toList))) K w0 a w ⟨β,rb⟩;rw[hfw]at r1;have hwB:∀l,l∈AV.rwsL (bG P E.dt σ Ts.toList xs.toList)++bK σ.hs (dA (bG P E.dt σ Ts.toList xs.toList))++dA (bG P E.dt σ Ts.toList xs.toList)->lk (wrO σ'.hs (frzW σ.hs (AV.rwsL (bG P E.dt σ Ts.toList xs.toList)++bK σ.hs (dA (bG P E.dt σ Ts.toList xs.toList))))) l=lk (wrO σ.hs (frzW σ.hs (AV.rwsL (bG P E.dt σ Ts.toList xs.toList)++bK σ.hs (dA (bG P E.dt σ Ts.toList xs.toList))))) l:=fun l hl=>
          fu (ls:=AV.rwsL (bG P E.dt σ Ts.toList xs.toList)++bK σ.hs (dA (bG P E.dt σ Ts.toList xs.toList))++dA (bG P E.dt σ Ts.toList xs.toList)) (fun k hk=>ag.hs k (aU _ hk)) l hl
        have hfb:=BR (P:=P) (pty:=E.pty) (bs:=dA (bG P E.dt σ Ts.toList xs.toList)) (fun l hl=>hwB l (List.mem_append_right _ hl)) (fun l hl T c hk q hq=>hwB q (aU _ (List.mem_append_right _ (lQ hl (j3 hk) hq))));have r2:=RelB.fzbW (pty:=E.pty) (bs:=dA (bG P E.dt σ Ts.toList xs.toList)) r1;simp only at r2;rw[hfb,←fO]at r2;refine⟨β1,r2,?_,?_⟩
        · have:=CG (P:=P) (T:=0) (D:=E.dt) (hs:=wrO σ'.hs (frzW σ.hs (AV.rwsL (bG P E.dt σ Ts.toList xs.toList)++bK σ.hs (dA (bG P E.dt σ Ts.toList xs.toList)))++fzbW P E.pty (wrO σ.hs (frzW σ.hs (AV.rwsL (bG P E.dt σ Ts.toList xs.toList)++bK σ.hs (dA (bG P E.dt σ Ts.toList xs.toList))))) (dA (bG P E.dt σ Ts.toList xs.toList)))) (k0:=σ'.k0) ag hg;rw[e1]at this;exact this _ _ _ _ _ _ r2
        · have hopds:=(nk (P:=P) (σ:=St.mk σ'.ts (wrO σ'.hs (frzW σ.hs (AV.rwsL (bG P E.dt σ Ts.toList xs.toList)++bK σ.hs (dA (bG P E.dt σ Ts.toList xs.toList)))++fzbW P E.pty (wrO σ.hs (frzW σ.hs (AV.rwsL (bG P E.dt σ Ts.toList xs.toList)++bK σ.hs (dA (bG P E.dt σ Ts.toList xs.toList))))) (dA (bG P E.dt σ Ts.toList xs.toList)))) σ'.k0) (D:=E.dt) hlen).rvs r2;rw[kg (σ:=σ) (σ':=St.mk σ'.ts (wrO σ'.hs (frzW σ.hs (AV.rwsL (bG P E.dt σ Ts.toList xs.toList)++bK σ.hs (dA (bG P E.dt σ Ts.toList xs.toList)))++fzbW P E.pty (wrO σ.hs (frzW σ.hs (AV.rwsL (bG P E.dt σ Ts.toList xs.toList)++bK σ.hs (dA (bG P E.dt σ Ts.toList xs.toList))))) (dA (bG P E.dt σ Ts.toList xs.toList)))) σ'.k0) (xs:=o.op.operands.toList) (fun t ht=>ag.ts t ht) hxs]at hopds;have h5:=hopds.map_pkZ (b:=E.raw f) r2.frzOK r2.frzAgg;have hw2:∀l,l∈AV.rwsL (bG P E.dt σ Ts.toList xs.toList)++bK σ.hs (dA (bG P E.dt σ Ts.toList xs.toList))++dA (bG P E.dt σ Ts.toList xs.toList)->lk (wrO σ'.hs (frzW σ.hs (AV.rwsL (bG P E.dt σ Ts.toList xs.toList)++bK σ.hs (dA (bG P E.dt σ Ts.toList xs.toList)))++fzbW P E.pty (wrO σ.hs (frzW σ.hs (AV.rwsL (bG P E.dt σ Ts.toList xs.toList)++bK σ.hs (dA (bG P E.dt σ Ts.toList xs.toList))))) (dA (bG P E.dt σ Ts.toList xs.toList)))) l=lk (wrO σ.hs (frzW σ.hs (AV.rwsL (bG P E.dt σ Ts.toList xs.toList)++bK σ.hs (dA (bG P E.dt σ Ts.toList xs.toList)))++fzbW P E.pty (wrO σ.hs (frzW σ.hs (AV.rwsL (bG P E.dt σ Ts.toList xs.toList)++bK σ.hs (dA (bG P E.dt σ Ts.toList xs.toList))))) (dA (bG P E.dt σ Ts.toList xs.toList)))) l:=fun l hl=>
            fu (ls:=AV.rwsL (bG P E.dt σ Ts.toList xs.toList)++bK σ.hs (dA (bG P E.dt σ Ts.toList xs.toList))++dA (bG P E.dt σ Ts.toList xs.toList)) (fun k hk=>ag.hs k (aU _ hk)) l hl
          rw[KQ (P:=P) (b:=E.raw f) (fun l hl=>hw2 l (aU _ (aU _ hl))) (fun l hl=>hw2 l (List.mem_append_right _ hl))]at h5;exact h5
   |false=>
   rw[hfz]at h;simp only[cond_false]at h;cases hl:(af8 P E f&&isNil (AV.nmsL ((bG P E.dt σ Ts.toList xs.toList).map (pkA P (E.raw f) (wrO σ.hs (frzW σ.hs (AV.rwsL (bG P E.dt σ Ts.toList xs.toList)))))++caps)))with
   |    true=>
        rw[hl]at h;simp only[cond_true]at h;refine ach hcall ho (fun v hv=>⟨(hcap v hv).1,(hcap v hv).2.2⟩) (fun σ' ag K w0 a w rr=>?_) h;obtain⟨β1,h1,h2,h3⟩:=main _ (fun l hl=>hl) σ' [] (by rw[List.append_nil];exact ag) K w0 a w rr;exact⟨_,β1,h1,h2.mono (fun b hb=>⟨hb.1,rfl⟩) (Ext.refl _),h3.mono (fun b hb=>⟨hb.1,rfl⟩) (Ext.refl _)⟩
   |    false=>
        rw[hl]at h;simp only[cond_false]at h;have hh_:=auW h;clear h;rcases hh_ with⟨_,h⟩| ⟨_,h⟩
        · refine ach hcall ho (fun v hv=>?_) (fun σ' ag K w0 a w rr=>?_) h
          · obtain⟨u,hu,rfl⟩:=List.mem_map.1 hv;exact wO ⟨(hcap u hu).1,(hcap u hu).2.2⟩
          · obtain⟨β1,h1,h2,h3⟩:=main _ (fun l hl=>aU _ hl) σ' _ ag K w0 a w rr;have hagr:∀l∈(AV.rwsL (bG P E.dt σ Ts.toList xs.toList)++bK σ.hs (AV.nmsL (bG P E.dt σ Ts.toList xs.toList++caps)))++AV.nmsL (bG P E.dt σ Ts.toList xs.toList++caps),lk (wrO σ'.hs (frzW σ.hs (AV.rwsL (bG P E.dt σ Ts.toList xs.toList)++bK σ.hs (AV.nmsL (bG P E.dt σ Ts.toList xs.toList++caps))))) l=lk (wrO σ.hs (frzW σ.hs (AV.rwsL (bG P E.dt σ Ts.toList xs.toList)++bK σ.hs (AV.nmsL (bG P E.dt σ Ts.toList xs.toList++caps))))) l:=fun l hl=>fu ag.hs l hl;have hbox:∀l∈AV.nmsL (bG P E.dt σ Ts.toList xs.toList++caps),∀T c,lk (wrO σ.hs (frzW σ.hs (AV.rwsL (bG P E.dt σ Ts.toList xs.toList)++bK σ.hs (AV.nmsL (bG P E.dt σ Ts.toList xs.toList++caps))))) l= .box T c->∀q∈c.rws,lk (wrO σ'.hs (frzW σ.hs (AV.rwsL (bG P E.dt σ Ts.toList xs.toList)++bK σ.hs (AV.nmsL (bG P E.dt σ Ts.toList xs.toList++caps))))) q=lk (wrO σ.hs (frzW σ.hs (AV.rwsL (bG P E.dt σ Ts.toList xs.toList)++bK σ.hs (AV.nmsL (bG P E.dt σ Ts.toList xs.toList++caps))))) q:=
             fun l hl T c hk q hq=>hagr q (aU _ (List.mem_append_right _ (lQ hl (j3 hk) hq)))
            have hn:∀(us vs:List AV)(l:Nat),l∈AV.nmsL us∨l∈AV.nmsL vs->l∈AV.nmsL (us++vs):=fun us vs l h=>by rw[KL];exact List.mem_append.2 h
            have ea:=nN (P:=P) (b:=E.raw f) (vs:=bG P E.dt σ Ts.toList xs.toList) (fun l hl=>hagr l (aU _ (aU _ hl))) (fun l hl=>hagr l (List.mem_append_right _ (hn _ _ l (.inl hl)))) (fun l hl=>hbox l (hn _ _ l (.inl hl)));have ec:=jI (P:=P) (vs:=caps) (fun l hl=>hagr l (List.mem_append_right _ (hn _ _ l (.inr hl)))) (fun l hl=>hbox l (hn _ _ l (.inr hl)));refine⟨_,β1,h1,?_,?_⟩
            ·rw[←ec];exact KP h1 (h2.mono (fun b hb=>⟨hb.1,rfl⟩) (Ext.refl _))
            ·rw[←ea];have h4:=(h3.mono (ok':=fun b=>b<w.heap.size) (w':=w) (fun b hb=>⟨hb.1,rfl⟩) (Ext.refl _)).map_lend h1;rw[List.map_map]at h4;have e5:((bG P E.dt σ Ts.toList xs.toList).map fun v=>l6 P (wrO σ'.hs (frzW σ.hs (AV.rwsL (bG P E.dt σ Ts.toList xs.toList)++bK σ.hs (AV.nmsL (bG P E.dt σ Ts.toList xs.toList++caps))))) (pkA P (E.raw f) (wrO σ'.hs (frzW σ.hs (AV.rwsL (bG P E.dt σ Ts.toList xs.toList)++bK σ.hs (AV.nmsL (bG P E.dt σ Ts.toList xs.toList++caps))))) v))=(bG P E.dt σ Ts.toList xs.toList).map (l6 P (wrO σ'.hs (frzW σ.hs (AV.rwsL (bG P E.dt σ Ts.toList xs.toList)++bK σ.hs (AV.nmsL (bG P E.dt σ Ts.toList xs.toList++caps)))))∘pkA P (E.raw f) (wrO σ.hs (frzW σ.hs (AV.rwsL (bG P E.dt σ Ts.toList xs.toList)++bK σ.hs (AV.nmsL (bG P E.dt σ Ts.toList xs.toList++caps)))))):=by refine List.map_congr_left fun v hv=>?_;have:pkA P (E.raw f) (wrO σ'.hs (frzW σ.hs (AV.rwsL (bG P E.dt σ Ts.toList xs.toList)++bK σ.hs (AV.nmsL (bG P E.dt σ Ts.toList xs.toList++caps))))) v=pkA P (E.raw f) (wrO σ.hs (frzW σ.hs (AV.rwsL (bG P E.dt σ Ts.toList xs.toList)++bK σ.hs (AV.nmsL (bG P E.dt σ Ts.toList xs.toList++caps))))) v:=BQ fun l hl=>hagr l (aU _ (aU _ (BP hv hl)));show l6 P _ (pkA P _ _ v)=l6 P _ (pkA P _ _ v);rw[this]
             rw[e5];exact h4
        ·exact Qs hcall ho (fun v hv=>⟨(hcap v hv).1,(hcap v hv).2.2⟩) rfl (aL _) (fun l hl=>fV (dF _ _ hl)) (fun σ' rd ag _ K w0 a w rr _=>main _ (fun l hl=>hl) σ' rd ag K w0 a w rr) h
 ·cases h
theorem wQ(h:QI v=true):v≠ .dead∧∀us,v≠ .tup us:=by
 constructor;·intro e;subst e;cases h
 ·intro us e;subst e;cases h
theorem amM(ho:o.op= .makeInterface T x)(h:II P E n o σ T x k=some r):OpS P n o σ k r:=by unfold II at h;have hh_:=aF h;clear h;obtain⟨hc,h⟩:=hh_;obtain⟨h1,h2⟩:=wQ (aC hc);exact bC h fun σ' ag d hd hn=>agI ho hd hn (aG hc) (fZ ag (by rw[ho];simp[Op.operands])) h1 h2
theorem auX(hcall:CallOK P call){g:Operand}{name:String}{xs:Array Operand}{Ts:Array TypeId}(ho:o.op= .call ⟨.invoke g name,xs,Ts⟩)(h:af9 P E call n o σ g name xs.toList Ts.toList k=some r):OpS P n o σ k r:=by
 have hg:g∈o.op.operands.toList:=by rw[ho];simp[Op.operands,Call.operands]
 have hxs:∀z∈xs.toList,z∈o.op.operands.toList:=by intro z hz;rw[ho];simp[Op.operands,Call.operands];right;simpa using hz
 unfold af9 at h;split at h
 ·rename_i Tv v e1;split at h
  ·rename_i f hm;have hh_:=aF h;clear h;obtain⟨hc,h⟩:=hh_;have hlen:=beq_eq (aG hc);obtain⟨hv1,hv2⟩:=wQ (aC hc);cases how:E.own f with
   |    true=>
        rw[how]at h;simp only[cond_true]at h;refine Iy hcall (BO _ _ _).symm (by omega) (fun l hl=>u6 hl (dF _ _ (by omega))) (fun σ' rd ag hin K w0 a w rr hk0=>?_) h;obtain⟨β,rb⟩:=rr;obtain⟨β1,r1,ex1,nb1,ok1⟩:=sD (P:=P) (n:=n) _ σ' K w0 w a β σ.hs.length rb (xP P (v::bG P E.dt σ Ts.toList xs.toList) σ.hs.length) (fun i h3 h4=>by rw[ag.hs i (hin i h3 h4)];exact dF _ _ h3) (by rw[ag.k0];exact hk0)
        rw[←BO]at r1 ok1;have hk:∀b,okOf K w0 w σ'.hs β b->okOf K w0 w (wrO σ'.hs (QF σ.hs.length (AV.n2rL P (v::bG P E.dt σ Ts.toList xs.toList) σ.hs.length).2)) β1 b∧w.heap[b]? =w.heap[b]? :=fun b hb=>⟨ok1 b hb,rfl⟩;obtain⟨z,ez,hz⟩:=UF (bB ag hg e1 _ _ _ _ _ _ rb) hv2;have hopds:=(nk (P:=P) (σ:=σ') (D:=E.dt) hlen).rvs rb;rw[kg ag.ts hxs]at hopds;exact⟨β1,_,r1,fun hb=>CQ (xs:=xs.toList) (by rw[ho]) hb hm a w ez,((RVsX.cons hz hopds).mono hk ex1).n2r _ nb1⟩
   |false=>
   rw[how]at h;simp only[cond_false]at h;refine Iy hcall rfl (aL _) (fun l hl=>fV (dF _ _ hl)) (fun σ' rd ag _ K w0 a w rr _=>?_) h;obtain⟨β,rb⟩:=rr;have hagr:∀l∈AV.rwsL (v::bG P E.dt σ Ts.toList xs.toList),lk σ'.hs l=lk σ.hs l:=fun l hl=>ag.hs l (aU _ hl);have hfw:=dQ hagr;obtain⟨β1,r1⟩:=Imp.frzW (P:=P) (n:=n) (σ:=σ') (AV.rwsL (v::bG P E.dt σ Ts.toList xs.toList)) K w0 a w ⟨β,rb⟩;rw[hfw]at r1;have hrecv:=CG (P:=P) (T:=0) (D:=E.dt) (hs:=wrO σ'.hs (frzW σ.hs (AV.rwsL (v::bG P E.dt σ Ts.toList xs.toList)))) (k0:=σ'.k0) ag hg;rw[e1]at hrecv;obtain⟨z,ez,hz⟩:=UF (hrecv _ _ _ _ _ _ r1) hv2;have hopds:=(nk (P:=P) (σ:=St.mk σ'.ts (wrO σ'.hs (frzW σ.hs (AV.rwsL (v::bG P E.dt σ Ts.toList xs.toList)))) σ'.k0) (D:=E.dt) hlen).rvs r1;rw[kg (σ:=σ) (σ':=St.mk σ'.ts (wrO σ'.hs (frzW σ.hs (AV.rwsL (v::bG P E.dt σ Ts.toList xs.toList)))) σ'.k0) (xs:=o.op.operands.toList) (fun t ht=>ag.ts t ht) hxs]at hopds;have hall:=(RVsX.cons hz hopds).map_pk (b:=E.raw f) r1.frzOK r1.frzAgg;have e3:(v::bG P E.dt σ Ts.toList xs.toList).map (pkA P (E.raw f) (wrO σ'.hs (frzW σ.hs (AV.rwsL (v::bG P E.dt σ Ts.toList xs.toList)))))=(v::bG P E.dt σ Ts.toList xs.toList).map (pkA P (E.raw f) (wrO σ.hs (frzW σ.hs (AV.rwsL (v::bG P E.dt σ Ts.toList xs.toList))))):=
        Iz fun l hl=>fu hagr l hl
   rw[e3]at hall;exact⟨β1,_,r1,fun hb=>CQ (xs:=xs.toList) (by rw[ho]) hb hm a w ez,hall⟩
  ·cases h
 ·cases h
theorem cu(hcall:CallOK P call)(h:evO P E call n o σ k=some r):OpS P n o σ k r:=by
 unfold evO at h;split at h;·rename_i ho;exact atW ho h
 ·rename_i ho;exact agx ho h
 ·rename_i ho;exact atX ho h
 ·rename_i ho;exact am5 ho h
 ·rename_i ho;exact aw7 ho h
 ·rename_i ho;exact agG ho h
 ·rename_i ho;exact Yc ho h
 ·rename_i ho;exact atY ho h
 ·rename_i ho;exact am9 ho h
 ·rename_i ho;exact QX ho h
 ·rename_i ho;exact axb ho h
 ·rename_i ho;exact axc ho h
 ·rename_i ho;exact axd ho h
 ·rename_i ho;exact ana ho h
 ·rename_i ho;split at h;·rename_i hTe;exact ani ho hTe h
  ·exact X3 ho h
 ·rename_i ho;exact at0 ho h
 ·rename_i ho;exact anc ho h
 ·rename_i ho;exact Mq ho h
 ·rename_i ho;exact ane ho h
 ·rename_i ho;exact axh ho h
 ·rename_i ho;exact Mr ho h
 ·rename_i ho;exact Uy (fun _ _ h=>agF ho h) h
 ·rename_i ho;exact X8 ho h
 ·rename_i ho;exact Mx ho h
 ·rename_i ho;exact anf ho h
 ·rename_i ho;exact X4 ho h
 ·rename_i ho;exact QY ho h
 ·rename_i ho;exact X5 ho h
 ·rename_i ho;exact Uy (fun σ1 _ h=>by
   cases hb:aw3 P E σ1 _ _ _ with
   |true=>rw[hb]at h;cases h
   |false=>rw[hb]at h;exact s_call hcall ho h) h
 ·rename_i b xs Ts ho;unfold Gd at h;split at h;·rename_i hx hT;exact axe ho hx hT h
  ·rename_i hx hT;exact ang ho hx hT h
  ·rename_i hx hT;rcases anh h with⟨_,h1⟩| ⟨_,h1⟩;·exact Yd ho hx hT h1
   ·exact Yb ho hx hT h1
  ·rename_i hx hT;exact axf ho hx hT h
  ·rename_i hx hT;exact axg ho hx hT h
  ·cases h
 ·rename_i ho;exact amM ho h
 ·rename_i ho;exact auX hcall ho h
 ·cases h
end
structure StEq (σ σ':St):Prop where
 ts:∀t,tk σ'.ts t=tk σ.ts t
 hs:∀l,lk σ'.hs l=lk σ.hs l
 k0:σ'.k0=σ.k0
structure AgrG (ops:List Oper) (o:Oper) (σ σ':St) (rd:List Nat):Prop where
 ts:∀t∈Oper.reads ops o,tk σ'.ts t=tk σ.ts t
 hs:∀l∈rd,lk σ'.hs l=lk σ.hs l
 k0:σ'.k0=σ.k0
def StepAgr(P:Program)(n:Nat)(ops:List Oper)(o:Oper)(σ:St)(X:Dl):Prop:=∀σ',AgrG ops o σ σ' X.rd->StepOK P n ops.toArray o σ' (σ'.app o.dst X)
inductive Tr (P:Program) (n:Nat) (ops:List Oper):List Oper->St->List (Oper×Dl)->St->Prop where
 |nil {σ:St}:Tr P n ops [] σ [] σ
 |cons {o:Oper} {r:List Oper} {σ τ:St} {X:Dl} {ds:List (Oper×Dl)} (h:StepAgr P n ops o σ X) (t:Tr P n ops r (σ.app o.dst X) ds τ):Tr P n ops (o::r) σ ((o,X)::ds) τ
 |eq {r:List Oper} {σ σ1 τ:St} {ds:List (Oper×Dl)} (h:StEq σ σ1) (t:Tr P n ops r σ1 ds τ):Tr P n ops r σ ds τ
theorem bP{A:Type}{b:Bool}{x y:Option A}{r:A}(h:(bif b then x else y)=some r):(b=true∧x=some r)∨(b=false∧y=some r):=by
 cases b with
 |true=>exact .inl ⟨rfl,h⟩
 |false=>exact .inr ⟨rfl,h⟩
section
variable{P:Program}{n:Nat}{o:Oper}{σ τ:St}{R:Type}{E:Env}{call:FuncId->List AV->List Ob->(Res->Option R)->Option R}{r:R}{ops:List Oper}
theorem StEq.put{T:TypeId}{b:Bool}{d:Nat}(h:tk σ.ts d= .dat T (.bool b)):StEq σ (σ.put d (.dat T (.bool b))):=
 ⟨fun t=>by
  show tk (jW σ.ts d _) t=_;rw[iD];split;·rename_i e;rw[e,h]
  ·rfl,fun _=>rfl,rfl⟩
theorem StEq.imp(h:StEq σ τ):Imp P n σ τ:=Rel.congr (fun t=> .inr (h.ts t)) h.hs h.k0
theorem WQ{v:AV}{T:TypeId}{b:Bool}(h:agq P v=some (some (T,b))):v= .dat T (.bool b)∧P.underlying T=some .bool:=by
 unfold agq at h;split at h;·cases h
 ·split at h;·rename_i hu;cases h;exact⟨rfl,hu⟩
  ·cases h
 ·cases h
theorem WS{v:AV}(h:agq P v=some none):v= .tup []:=by
 unfold agq at h;split at h;·rfl
 ·split at h<;>cases h
 ·cases h
theorem Qt{j d:Nat}(h:gslot ops j=some d):∃oj,ops.toArray[j]? =some oj∧oj.dst=some d:=by
 unfold gslot at h;split at h;·rename_i oj hj;exact⟨oj,by simpa using hj,h⟩
 ·cases h
theorem WT{t:Nat}(h:t∈tmpsOf o.op.operands.toList):t∈Oper.reads ops o:=by unfold Oper.reads;exact List.mem_append_right _ h
theorem KR{j d:Nat}{want:Bool}(hg:o.guard=some (j,want))(h:gslot ops j=some d):d∈Oper.reads ops o:=by unfold Oper.reads;refine aU _ ?_;rw[hg];simp[h]
theorem AgrG.toAgr{σ':St}{rd:List Nat}(h:AgrG ops o σ σ' rd):Agr o σ σ' rd:=⟨fun t ht=>h.ts t (WT ht),h.hs,h.k0⟩
theorem skip_some{k:Dl->Option R}(h:Mg n o k=some r):∃X,k X=some r∧X.rd=[]∧X.wr=[]∧((∃d,o.dst=some d∧d<n∧X.v=some (.tup []))∨(o.dst=none∧X.v=none)):=by
 unfold Mg at h;split at h
 ·rename_i d hd;obtain⟨h1,h2⟩:=aF h;exact⟨_,h2,rfl,rfl,.inl ⟨d,hd,aI h1,rfl⟩⟩
 ·rename_i hd;exact⟨_,h,rfl,rfl,.inr ⟨hd,rfl⟩⟩
theorem BS{X:Dl}{d:Nat}{v:AV}(σ':St)(hw:X.wr=[])(hd:o.dst=some d)(hv:X.v=some v):σ'.app o.dst X=σ'.put d v:=by unfold St.app;rw[hw,hd,hv];rfl
theorem BU{X:Dl}(σ':St)(hw:X.wr=[])(hv:X.v=none):σ'.app o.dst X=σ':=by unfold St.app;rw[hw,hv];cases o.dst<;>rfl
theorem lS(hcall:CallOK P call):∀{l:List Oper}{σ:St}{tr:List (Oper×Dl)}{k:St->List (Oper×Dl)->Option R},jv P E call n ops l σ tr k=some r->∃ds τ,Tr P n ops l σ ds τ∧k τ (ds.reverse++tr)=some r
 | [],σ,tr,k,h=>⟨[],σ,.nil,by simpa [jv]using h⟩
 |o::l,   σ,tr,k,h=>by
  have fin:∀{σ1:St}{X:Dl},StEq σ σ1->StepAgr P n ops o σ1 X->jv P E call n ops l (σ1.app o.dst X) ((o,X)::tr) k=some r->∃ds τ,Tr P n ops (o::l) σ ds τ∧k τ (ds.reverse++tr)=some r:=by intro σ1 X h1 h2 h3;obtain⟨ds,τ,ht,hk⟩:=lS hcall h3;exact⟨(o,X)::ds,τ,.eq h1 (.cons h2 ht),by simpa using hk⟩
  have refl:StEq σ σ:=⟨fun _=>rfl,fun _=>rfl,rfl⟩;unfold jv at h;split at h
  ·rename_i hg;obtain⟨X,hk,hs⟩:=cu hcall h;exact fin refl (fun σ' ag=> .plain hg (hs σ' ag.toAgr)) hk
  ·rename_i j want hg;split at h
   ·    rename_i d hd;obtain⟨oj,hj,hdj⟩:=Qt hd;have hread:=KR hg hd;split at h
        ·rename_i hv;have hv':=WS hv;obtain⟨X,hk,hr,hw,hc⟩:=skip_some h;refine fin refl (fun σ' ag=>?_) hk;have ht:tk σ'.ts d= .tup []:=by rw[ag.ts d hread];exact hv'
         rcases hc with⟨d',e1,e2,e3⟩| ⟨e1,e3⟩
         ·rw[BS σ' hw e1 e3];exact .skipU hg hj hdj ht e1 e2
         ·rw[BU σ' hw e3];exact .skipU' hg hj hdj ht e1
        ·rename_i T b hv;obtain⟨hv',hu⟩:=WQ hv;rcases bP h with⟨hb,h1⟩| ⟨hb,h1⟩
         ·subst hb;have heq:StEq σ (σ.put d (.dat T (.bool true))):=StEq.put hv';rcases bP h1 with⟨hw1,h2⟩| ⟨hw1,h2⟩
          ·subst hw1;obtain⟨X,hk,hs⟩:=cu hcall h2;exact fin heq (fun σ' ag=> .run hg hj hdj hu (by rw[ag.ts d hread];show tk (jW _ _ _) d=_;rw[iD];simp) rfl (hs σ' ag.toAgr)) hk
          ·subst hw1;obtain⟨X,hk,hr,hw,hc⟩:=skip_some h2;refine fin heq (fun σ' ag=>?_) hk;have ht:tk σ'.ts d= .dat T (.bool true):=by rw[ag.ts d hread];show tk (jW _ _ _) d=_;rw[iD];simp
           rcases hc with⟨d',e1,e2,e3⟩| ⟨e1,e3⟩
           ·rw[BS σ' hw e1 e3];exact .skip hg hj hdj hu ht rfl e1 e2
           ·rw[BU σ' hw e3];exact .skip' hg hj hdj hu ht rfl e1
         ·subst hb;have heq:StEq σ (σ.put d (.dat T (.bool false))):=StEq.put hv';rcases bP h1 with⟨hw1,h2⟩| ⟨hw1,h2⟩
          ·subst hw1;obtain⟨X,hk,hr,hw,hc⟩:=skip_some h2;refine fin heq (fun σ' ag=>?_) hk;have ht:tk σ'.ts d= .dat T (.bool false):=by rw[ag.ts d hread];show tk (jW _ _ _) d=_;rw[iD];simp
           rcases hc with⟨d',e1,e2,e3⟩| ⟨e1,e3⟩
           ·rw[BS σ' hw e1 e3];exact .skip hg hj hdj hu ht rfl e1 e2
           ·rw[BU σ' hw e3];exact .skip' hg hj hdj hu ht rfl e1
          ·subst hw1;obtain⟨X,hk,hs⟩:=cu hcall h2;exact fin heq (fun σ' ag=> .run hg hj hdj hu (by rw[ag.ts d hread];show tk (jW _ _ _) d=_;rw[iD];simp) rfl (hs σ' ag.toAgr)) hk
        ·cases h
   ·cases h
theorem Tr.lw{l:List Oper}{ds:List (Oper×Dl)}(h:Tr P n ops l σ ds τ):LW P n ops.toArray l σ (fun s=>s=τ):=by
 induction h with
 |nil=>exact LW.nil rfl
 |cons h _ ih=>exact LW.cons (h _ ⟨fun _ _=>rfl,fun _ _=>rfl,rfl⟩) ih
 |eq h _ ih=>exact fun ok0 w0 a w r Q hQ=>ih ok0 w0 a w (h.imp ok0 w0 a w r) Q hQ
def gB{A B:Type}(u:B->A->A)(L:Nat->Bool):Nat->List B->A->A
 |_,[],c=>c
 |i,x::r,c=>gB u L (i+1) r (bif L i then u x c else c)
theorem jg{A B:Type}{u:B->A->A}{L L':Nat->Bool}:∀{r:List B}{i:Nat}{c:A},(∀j x,r[j]? =some x->L (i+j)=L' (i+j)∨∀c,u x c=c)->gB u L i r c=gB u L' i r c
 | [],_,_,_=>rfl
 |x::r,i,c,h=>by
  simp only[gB];have h0:=h 0 x rfl;have hr:∀c,gB u L (i+1) r c=gB u L' (i+1) r c:=fun c=>jg fun j y hy=>by
   have:=h (j+1) y (by simpa using hy)
   rwa [show i+1+j=i+(j+1) by omega]
  rcases h0 with e|e;·rw[Nat.add_zero]at e;rw[e];exact hr _
  ·rw[e];cases L i<;>cases L' i<;>exact hr _
theorem BX{A B:Type}{u:B->A->A}{L:Nat->Bool}:∀{r:List B}{i:Nat}{c:A},(∀j x,r[j]? =some x->L (i+j)=true->∀c,u x c=c)->gB u L i r c=c
 | [],_,_,_=>rfl
 |x::r,i,c,h=>by
  simp only[gB];have h0:=h 0 x rfl;rw[Nat.add_zero]at h0;have:(bif L i then u x c else c)=c:=by
   cases hL:L i with
   |true=>exact h0 hL c
   |false=>rfl
  rw[this];exact BX fun j y hy hL=>h (j+1) y (by simpa using hy) (by rwa [show i+(j+1)=i+1+j by omega])
theorem FK{L:Nat->Bool}{i j:Nat}(h:j≠i):upL L i j=L j:=by
 unfold upL;cases hb:Nat.beq j i with
 |true=>exact absurd (beq_eq hb) h
 |false=>rfl
theorem aco{L:Nat->Bool}{i:Nat}:upL L i i=true:=by simp[upL]
theorem BZ{A B:Type}{u:B->A->A}{L:Nat->Bool}:∀{r:List B}{k j:Nat}{x:B}{c:A},r[j]? =some x->L (k+j)=false->((∀c,u x c=c)∨∀j' y,j<j'->r[j']? =some y->L (k+j')=true->∀c,u y c=c)->gB u (upL L (k+j)) k r c=u x (gB u L k r c)
 | [],_,_,_,_,h,_,_=>by simp at h
 |y::r,k,0,x,c,h,hL,hh=>by
  simp only[aO,aA]at h;subst h;simp only[Nat.add_zero]at hL ⊢
  simp only[gB,aco,cond_true,hL,cond_false];have e1:gB u (upL L k) (k+1) r (u y c)=gB u L (k+1) r (u y c):=jg fun j z hz=> .inl (FK (by omega));rw[e1];rcases hh with hh|hh;·rw[hh,hh]
  ·rw[BX,BX]
   ·    intro j z hz hLz;exact hh (j+1) z (by omega) (by simpa using hz) (by rwa [show k+(j+1)=k+1+j by omega])
   ·    intro j z hz hLz;exact hh (j+1) z (by omega) (by simpa using hz) (by rwa [show k+(j+1)=k+1+j by omega])
 |y::r,k,j+1,x,c,h,hL,hh=>by simp only[aR]at h;simp only[gB];rw[FK (by omega),show k+(j+1)=k+1+j by omega];exact BZ h (by rwa [show k+(j+1)=k+1+j by omega]at hL) (hh.imp id fun hh j' z hj hz hLz=>hh (j'+1) z (by omega) (by simpa using hz) (by rwa [show k+(j'+1)=k+1+j' by omega]))
def uT(t:Nat)(p:Oper×Dl)(c:AV):AV:=match p.1.dst,p.2.v with
 |some d,some v=>if t=d then v else c
 |_,_=>c
def uWl(l:Nat):List (Nat×Ob)->Ob->Ob
 | [],c=>c
 |(k,ob)::r,c=>uWl l r (if l=k then ob else c)
def uH(l:Nat)(p:Oper×Dl)(c:Ob):Ob:=uWl l p.2.wr c
def SL(L:Nat->Bool):Nat->List (Oper×Dl)->St->St
 |_,[],σ=>σ
 |i,p::r,σ=>SL L (i+1) r (bif L i then σ.app p.1.dst p.2 else σ)
theorem vk(t:Nat)(p:Oper×Dl)(σ:St):tk (σ.app p.1.dst p.2).ts t=uT t p (tk σ.ts t):=by
 unfold St.app uT XL;simp only;split
 ·rename_i d v h1 h2;simp only[h1,h2];rw[iD]
 ·rename_i h1;split;·rename_i d v h2 h3;exact absurd h3 (h1 d v h2)
  ·rfl
theorem aoR(l:Nat):∀(ws:List (Nat×Ob))(hs:List Ob),lk (wrO hs ws) l=uWl l ws (lk hs l)
 | [],_=>rfl
 |(k,ob)::r,hs=>by simp only[wrO,uWl];rw[aoR l r,dM]
theorem vo(l:Nat)(p:Oper×Dl)(σ:St):lk (σ.app p.1.dst p.2).hs l=uH l p (lk σ.hs l):=aoR l _ _
theorem KS(t:Nat)(L:Nat->Bool):∀(r:List (Oper×Dl))(i:Nat)(σ:St),tk (SL L i r σ).ts t=gB (uT t) L i r (tk σ.ts t)
 | [],_,_=>rfl
 |p::r,i,σ=>by
  simp only[SL,gB];rw[KS t L r];cases L i with
  |true=>simp only[cond_true];rw[vk]
  |false=>rfl
theorem KU(l:Nat)(L:Nat->Bool):∀(r:List (Oper×Dl))(i:Nat)(σ:St),lk (SL L i r σ).hs l=gB (uH l) L i r (lk σ.hs l)
 | [],_,_=>rfl
 |p::r,i,σ=>by
  simp only[SL,gB];rw[KU l L r];cases L i with
  |true=>simp only[cond_true];rw[vo]
  |false=>rfl
theorem KV(L:Nat->Bool):∀(r:List (Oper×Dl))(i:Nat)(σ:St),(SL L i r σ).k0=σ.k0
 | [],_,_=>rfl
 |p::r,i,σ=>by simp only[SL];rw[KV L r];cases L i<;>rfl
theorem acp{t:Nat}{p:Oper×Dl}(h:t∉p.1.dst.toList)(c:AV):uT t p c=c:=by
 unfold uT;split
 ·rename_i d v h1 h2;rw[if_neg];intro e;subst e
  rw[h1]at h;simp at h
 ·rfl
theorem IB{l:Nat}:∀{ws:List (Nat×Ob)},l∉ws.map (·.1)->∀c,uWl l ws c=c
 | [],_,_=>rfl
 |(k,ob)::r,h,c=>by simp only[List.map_cons,List.mem_cons,not_or]at h;simp only[uWl];rw[if_neg h.1];exact IB h.2 c
theorem j4{a b:List Nat}(h:XT a b=true){x:Nat}(hx:x∈a):x∉b:=by unfold XT at h;have:=List.all_eq_true.1 h x hx;exact mE (by simpa using this)
def as3(ops:List Oper)(all:List (Oper×Dl)):Prop:=∀i j p q,i<j->all[i]? =some p->all[j]? =some q->(∀L:Nat->Bool,Closed ops.toArray L->DepsL L q.1.after.toList->L i=true)∨indep ops p q=true
def acr(ops:List Oper)(ancs:List Nat):Prop:=∀(j m:Nat),ancs[j]? =some m->∃oj:Oper,ops[j]? =some oj∧∀i:Nat,m.testBit i=true->∀L:Nat->Bool,Closed ops.toArray L->DepsL L oj.after.toList->L i=true
theorem jh{ancs:List Nat}(ha:acr ops ancs):∀{es:List Edge}{i:Nat},(sO ancs es).testBit i=true->∀L:Nat->Bool,Closed ops.toArray L->DepsL L es->L i=true
 | [],i,h,L,_,_=>by simp[sO]at h
 |e::r,i,h,L,hc,hd=>by
  unfold sO at h;cases hb:Region.binds .any e with
  |false=>
   rw[hb]at h;exact jh ha (by simpa using h) L hc hd.2
  |true=>
   rw[hb]at h;have hLe:=hd.1 hb;have h':Nat.testBit ((2^e.on|||ancs.getD e.on 0)|||sO ancs r) i=true:=h;rw[Nat.testBit_or,Nat.testBit_or,Bool.or_eq_true,Bool.or_eq_true]at h';rcases h' with (h1|h1)|h1
   ·    rw[Nat.testBit_two_pow]at h1;have:e.on=i:=by simpa using h1
        subst this;exact hLe
   ·    cases hg:ancs[e.on]? with
        |none=>simp[List.getD,hg]at h1
        |some m=>
         obtain⟨oj,h2,h3⟩:=ha e.on m hg;have h4:m.testBit i=true:=by simpa [List.getD,hg]using h1
         exact h3 i h4 L hc (hc e.on oj (by simpa using h2) hLe)
   ·exact jh ha h1 L hc hd.2
theorem FL{q:Oper×Dl}{m:Nat}:∀{pre:List (Oper×Dl)}{k:Nat},Mf ops q m k pre=true->∀i p,pre[i]? =some p->m.testBit (k+i)=true∨indep ops p q=true
 | [],_,_,i,p,h=>by simp at h
 |x::r,k,h,0,p,hp=>by simp only[aO,aA]at hp;subst hp;simp only[Mf]at h;have:=aG h;rw[Bool.or_eq_true]at this;exact this
 |x::r,k,h,i+1,p,hp=>by
  simp only[aR]at hp;simp only[Mf]at h;have:=FL (aC h) i p hp
  rwa [show k+1+i=k+(i+1) by omega]at this
theorem sF:∀{rest pre:List (Oper×Dl)}{ancs:List Nat},vT ops pre ancs rest=true->acr ops ancs->ancs.length=pre.length->(pre++rest).map (·.1)=ops->∀i j p q,i<j->pre.length<=j->(pre++rest)[i]? =some p->(pre++rest)[j]? =some q->(∀L:Nat->Bool,Closed ops.toArray L->DepsL L q.1.after.toList->L i=true)∨indep ops p q=true
 | [],pre,ancs,_,_,_,_,i,j,p,q,_,hj,_,hq=>by rw[List.append_nil]at hq;rw[List.getElem?_eq_none hj]at hq;cases hq
 | x::rest,pre,ancs,h,ha,hl,hm,i,j,p,q,hij,hj,hp,hq=>by
   simp only[vT]at h;by_cases hje:j=pre.length
   ·subst hje;rw[List.getElem?_append_right (aL _),Nat.sub_self]at hq;simp only[aO,aA]at hq;subst hq;rw[List.getElem?_append_left hij]at hp;rcases FL (aG h) i p hp with h1|h1
    ·   rw[Nat.zero_add]at h1;exact .inl fun L hc hd=>jh ha h1 L hc hd
    ·exact .inr h1
   ·have hx:ops[pre.length]? =some x.1:=by rw[←hm,List.getElem?_map,List.getElem?_append_right (aL _),Nat.sub_self];rfl
    have ha':acr ops (ancs++[sO ancs x.1.after.toList]):=by
        intro k m hk;by_cases hkl:k<ancs.length
        ·rw[List.getElem?_append_left hkl]at hk;exact ha k m hk
        ·rw[List.getElem?_append_right (by omega)]at hk;have hk0:k=pre.length:=by have:=(ak.1 hk).1;simp at this;omega
         subst hk0;rw[show pre.length-ancs.length=0 by omega]at hk;simp only[aO,aA]at hk;subst hk;exact⟨x.1,hx,fun i hi L hc hd=>jh ha hi L hc hd⟩
    have e:pre++x::rest=(pre++[x])++rest:=by simp
    rw[e]at hp hq hm;exact sF (aC h) ha' (by simp[hl]) hm i j p q hij (by simp;omega) hp hq
theorem Tr.len{l:List Oper}{ds:List (Oper×Dl)}(h:Tr P n ops l σ ds τ):ds.map (·.1)=l:=by
 induction h with
 |nil=>rfl
 |cons _ _ ih=>simp[ih]
 |eq _ _ ih=>exact ih
theorem Tr.fin{l:List Oper}{ds:List (Oper×Dl)}(h:Tr P n ops l σ ds τ)(L:Nat->Bool):∀k,(∀j,j<ds.length->L (k+j)=true)->∀σ0,StEq σ0 σ->StEq (SL L k ds σ0) τ:=by
 induction h with
 |nil=>intro k _ σ0 h0;exact h0
 | @cons o r σ τ X ds _ _ ih=>
   intro k hL σ0 h0;simp only[SL];have:=hL 0 (by simp);rw[Nat.add_zero]at this;rw[this,cond_true];refine ih (k+1) (fun j hj=>by have:=hL (j+1) (by simp;omega);rwa [show k+1+j=k+(j+1) by omega]) _ ?_;exact⟨fun t=>by rw[vk t (o,X),vk t (o,X),h0.ts],fun l=>by rw[vo l (o,X),vo l (o,X),h0.hs],h0.k0⟩
 | eq h _ ih=>
   intro k hL σ0 h0;exact ih k hL σ0 ⟨fun t=>(h.ts t).trans (h0.ts t),fun l=>(h.hs l).trans (h0.hs l),h.k0.trans h0.k0⟩
theorem Tr.step{l:List Oper}{ds:List (Oper×Dl)}(h:Tr P n ops l σ ds τ):∀(k j:Nat)(p:Oper×Dl)(σ0:St),StEq σ0 σ->ds[j]? =some p->∃σ1,StepAgr P n ops p.1 σ1 p.2∧StEq (SL (fun i=>decide (i<k+j)) k ds σ0) σ1:=by
 induction h with
 |nil=>intro k j p σ0 _ hp;simp at hp
 | @cons o r σ τ X ds hs _ ih=>
   intro k j p σ0 h0 hp;cases j with
   |zero=>
    simp only[aO,aA]at hp;subst hp;refine⟨σ,hs,?_⟩;have hno:∀(r:List (Oper×Dl))(i:Nat)(s:St),k<=i->SL (fun i=>decide (i<k+0)) i r s=s:=by
        intro r;induction r with
        |nil=>intro i s _;rfl
        |cons p r ih=>intro i s hi;simp only[SL];rw[show decide (i<k+0)=false by simp;omega];exact ih (i+1) s (by omega)
    rw[hno _ k σ0 (aL _)];exact h0
   |succ j=>
    simp only[aR]at hp;simp only[SL];rw[show decide (k<k+(j+1))=true by simp,cond_true,show k+(j+1)=k+1+j by omega];exact ih (k+1) j p _ ⟨fun t=>by rw[vk t (o,X),vk t (o,X),h0.ts],fun l=>by rw[vo l (o,X),vo l (o,X),h0.hs],h0.k0⟩ hp
 | eq h _ ih=>
   intro k j p σ0 h0 hp;exact ih k j p σ0 ⟨fun t=>(h.ts t).trans (h0.ts t),fun l=>(h.hs l).trans (h0.hs l),h.k0.trans h0.k0⟩ hp
theorem FM{ds:List (Oper×Dl)}(hm:ds.map (·.1)=ops)(S:(Nat->Bool)->St):∀(l:List Oper)(k:Nat),ops.drop k=l->
  (∀i p,k<=i->ds[i]? =some p->∀L:Nat->Bool,L i=false->DepsL L p.1.after.toList->Closed ops.toArray L->∃σ',StepOK P n ops.toArray p.1 (S L) σ'∧Imp P n σ' (S (upL L i)))->DrawL P n ops.toArray S k l
 | [],_,_,_=> .nil
 |o::l,k,hd,h=>by
  have hk:k<ops.length:=by
   rcases Nat.lt_or_ge k ops.length with h1|h1;·exact h1
   ·rw[List.drop_eq_nil_of_le h1]at hd;cases hd
  rw[ay hk]at hd;obtain⟨e1,e2⟩:=List.cons.inj hd;have hkd:k<ds.length:=by rw[←List.length_map (f:=(·.1)),hm];exact hk
  have hp:ds[k]? =some ds[k]:=aB hkd;have ho:ds[k].1=o:=by
   rw[←e1];have:(ds.map (·.1))[k]? =ops[k]? :=by rw[hm]
   rw[List.getElem?_map,hp,aB hk]at this;simpa using this
  refine .cons (fun L h1 h2 h3=>?_) (FM hm S l (k+1) e2 fun i p hi=>h i p (by omega));have:=h k ds[k] (aL _) hp L h1 (by rw[ho];exact h2) h3;rw[ho]at this;exact this
theorem Ca(hmix:P.follows .mixedOrders=true){id:Nat}{ds:List (Oper×Dl)}{Y:Exit->St->Prop}(h:Tr P n ops ops σ ds τ)(hb:gW 0 ops=true)(hg:vT ops [] [] ds=true)(hp:∀τ',StEq τ τ'->Y .normal τ'):CW P n (.region id ops.toArray true) σ Y:=by
 have hm:=h.len;have hpairs:as3 ops ds:=fun i j p q hij h1 h2=>sF (pre:=[]) hg (fun j m hj=>by simp at hj) rfl (by simpa using hm) i j p q hij (aN _) (by simpa using h1) (by simpa using h2);have hlen:ds.length=ops.length:=by rw[←hm];simp
 have refl:StEq σ σ:=⟨fun _=>rfl,fun _=>rfl,rfl⟩;refine CW.draw (fun L=>SL L 0 ds σ) hmix hb ?_ ?_ ?_
 ·have:∀(r:List (Oper×Dl))(i:Nat)(s:St),SL (fun _=>false) i r s=s:=by
   intro r;induction r with
   |nil=>intro i s;rfl
   |cons p r ih=>intro i s;simp only[SL,cond_false];exact ih (i+1) s
  rw[this];exact Imp.refl
 ·refine FM hm _ ops 0 (by simp) fun i p _ hpi L hLi hdep hcl=>?_;obtain⟨σ1,hstep,heq⟩:=h.step 0 i p σ refl hpi;rw[Nat.zero_add]at heq;have hmem:∀j q,ds[j]? =some q->L j=true->DepsL L q.1.after.toList:=fun j q hq hLj=>by
   have:ops[j]? =some q.1:=by rw[←hm,List.getElem?_map,hq];rfl
   exact hcl j q.1 (by simpa using this) hLj
  have hdiff:∀j q,ds[j]? =some q->L j≠decide (j<i)->(j<i∧indep ops q p=true)∨(i<j∧indep ops p q=true):=by
   intro j q hq hne;rcases Nat.lt_trichotomy j i with hlt|heq2|hgt
   ·    left;refine⟨hlt,?_⟩;rcases hpairs j i q p hlt hq hpi with h1|h1
        ·exfalso;rw[h1 L hcl hdep]at hne;simp[hlt]at hne
        ·exact h1
   ·    subst heq2;rw[hLi]at hne;simp at hne
   ·    right;refine⟨hgt,?_⟩;have hLj:L j=true:=by
         cases hL:L j with
         |true=>rfl
         |false=>rw[hL]at hne;simp at hne;omega
        rcases hpairs i j p q hgt hpi hq with h1|h1
        ·exfalso;rw[h1 L hcl (hmem j q hq hLj)]at hLi;cases hLi
        ·exact h1
  have hagr:AgrG ops p.1 σ1 (SL L 0 ds σ) p.2.rd:=by
   refine⟨fun t ht=>?_,fun l hl=>?_,?_⟩
   ·    rw[heq.ts t,KS,KS];refine jg fun j q hq=>?_;rw[Nat.zero_add];by_cases hne:L j=decide (j<i);·exact .inl hne
        ·right;refine fun c=>acp (fun htq=>?_) c;rcases hdiff j q hq hne with⟨_,h1⟩| ⟨_,h1⟩;·exact j4 (aG h1) htq (List.mem_append_right _ ht)
         ·exact j4 (aG (aC h1)) htq ht
   ·    rw[heq.hs l,KU,KU];refine jg fun j q hq=>?_;rw[Nat.zero_add];by_cases hne:L j=decide (j<i);·exact .inl hne
        ·right;refine fun c=>IB (fun htq=>?_) c;rcases hdiff j q hq hne with⟨_,h1⟩| ⟨_,h1⟩;·exact j4 (aG (aC (aC h1))) htq (aU _ hl)
         ·exact j4 (aC (aC (aC h1))) htq hl
   ·rw[heq.k0,KV,KV]
  refine⟨_,hstep _ hagr,?_⟩;have hlater:∀j q,i<j->ds[j]? =some q->L j=true->indep ops p q=true:=by
   intro j q hij hq hLj;rcases hpairs i j p q hij hpi hq with h1|h1
   ·    exfalso;rw[h1 L hcl (hmem j q hq hLj)]at hLi;cases hLi
   ·exact h1
  refine StEq.imp ⟨fun t=>?_,fun l=>?_,?_⟩
  ·rw[   vk t p,KS,KS];have:=BZ (u:=uT t) (L:=L) (k:=0) (c:=tk σ.ts t) hpi (by rw[Nat.zero_add];exact hLi) (by
        by_cases ht:t∈p.1.dst.toList
        ·right;intro j q hij hq hLj c;rw[Nat.zero_add]at hLj;refine acp (fun htq=>?_) c;exact j4 (aG (hlater j q hij hq hLj)) ht (aU _ htq)
        ·exact .inl fun c=>acp ht c)
   rwa [Nat.zero_add]at this
  ·rw[   vo l p,KU,KU];have:=BZ (u:=uH l) (L:=L) (k:=0) (c:=lk σ.hs l) hpi (by rw[Nat.zero_add];exact hLi) (by
        by_cases ht:l∈p.2.wr.map (·.1)
        ·right;intro j q hij hq hLj c;rw[Nat.zero_add]at hLj;refine IB (fun htq=>?_) c;exact j4 (aG (aC (aC (hlater j q hij hq hLj)))) ht (List.mem_append_right _ htq)
        ·exact .inl fun c=>IB ht c)
   rwa [Nat.zero_add]at this
  ·rw[KV,atV,KV]
 ·intro L hL;have:=h.fin L 0 (fun j hj=>by rw[Nat.zero_add];exact hL j (by omega)) σ refl;exact hp _ ⟨fun t=>(this.ts t).symm,fun l=>(this.hs l).symm,this.k0.symm⟩
end
section
variable{P:Program}{n:Nat}{c c1 c2:Code}{σ τ:St}{Y Y':Exit->St->Prop}{o:Oper}
inductive DrawI (P:Program) (n:Nat) (ops:Array Oper) (I:(Nat->Bool)->St->Prop):Nat->List Oper->Prop where
 |nil {i:Nat}:DrawI P n ops I i []
 |cons {i:Nat} {o:Oper} {r:List Oper} (h:∀(L:Nat->Bool)(σ:St),I L σ->L i=false->DepsL L o.after.toList->Closed ops L->∃σ',StepOK P n ops o σ σ'∧I (upL L i) σ') (hr:DrawI P n ops I (i+1) r):DrawI P n ops I i (o::r)
theorem DrawI.get{ops:Array Oper}{I:(Nat->Bool)->St->Prop}{k:Nat}{l:List Oper}(h:DrawI P n ops I k l):∀(j:Nat)(o:Oper),l[j]? =some o->∀(L:Nat->Bool)(σ:St),I L σ->L (k+j)=false->DepsL L o.after.toList->Closed ops L->∃σ',StepOK P n ops o σ σ'∧I (upL L (k+j)) σ':=by
 induction h with
 |nil=>intro j o h;simp at h
 | @cons i o r h _ ih=>
   intro j o' hj;cases j with
   |zero=>simp only[aO,aA]at hj;subst hj;exact h
   |succ j=>
    simp only[aR]at hj;have:=ih j o' hj;rw[show i+1+j=i+(j+1) by omega]at this;exact this
theorem WU{l:List Oper}{I:(Nat->Bool)->St->Prop}(hback:gW 0 l=true)(hd:DrawI P n l.toArray I 0 l){ok0:OkX}{w0:World}{Q:Exit->Act->World->Prop}
  (hfin:∀(L:Nat->Bool)(σ:St),I L σ->(∀i,i<l.length->L i=true)->∀a w,Rel P ok0 w0 n σ a w->Q .normal a w):
  ∀(fuel:Nat)(listed:Array Bool)(σ:St)(a:Act)(w:World),I (fun j=>listed.getD j false) σ->listed.size=l.length->listed.toList.count false<=fuel->Closed l.toArray (fun j=>listed.getD j false)->Rel P ok0 w0 n σ a w->wpAny P .any l.toArray Q fuel listed a w:=by
 have hall :∀listed:Array Bool,listed.size=l.length->Region.ready .any l.toArray listed=[]->∀i,i<l.length->listed.getD i false=true:=by
  intro listed hsz hr;intro i;induction i using Nat.strongRecOn with
  |_    i ih=>
   intro hi;cases hc:listed.getD i false with
   |true=>rfl
   |    false=>
        exfalso;have hne:i∈Region.ready .any l.toArray listed:=by
          refine mem_ready.2 ⟨by simpa using hi,?_,l[i],by simp[hi],fun e he hb=>?_⟩
          ·have hlt:i<listed.size:=by omega
           simp only[Array.getD,hlt,dif_pos]at hc ⊢
           exact hc
          ·have:=qg hback i l[i] (by simp[hi]) e he hb;exact ih e.on (by omega) (by omega)
        rw[hr]at hne;simp at hne
 intro fuel;induction fuel with
 |zero=>
  intro listed σ a w hI hsz hcnt hcl r;have hnil:Region.ready .any l.toArray listed=[]:=by
   rw[List.eq_nil_iff_forall_not_mem];intro i hi;obtain⟨h1,h2,_⟩:=mem_ready.1 hi;have hlt:i<listed.size:=by rw[hsz];simpa using h1
   have h3:listed[i]=false:=by simpa [Array.getD,hlt]using h2
   have h4:List.count false listed.toList=0:=by omega
   rw[List.count_eq_zero]at h4;exact h4 (by rw[←h3];simp)
  exact⟨hnil,hfin _ σ hI (hall listed hsz hnil) a w r⟩
 |succ fuel ih=>
  intro listed σ a w hI hsz hcnt hcl r;refine⟨fun hnil=>hfin _ σ hI (hall listed hsz hnil) a w r,fun i hi=>?_⟩;obtain⟨h1,h2,o,ho,h3⟩:=mem_ready.1 hi;have hil:i<l.length:=by simpa using h1
  have hlt:i<listed.size:=by omega
  have hLi:listed.getD i false=false:=by
   have h2':listed[i]=false:=by simpa [Array.getD,hlt]using h2
   simp[Array.getD,hlt,h2']
  have ho':l[i]? =some o:=by simpa using ho
  obtain⟨σ',hstep,himp⟩:=hd.get i o ho' (fun j=>listed.getD j false) σ hI (by rw[Nat.zero_add];exact hLi) (DepsL.of h3) hcl;rw[Nat.zero_add]at himp;have hL:(fun j=>(listed.setIfInBounds i true).getD j false)=upL (fun j=>listed.getD j false) i:=by
   funext j;rw[Bo _ _ _ _ _ hlt];simp only[upL];by_cases hj:j=i;·subst hj;simp
   ·    have:Nat.beq j i=false:=by
          cases hb:Nat.beq j i with
          |true=>exact absurd (aQ hb) hj
          |false=>rfl
        rw[if_neg hj,this];rfl
  have hcl':Closed l.toArray (fun j=>(listed.setIfInBounds i true).getD j false):=by
   rw[hL];intro j oj hoj hLj;simp only[upL]at hLj;refine DepsL.of fun e he hb=>?_;have hold:listed.getD e.on false=true:=by
        cases hb2:Nat.beq j i with
        | true=>
          have:=aQ hb2;subst this;have:oj=o:=by rw[ho]at hoj;cases hoj;rfl
          subst this;exact h3 e he hb
        | false=>
          rw[hb2]at hLj;exact(hcl j oj hoj hLj).mem e he hb
   simp only[upL];cases Nat.beq e.on i with
   |true=>rfl
   |false=>exact hold
  have hcnt':(listed.setIfInBounds i true).toList.count false<=fuel:=by
   have h5:listed.toList[i]? =some false:=by
        have h2':listed[i]=false:=by simpa [Array.getD,hlt]using h2
        simp[hlt,h2']
   have h6:(listed.setIfInBounds i true).toList=listed.toList.set i true:=by simp
   rw[h6];have h7:=List.count_set (a:=true) (b:=false) (l:=listed.toList) (i:=i) (by simpa using hlt);have h8:listed.toList[i]'(by simpa using hlt)=false:=by have:=ak.1 h5;exact this.2
   have hpos:0<listed.toList.count false:=List.count_pos_iff.2 (aM h5);rw[h7,h8];show (List.count false listed.toList-1)+0<=fuel;omega
  have hK:=fun a' w'(r':Rel P ok0 w0 n σ' a' w')=>ih (listed.setIfInBounds i true) σ' a' w' (by rw[hL];exact himp) (by simpa using hsz) hcnt' hcl' r';have:=hstep ok0 w0 a w r _ Q hK;unfold wpOp;rw[ho];simp only;split;·rename_i hw;rw[if_pos hw]at this;exact .inl this
  ·rename_i hw;rw[if_neg hw]at this;exact this
theorem CW.drawI{id:Nat}{l:List Oper}(I:(Nat->Bool)->St->Prop)(hm:P.follows .mixedOrders=true)(hback:gW 0 l=true)(h0:I (fun _=>false) σ)(hd:DrawI P n l.toArray I 0 l)
  (hfin:∀(L:Nat->Bool)(τ:St),I L τ->(∀i,i<l.length->L i=true)->Y .normal τ):CW P n (.region id l.toArray true) σ Y:=fun ok0 w0 a w r Q hQ=>by
 refine wp_region_any hm ?_;have hrep:∀j,(Array.replicate l.toArray.size false).getD j false=false:=by
  intro j;simp only[Array.getD];split;·simp
  ·rfl
 have hf:(fun j=>(Array.replicate l.toArray.size false).getD j false)=fun _=>false:=funext hrep;refine WU hback hd (fun L τ hI hL a' w' r'=>hQ _ _ _ _ (hfin L τ hI hL) r') _ _ σ a _ ?_ (by simp) ?_ ?_ r.drew;·rw[hf];exact h0
 ·refine Nat.le_trans (List.count_le_length) (by simp)
 ·rw[hf];intro j oj _ hc;cases hc
theorem jo{o:Oper}{j:Nat}{L:Nat->Bool}(h:bnd o j=true)(hd:DepsL L o.after.toList):L j=true:=by unfold bnd at h;obtain⟨e,he,h1⟩:=List.any_eq_true.1 h;obtain⟨h2,h3⟩:=aJ _ _▸h1;have:=hd.mem e he h2;rw[aQ h3]at this;exact this
def chI(σ σ0 σ1 σ2 σ12 σ21 σA σB:St)(L:Nat->Bool)(τ:St):Prop:=
 (L 0=false->τ=σ)∧(L 0=true->L 1=false->L 2=false->τ=σ0)∧(L 1=true->L 2=false->τ=σ1)∧(L 1=false->L 2=true->τ=σ2)∧(L 1=true->L 2=true->L 3=false->τ=σ12∨τ=σ21)∧(L 3=true->τ=σA∨τ=σB)
theorem sG(hm:P.follows .mixedOrders=true){id:Nat}{o0 o1 o2 o3:Oper}{σ0 σ1 σ2 σ12 σ21 σA σB:St}(hc:am4 o0 o1 o2 o3=true)
  (s0:StepOK P n #[o0,o1,o2,o3] o0 σ σ0)(s1:StepOK P n #[o0,o1,o2,o3] o1 σ0 σ1)(s12:StepOK P n #[o0,o1,o2,o3] o2 σ1 σ12)(s3:StepOK P n #[o0,o1,o2,o3] o3 σ12 σA)
  (s2:StepOK P n #[o0,o1,o2,o3] o2 σ0 σ2)(s21:StepOK P n #[o0,o1,o2,o3] o1 σ2 σ21)(s3':StepOK P n #[o0,o1,o2,o3] o3 σ21 σB)(hA:Y .normal σA)(hB:Y .normal σB):CW P n (.region id #[o0,o1,o2,o3] true) σ Y:=by
 unfold am4 at hc;simp only[aJ]at hc;obtain⟨⟨⟨⟨hb,c1⟩,c2⟩,c31⟩,c32⟩:=hc;have key:∀L:Nat->Bool,Closed #[o0,o1,o2,o3] L->(L 1=true->L 0=true)∧(L 2=true->L 0=true)∧(L 3=true->L 1=true∧L 2=true):=fun L h=>
  ⟨fun h1=>jo c1 (h 1 o1 rfl h1),fun h2=>jo c2 (h 2 o2 rfl h2),fun h3=>⟨jo c31 (h 3 o3 rfl h3),jo c32 (h 3 o3 rfl h3)⟩⟩
 refine CW.drawI (l:=[o0,o1,o2,o3]) (chI σ σ0 σ1 σ2 σ12 σ21 σA σB) hm hb ⟨fun _=>rfl,fun h=>(by cases h),fun h=>(by cases h),fun _ h=>(by cases h),fun h=>(by cases h),fun h=>(by cases h)⟩ ?_ ?_
 ·refine .cons (fun L τ hI h0 hd hcl=>?_) (.cons (fun L τ hI h1 hd hcl=>?_) (.cons (fun L τ hI h2 hd hcl=>?_) (.cons (fun L τ hI h3 hd hcl=>?_) .nil)))
  ·obtain⟨k1,k2,k3⟩:=key L hcl;obtain rfl:=hI.1 h0;have n1:L 1=false:=by cases h:L 1 with|false=>rfl|true=>rw[k1 h]at h0;cases h0
   have n2:L 2=false:=by cases h:L 2 with|false=>rfl|true=>rw[k2 h]at h0;cases h0
   have n3:L 3=false:=by cases h:L 3 with|false=>rfl|true=>rw[(k3 h).1]at n1;cases n1
   refine⟨σ0,s0,fun h=>(by cases h),fun _ _ _=>rfl,fun h=>?_,fun _ h=>?_,fun h=>?_,fun h=>?_⟩;·have h:L 1=true:=h;rw[n1]at h;cases h
   ·have h:L 2=true:=h;rw[n2]at h;cases h
   ·have h:L 1=true:=h;rw[n1]at h;cases h
   ·have h:L 3=true:=h;rw[n3]at h;cases h
  ·obtain⟨k1,k2,k3⟩:=key L hcl;have h0:L 0=true:=jo c1 hd;have n3:L 3=false:=by cases h:L 3 with|false=>rfl|true=>rw[(k3 h).1]at h1;cases h1
   cases h2:L 2 with
   |    false=>
        obtain rfl:=hI.2.1 h0 h1 h2;refine⟨σ1,s1,fun h=>?_,fun _ h=>(by cases h),fun _ _=>rfl,fun h=>(by cases h),fun _ h=>?_,fun h=>?_⟩;·have h:L 0=false:=h;rw[h0]at h;cases h
        ·have h:L 2=true:=h;rw[h2]at h;cases h
        ·have h:L 3=true:=h;rw[n3]at h;cases h
   |    true=>
        obtain rfl:=hI.2.2.2.1 h1 h2;refine⟨σ21,s21,fun h=>?_,fun _ h=>(by cases h),fun _ h=>?_,fun h=>(by cases h),fun _ _ _=> .inr rfl,fun h=>?_⟩;·have h:L 0=false:=h;rw[h0]at h;cases h
        ·have h:L 2=false:=h;rw[h2]at h;cases h
        ·have h:L 3=true:=h;rw[n3]at h;cases h
  ·obtain⟨k1,k2,k3⟩:=key L hcl;have h0:L 0=true:=jo c2 hd;have n3:L 3=false:=by cases h:L 3 with|false=>rfl|true=>rw[(k3 h).2]at h2;cases h2
   cases h1:L 1 with
   |    false=>
        obtain rfl:=hI.2.1 h0 h1 h2;refine⟨σ2,s2,fun h=>?_,fun _ _ h=>(by cases h),fun h=>?_,fun _ _=>rfl,fun h=>?_,fun h=>?_⟩;·have h:L 0=false:=h;rw[h0]at h;cases h
        ·have h:L 1=true:=h;rw[h1]at h;cases h
        ·have h:L 1=true:=h;rw[h1]at h;cases h
        ·have h:L 3=true:=h;rw[n3]at h;cases h
   |    true=>
        obtain rfl:=hI.2.2.1 h1 h2;refine⟨σ12,s12,fun h=>?_,fun _ _ h=>(by cases h),fun _ h=>(by cases h),fun h=>?_,fun _ _ _=> .inl rfl,fun h=>?_⟩;·have h:L 0=false:=h;rw[h0]at h;cases h
        ·have h:L 1=false:=h;rw[h1]at h;cases h
        ·have h:L 3=true:=h;rw[n3]at h;cases h
  ·have h1:L 1=true:=jo c31 hd;have h2:L 2=true:=jo c32 hd;obtain⟨k1,k2,k3⟩:=key L hcl;have h0:=k1 h1;have fin:∀τ',(τ'=σA∨τ'=σB)->chI σ σ0 σ1 σ2 σ12 σ21 σA σB (upL L 3) τ':=fun τ' ht=>by
        refine⟨fun h=>?_,fun _ h=>?_,fun _ h=>?_,fun h=>?_,fun _ _ h=>(by cases h),fun _=>ht⟩;·have h:L 0=false:=h;rw[h0]at h;cases h
        ·have h:L 1=false:=h;rw[h1]at h;cases h
        ·have h:L 2=false:=h;rw[h2]at h;cases h
        ·have h:L 1=false:=h;rw[h1]at h;cases h
   rcases hI.2.2.2.2.1 h1 h2 h3 with rfl|rfl;·exact⟨σA,s3,fin _ (.inl rfl)⟩
   ·exact⟨σB,s3',fin _ (.inr rfl)⟩
 ·intro L τ hI hL;rcases hI.2.2.2.2.2 (hL 3 (by simp))with rfl|rfl;·exact hA
  ·exact hB
end
section
variable{P:Program}{n:Nat}{σ τ:St}{R:Type}{E:Env}{call:FuncId->List AV->List Ob->(Res->Option R)->Option R}{r:R}{K:OkX}{w0 w:World}{a:Act}{β:Nat->Option Value}
theorem WW{hs:List Ob}{l k b:Nat}(h:owns (frz1 hs l) β k b):owns hs β k b:=by
 unfold frz1 at h;split at h
 ·rename_i T es hl;obtain⟨h1,z,h2,h3⟩:=h;by_cases hkl:k=l;·subst hkl;rw[bH]at h1;cases h1
  ·rw[aS _ _ _ _ hkl]at h1;exact⟨h1,z,h2,h3⟩
 ·exact h
theorem FN:∀{ls:List Nat}{hs:List Ob}{k b:Nat},owns (frzN hs ls) β k b->owns hs β k b
 | [],_,_,_,h=>h
 |l::r,hs,k,b,h=>WW (FN (ls:=r) h)
theorem RelB.frzN:∀{ls:List Nat}{σ:St},RelB P K w0 n σ a w β->RelB P K w0 n ⟨σ.ts,frzN σ.hs ls,σ.k0⟩ a w β
 | [],_,r=>r
 |l::ls,σ,r=>by
  have:RelB P K w0 n ⟨σ.ts,frz1 σ.hs l,σ.k0⟩ a w β:=by
   unfold frz1;split;·rename_i T es hl;exact r.frz hl
   ·exact r
  exact RelB.frzN (ls:=ls) this
theorem Qu{f:AV->AV}(hf:f .dead= .dead):∀(ts:List AV)(k:Nat),tk (ts.map f) k=f (tk ts k)
 | [],k=>by simp[tk,hf]
 |v::r,0=>rfl
 |v::r,k+1=>by simp[tk,Qu hf r k]
theorem acs{hs:List Ob}:pkC P hs .dead= .dead:=rfl
theorem RV.pkC{ok:Nat->Prop}{w:World}{β:Nat->Option Value}{hs:List Ob}{v:AV}{z:Value}(hf:lI P ok w β hs)(hfa:∀l T es,lk hs l= .frz T es->bS P T=false)(h:RV P ok w β v z):RV P ok w β (pkC P hs v) z:=by
 unfold Am.pkC;split;·rename_i T d hp;exact(h.pk hf hfa hp).can
 ·exact h
theorem mZ{q:TypeId->Bool}{hs:List Ob}:∀{os:List Ob}{k l:Nat},lk (gH P q hs k os) l=lk os l∨∃T c d,lk os l= .box T c∧pk P hs c=some (T,d)∧lk (gH P q hs k os) l= .box T (.dat T (canD P T d))
 | [],k,l=>by cases k<;>exact .inl rfl
 |o::os,k+1,0=> .inl (by cases o<;>rfl)
 |o::os,k+1,l+1=>by have:=mZ (q:=q) (hs:=hs) (os:=os) (k:=k) (l:=l);cases o<;>simpa [gH,lk]using this
 |o::os,0,l+1=>by have:=mZ (q:=q) (hs:=hs) (os:=os) (k:=0) (l:=l);cases o<;>simpa [gH,lk]using this
 |o::os,0,0=>by
  cases o with
  |box   T c=>
   simp only[gH,lk];cases hq:q T with
   |true=>exact .inl rfl
   |false=>
   rw[cond_false];split
   ·    rename_i T' d hp;cases hb:Nat.beq T' T with
        |true=>
         have e:=beq_eq hb;subst e;exact .inr ⟨T',c,d,rfl,hp,rfl⟩
        |false=>exact .inl rfl
   ·exact .inl rfl
  |row T es=>exact .inl rfl
  |rowA T vs=>exact .inl rfl
  |frz T es=>exact .inl rfl
  |map T es=>exact .inl rfl
  |rowD=>exact .inl rfl
  |tok=>exact .inl rfl
  |gone=>exact .inl rfl
  |free=>exact .inl rfl
theorem RelB.packAll{q:TypeId->Bool}(r:RelB P K w0 n σ a w β)(k:Nat):RelB P K w0 n ⟨σ.ts.map (pkC P σ.hs),gH P q σ.hs k σ.hs,σ.k0⟩ a w β:=by
 have hown:∀l b,owns (gH P q σ.hs k σ.hs) β l b->owns σ.hs β l b:=by
  rintro l b ⟨h1,z,h2,h3⟩;rcases mZ (P:=P) (q:=q) (hs:=σ.hs) (os:=σ.hs) (k:=k) (l:=l)with e| ⟨T,c,d,e1,_,e3⟩;·rw[e]at h1;exact⟨h1,z,h2,h3⟩
  ·exact⟨by rw[e1];rfl,z,h2,h3⟩
 have hk:∀b,okOf K w0 w σ.hs β b->okOf K w0 w (gH P q σ.hs k σ.hs) β b∧w.heap[b]? =w.heap[b]? :=fun b hb=>⟨⟨hb.1,hb.2.1,fun l hl=>hb.2.2 l (hown l b hl)⟩,rfl⟩;refine⟨r.size,r.defers,r.below,fun t=>?_,fun l=>?_,fun l l' b h1 h2=>r.sep l l' b (hown _ _ h1) (hown _ _ h2),fun l b h1=>r.own l b (hown _ _ h1),r.ext,r.kk,r.tab.mono hk⟩
 ·show RV P _ w β (tk (σ.ts.map (pkC P σ.hs)) t) _;rw[Qu acs];exact((r.ts t).pkC r.frzOK r.frzAgg).mono hk (Ext.refl _)
 ·show ObOK P _ w β (lk (gH P q σ.hs k σ.hs) l) _;rcases mZ (P:=P) (q:=q) (hs:=σ.hs) (os:=σ.hs) (k:=k) (l:=l)with e| ⟨T,c,d,e1,e2,e3⟩;·rw[e];exact(r.hs l).mono hk (fun _ _ _ _ _=>rfl) (Ext.refl _)
  ·rw[e3];have hob:=r.hs l;rw[e1]at hob;obtain⟨b,cs,q1,q2,q3,q4⟩:=hob;have hrd:=dJ r.frzOK q4 e2;exact⟨b,cs,q1,q2,q3,.dat (by rw[rV hrd];exact hrd.mono hk)⟩
theorem KW:∀{m k i:Nat},i<m->(upto k m)[i]? =some (k+i)
 |0,k,i,h=>by omega
 |m+1,k,0,h=>rfl
 |m+1,k,i+1,h=>by simp only[upto,aR];rw[KW (by omega)];congr 1;omega
theorem KX:∀{m k:Nat},(upto k m).length=m
 |0,_=>rfl
 |m+1,k=>by simp[upto,KX]
theorem vv{hs:List Ob}{k0:Nat}{vs:List AV}{i:Nat}(h:i<k0):(wZ hs k0 vs)[i]? =some i:=by unfold wZ;rw[List.getElem?_append_left (by rw[KX];exact h),KW h,Nat.zero_add]
theorem Imp.relab:Imp P n σ (relab σ):=by
 rintro K w0 a w ⟨β,r⟩;unfold Am.relab;simp only;cases hb:nodupB (wZ σ.hs σ.k0 σ.ts)with
 |false=>exact⟨β,r⟩
 |true=>exact⟨_,r.relabel _ (fF hb) (fun i hi=>vv hi) _ fun k=> .inr (Ja _ _ _)⟩
theorem Imp.nilAll:∀(ls:List Nat)(σ:St),Imp P n σ (nilAll P σ ls)
 | [],_=>Imp.refl
 |s::ls,σ=>by
  unfold Am.nilAll;refine Imp.trans ?_ (Imp.nilAll ls _);split;·exact Imp.nilBox _
  ·exact Imp.nilSlot _
theorem Qv{f:Ob->Ob}(hf:f .free= .free):∀(hs:List Ob)(k:Nat),lk (hs.map f) k=f (lk hs k)
 | [],k=>by simp[lk,hf]
 |v::r,0=>rfl
 |v::r,k+1=>by simp[lk,Qv hf r k]
theorem amN(l nm:Nat)(o:Ob):(mvO l nm o).isOwn=o.isOwn:=by cases o<;>rfl
theorem RA.mv{ok:Nat->Prop}{w:World}{β:Nat->Option Value}{l nm:Nat}{z:Value}{c:AV}{cs:List Value}(h1:β l=some z)(h2:β nm=some z)(h:RA P ok w β c cs):RA P ok w β (mvV l nm c) cs:=by
 unfold mvV;split
 ·rename_i k;cases hb:Nat.beq k l with
  |false=>exact h
  |true=>
   have e:=beq_eq hb;subst e;cases h with
   |    row h3 h4=>
        rw[h1]at h3;cases h3;exact .row h2 h4
 ·exact h
theorem RV.mv{ok:Nat->Prop}{w:World}{β:Nat->Option Value}{l nm:Nat}{z:Value}{c:AV}{x:Value}(h1:β l=some z)(h2:β nm=some z)(h:RV P ok w β c x):RV P ok w β (mvV l nm c) x:=by
 have e:∀k,c= .row k->RV P ok w β (mvV l nm (.row k)) x:=fun k hk=>by
  subst hk;have h':=RA.mv h1 h2 (h.2 rfl);cases hb:Nat.beq k l with
  |false=>simp only[mvV,hb,cond_false];exact h
  |true=>
   simp only[mvV,hb,cond_true]at h' ⊢
   exact⟨fun hi=>by simp[AV.isAgg]at hi,fun _=>h'⟩
 cases c with
 |row k=>exact e k rfl
 |_=>exact h
theorem RelB.mvAll(r:RelB P K w0 n σ a w β){l nm:Nat}{z:Value}(h1:β l=some z)(h2:β nm=some z):RelB P K w0 n ⟨σ.ts.map (mvV l nm),σ.hs.map (mvO l nm),σ.k0⟩ a w β:=by
 have hlk:∀k,lk (σ.hs.map (mvO l nm)) k=mvO l nm (lk σ.hs k):=fun k=>Qv rfl _ _;have hown:∀k b,owns (σ.hs.map (mvO l nm)) β k b↔owns σ.hs β k b:=fun k b=>by simp only[owns,hlk,amN]
 have hk:∀b,okOf K w0 w σ.hs β b->okOf K w0 w (σ.hs.map (mvO l nm)) β b∧w.heap[b]? =w.heap[b]? :=fun b hb=>⟨⟨hb.1,hb.2.1,fun k hk=>hb.2.2 k ((hown k b).1 hk)⟩,rfl⟩;refine⟨r.size,r.defers,r.below,fun k=>?_,fun k=>?_,fun k k' b q1 q2=>r.sep k k' b ((hown _ _).1 q1) ((hown _ _).1 q2),fun k b q1=>r.own k b ((hown _ _).1 q1),r.ext,r.kk,r.tab.mono hk⟩
 ·show RV P _ w β (tk (σ.ts.map (mvV l nm)) k) _;rw[Qu rfl];exact RV.mv h1 h2 ((r.ts k).mono hk (Ext.refl _))
 ·show ObOK P _ w β (lk (σ.hs.map (mvO l nm)) k) _;rw[hlk];have h3:=(r.hs k).mono hk (fun _ _ _ _ _=>rfl) (Ext.refl _);cases ho:lk σ.hs k with
  |box T c=>
   rw[ho]at h3;obtain⟨b,cs,q1,q2,q3,q4⟩:=h3;exact⟨b,cs,q1,q2,q3,RA.mv h1 h2 q4⟩
  |row T es=>rw[ho]at h3;exact h3
  |rowA T vs=>rw[ho]at h3;exact h3
  |frz T es=>rw[ho]at h3;exact h3
  |map T es=>rw[ho]at h3;exact h3
  |rowD=>rw[ho]at h3;exact h3
  |tok=>rw[ho]at h3;exact h3
  |gone=>trivial
  |free=>rw[ho]at h3;exact h3
theorem Imp.mvAt(l:Nat):Imp P n σ (mvAt σ l):=by
 rintro K w0 a w ⟨β,r⟩;unfold Am.mvAt;cases hb:(Nat.blt l σ.k0&&Nat.ble σ.k0 σ.hs.length)with
 |false=>exact⟨β,r⟩
 |true=>
  simp only[cond_true];split
  ·rename_i T es hl;have hk0:σ.k0<=σ.hs.length:=aI (aC hb);have hob:=r.hs l;rw[hl]at hob;have hob0:=hob;obtain⟨E,z,xs,hz,_⟩:=hob0;rw[hz]at hob;have r2:=r.take l σ.hs.length (.row T es) z w (by rw[hl];simp) (dF _ _ (aL _)) hk0 rfl rfl rfl (aL _) (fun _ _ _=>rfl) (fun b hb'=> .inr ⟨by rw[hl];rfl,z,hz,hb'⟩) (fun hext hk=>hob.mono hk (fun _ _ _ _ _=>rfl) hext);have hne:l≠σ.hs.length:=by have h5:l<σ.k0:=aI (aG hb);omega
   exact⟨_,r2.mvAll (l:=l) (nm:=σ.hs.length) (z:=z) (by rw[bO _ _ _ _ hne];exact hz) (bJ _ _ _)⟩
  ·exact⟨β,r⟩
theorem Imp.mvSlot(t:Nat):Imp P n σ (mvSlot σ t):=by
 unfold Am.mvSlot;split;·exact Imp.mvAt _
 ·split;·exact Imp.mvAt _
  ·exact Imp.refl
 ·exact Imp.refl
theorem RelB.renAll(r:RelB P K w0 n σ a w β){Z:Nat->Option Nat}(hr:xg Z β β):RelB P K w0 n ⟨AV.renL Z σ.ts,σ.hs.map (Ob.ren Z),σ.k0⟩ a w β:=by
 have hlk:∀k,lk (σ.hs.map (Ob.ren Z)) k=(lk σ.hs k).ren Z:=fun k=>Qv rfl _ _;have hown:∀k b,owns (σ.hs.map (Ob.ren Z)) β k b->owns σ.hs β k b:=fun k b h=>by obtain⟨h1,h2⟩:=h;rw[hlk]at h1;exact⟨Ob.ren_own h1,h2⟩
 have hk:∀b,okOf K w0 w σ.hs β b->okOf K w0 w (σ.hs.map (Ob.ren Z)) β b∧w.heap[b]? =w.heap[b]? :=fun b hb=>⟨⟨hb.1,hb.2.1,fun k hk=>hb.2.2 k (hown k b hk)⟩,rfl⟩;refine⟨r.size,r.defers,r.below,fun k=>?_,fun k=>?_,fun k k' b q1 q2=>r.sep k k' b (hown _ _ q1) (hown _ _ q2),fun k b q1=>r.own k b (hown _ _ q1),r.ext,r.kk,r.tab.mono hk⟩
 ·show RV P _ w β (tk (AV.renL Z σ.ts) k) _;rw[Ja];exact((r.ts k).mono hk (Ext.refl _)).ren hr
 ·show ObOK P _ w β (lk (σ.hs.map (Ob.ren Z)) k) _;rw[hlk];exact((r.hs k).mono hk (fun _ _ _ _ _=>rfl) (Ext.refl _)).ren hr
theorem Imp.mvAtR(l:Nat):Imp P n σ (mvAtR σ l):=by
 rintro K w0 a w ⟨β,r⟩;unfold Am.mvAtR;cases hb:(Nat.blt l σ.k0&&(Nat.ble σ.k0 σ.hs.length&&aw4 (lk σ.hs l)))with
 |false=>exact⟨β,r⟩
 |true=>
  simp only[cond_true];have hk0:σ.k0<=σ.hs.length:=aI (aG (aC hb));have hm:=aC (aC hb);have hob:=r.hs l;obtain⟨z,hz,hown,hfr⟩:∃z,β l=some z∧(lk σ.hs l).isOwn=true∧lk σ.hs l≠ .free:=by
   cases ho:lk σ.hs l with
   |row T es=>rw[ho]at hob;obtain⟨_,z,_,e,_⟩:=hob;exact⟨z,e,rfl,nofun⟩
   |rowD T T2 c k es h=>rw[ho]at hob;rcases hob with⟨_,_,_,z,_,_,e,_⟩| ⟨_,_,_,_,_,_,_,e,_⟩<;>exact⟨_,e,rfl,nofun⟩
   |tok T ls=>rw[ho]at hob;obtain⟨_,arr,e,_⟩:=hob;exact⟨_,e,rfl,nofun⟩
   |_=>rw[ho]at hm;cases hm
  rw[hz]at hob;have r2:=r.take l σ.hs.length (lk σ.hs l) z w hfr (dF _ _ (aL _)) hk0 rfl rfl rfl (aL _) (fun _ _ _=>rfl) (fun b hb'=> .inr ⟨hown,z,hz,hb'⟩) (fun hext hk=>hob.mono hk (fun _ _ _ _ _=>rfl) hext);have hne:l≠σ.hs.length:=by have h5:l<σ.k0:=aI (aG hb);omega
  refine⟨_,r2.renAll (Z:=mvZ l σ.hs.length) fun k k' z' h1 h2=>?_⟩;unfold mvZ at h1;cases hbe:Nat.beq k l with
  |true=>
   rw[hbe]at h1;cases h1;have e:=beq_eq hbe;subst e;rw[bO _ _ _ _ hne,hz]at h2;cases h2;exact bJ _ _ _
  |false=>
   rw[hbe]at h1;cases h1;exact h2
theorem Imp.mvRL:∀(ls:List Nat)(σ:St),Imp P n σ (mvRL σ ls)
 | [],_=>Imp.refl
 |l::ls,σ=>(Imp.mvAtR l).trans (Imp.mvRL ls _)
theorem Imp.mvBoxR(s:Nat):Imp P n σ (mvBoxR σ s):=by
 unfold Am.mvBoxR;split
 ·split;·exact Imp.mvRL _ _
  ·exact Imp.refl
 ·exact Imp.refl
theorem Imp.mvL:∀(ts:List Nat)(σ:St),Imp P n σ (mvL σ ts)
 | [],_=>Imp.refl
 |t::ts,σ=>by
  refine Imp.trans ?_ (Imp.mvL ts _);cases (Nat.ble 4000000 t&&Nat.blt t 100000000);·exact Imp.mvSlot t
  ·exact Imp.mvBoxR _
theorem Imp.unfAt(l:Nat):Imp P n σ (unfAt σ l):=by
 unfold Am.unfAt;split
 ·rename_i T5 T2 c k es i m hl;split
  ·rename_i T3 ls T4 ds hk hm;cases hb:(Nat.beq T3 T2&&(Nat.beq T4 T2&&Nat.ble σ.k0 σ.hs.length))with
   |false=>exact Imp.refl
   |    true=>
        have e1:=beq_eq (aG hb);have e2:=beq_eq (aG (aC hb));subst e1 e2;rintro K w0 a w ⟨β,r⟩;exact r.unfocus hl hk hm (dF _ _ (aL _)) (aI (aC (aC hb)))
  ·exact Imp.refl
 ·exact Imp.refl
theorem Imp.unfL:∀(ls:List Nat)(σ:St),Imp P n σ (unfL σ ls)
 | [],_=>Imp.refl
 |l::ls,σ=>(Imp.unfAt l).trans (Imp.unfL ls _)
theorem Imp.frzDAt(l:Nat):Imp P n σ (frzDAt σ l):=by
 unfold Am.frzDAt;split
 ·rename_i T5 T2 c k es hl;split
  ·rename_i T3 ls hk;cases hb:(Nat.beq T3 T2&&!Ia c)with
   |false=>exact Imp.refl
   |    true=>
        have e1:=beq_eq (aG hb);subst e1;exact Imp.freezeD (by simpa using aC hb) hl hk
  ·exact Imp.refl
 ·exact Imp.refl
theorem Imp.toDAt(c:Option Nat)(l:Nat):Imp P n σ (toDAt P c σ l):=by
 unfold Am.toDAt;split
 ·rename_i T5 hl;split
  ·rename_i Te h1;split
   ·    rename_i T2 fo hf;split
        ·rename_i E2 h2;cases hb:Nat.ble σ.k0 σ.hs.length with
         |false=>exact Imp.refl
         |true=>
          rintro K w0 a w ⟨β,r⟩;exact r.toD hl (bE h1) (mH hf) (bE h2) (dF _ _ (aL _)) (aI hb)
        ·exact Imp.refl
   ·exact Imp.refl
  ·exact Imp.refl
 ·exact Imp.refl
theorem Imp.deepC(cc l:Nat):Imp P n σ (deepC P σ cc l):=by
 unfold Am.deepC;cases Nat.beq cc 99;·exact Imp.toDAt _ _
 ·exact Imp.frzDAt _
theorem Imp.deep1(s cc:Nat):Imp P n σ (deep1 P σ s cc):=by
 unfold Am.deep1;split;·exact Imp.deepC _ _
 ·split;·exact Imp.deepC _ _
  ·exact Imp.refl
 ·exact Imp.refl
theorem Imp.deep2(f s cc:Nat):Imp P n σ (deep2 P σ f s cc):=by
 unfold Am.deep2;split
 ·split
  ·split;·exact Imp.deepC _ _
   ·exact Imp.refl
  ·exact Imp.refl
 ·exact Imp.refl
theorem Imp.deepL:∀(ts:List Nat)(σ:St),Imp P n σ (deepL P σ ts)
 | [],_=>Imp.refl
 |t::ts,σ=>by
  refine Imp.trans ?_ (Imp.deepL ts _);cases Nat.ble 100000000 t
  ·cases Nat.ble 2000000 t;·exact Imp.refl
   ·exact Imp.deep1 _ _
  ·exact Imp.deep2 _ _ _
theorem Imp.norm(f:FuncId)(key:Nat):Imp P n σ (eB P E f key σ):=by
 unfold eB;split;·exact Imp.refl
 ·rename_i kp fz rw _;simp only;refine Imp.trans (Rel.congr (τ:=⟨jA kp (vW kp) σ.ts 0,σ.hs,σ.k0⟩) (fun k=>UC kp (vW kp) σ.ts 0 k) (fun _=>rfl) rfl) ?_;refine Imp.trans (Imp.frzN (sP ⟨jA kp (vW kp) σ.ts 0,σ.hs,σ.k0⟩ fz) ⟨jA kp (vW kp) σ.ts 0,σ.hs,σ.k0⟩) ?_;refine Imp.trans (Imp.gonN (mq ⟨jA kp (vW kp) σ.ts 0,σ.hs,σ.k0⟩ fz) ⟨jA kp (vW kp) σ.ts 0,Am.frzN σ.hs (sP ⟨jA kp (vW kp) σ.ts 0,σ.hs,σ.k0⟩ fz),σ.k0⟩) ?_;refine Imp.trans (Imp.unfL (upto 0 (St.mk (jA kp (vW kp) σ.ts 0) (Am.gonN (Am.frzN σ.hs (sP ⟨jA kp (vW kp) σ.ts 0,σ.hs,σ.k0⟩ fz)) (mq ⟨jA kp (vW kp) σ.ts 0,σ.hs,σ.k0⟩ fz)) σ.k0).hs.length) _) ?_;refine Imp.trans (Imp.nilAll rw _) ?_;refine Imp.trans (Imp.mvL rw _) ?_;refine Imp.trans (Imp.deepL rw _) ?_;refine Imp.trans ?_ Imp.relab;rintro K w0 a w ⟨β,r⟩;exact⟨β,r.packAll _⟩
def Post(P:Program)(n:Nat)(k:Exit->St->Option R)(r:R):Exit->St->Prop:=fun e τ=>∃τ0,Imp P n τ τ0∧k e τ0=some r
def JOK(J:Nat->Nat->Nat->St->Option R->Option R):Prop:=∀a b c s x r,J a b c s x=some r->x=some r
theorem jn_ok:JOK (R:=R) jn:=fun _ _ _ _ _ _ h=>h
theorem ql{J:Nat->Nat->Nat->St->Option R->Option R}(hJ:JOK J){c:Code}{key:Nat}{head:St->St}{body:St->(Exit->St->Option R)->Option R}(hh:∀σ,Imp P n σ (head σ))(hb:∀σ k,body σ k=some r->CW P n c σ (Post P n k r)):∀{m:Nat}{σ:St}{k:Exit->St->Option R},w9 J key head body m σ k=some r->CR P n c m σ (Post P n k r)
 |0,_,_,h=>by simp[w9]at h
 |m+1,σ,k,h=>by
  unfold w9 at h;refine CR.step ((hb _ _ h).mono ?_);rintro e τ ⟨τ0,hi,hk⟩;cases e with
  |normal=>exact(ql hJ hh hb (hJ _ _ _ _ _ _ hk)).imp (hi.trans (hh _))
  |exit id=>exact⟨τ0,hi,hk⟩
  |goto l=>exact⟨τ0,hi,hk⟩
  |ret=>exact⟨τ0,hi,hk⟩
  |panic ch=>exact⟨τ0,hi,hk⟩
  |outgrown=>exact⟨τ0,hi,hk⟩
theorem FP{fc:Option (Nat×Nat×Nat)}{k:St->Option R}(h:am3 fc σ k=some r):∃τ,Imp P n σ τ∧k τ=some r:=by
 unfold am3 at h;split at h;·exact⟨σ,Imp.refl,h⟩
 ·split  at h
  ·rename_i l i _ _;split at h
   ·    rename_i T5 T2 c kk es hl;split at h
        ·rename_i T4 ls hk;obtain⟨hc,h⟩:=aF h;have e:=beq_eq hc;subst e;obtain⟨hk0,h⟩:=dw h;obtain⟨e,he,h⟩:=aj.1 h;obtain⟨hd,h⟩:=aF h;obtain⟨e2,he2,h⟩:=aj.1 h;refine⟨_,fun K w0 a w ⟨β,r'⟩=>?_,h⟩;obtain⟨β',r2,_⟩:=r'.focus (p:=σ.hs.length) (q:=σ.hs.length+1) hl hk he hd (r'.tok_lst hk he2) (cZ σ) (dF _ _ (by omega)) (by omega) hk0 (by omega);exact⟨β',r2⟩
        ·cases h
   ·cases h
  ·cases h
theorem WX{J:Nat->Nat->Nat->St->Option R->Option R}(hJ:JOK J)(hcall:CallOK P call)(hmix:P.follows .mixedOrders=true)(m:Nat)(f:FuncId):∀(c:Code)(σ:St)(k:Exit->St->Option R),ev0 P E call J m f n c σ k=some r->CW P n c σ (Post P n k r):=by
 intro c;induction c with
 |skip=>intro σ k h;exact CW.skip ⟨σ,Imp.refl,by simpa [ev0]using h⟩
 |region id ops draw=>
  intro σ k h;have ea:ops=ops.toList.toArray:=by simp
  cases draw with
  |false=>
   simp only[ev0]at h;obtain⟨ds,τ,ht,hk⟩:=lS hcall h;rw[ea];exact CW.region ht.lw fun s e=>by rw[e];exact⟨τ,Imp.refl,hk⟩
  |true=>
   simp only[ev0]at h;obtain⟨σ2,hi2,h⟩:=FP (P:=P) (n:=n) h;refine CW.imp hi2 ?_;obtain⟨ds,τ,ht,hk⟩:=lS hcall h;obtain⟨hc,hk⟩:=aF hk;rw[ea];refine Ca hmix ht (aG hc) (by simpa using aC hc) fun τ' he=>⟨τ,?_,hk⟩;exact StEq.imp ⟨fun t=>(he.ts t).symm,fun l=>(he.hs l).symm,he.k0.symm⟩
 |seq c1 c2 ih1 ih2=>
  intro σ k h;simp only[ev0]at h;refine CW.seq ((ih1 σ _ h).mono ?_);rintro e τ ⟨τ0,hi,hk⟩;cases e with
  |normal=>
   have hk':nextK P E J f (firstId c2) τ0 (fun s=>ev0 P E call J m f n c2 s k)=some r:=hk;unfold nextK at hk';split at hk';·exact(ih2 _ _ hk').imp hi
   ·exact(ih2 _ _ (hJ _ _ _ _ _ _ hk')).imp (hi.trans (Imp.norm _ _))
  |exit id=>exact⟨τ0,hi,hk⟩
  |goto l=>exact⟨τ0,hi,hk⟩
  |ret=>exact⟨τ0,hi,hk⟩
  |panic ch=>exact⟨τ0,hi,hk⟩
  |outgrown=>exact⟨τ0,hi,hk⟩
 |cond x c1 c2 ih1 ih2=>
  intro σ k h;simp only[ev0]at h;split at h
  ·rename_i t ht;obtain⟨T,d,e1,hu,rfl⟩:=iB ht;have hev:=gY (P:=P) (σ:=σ) (x:=x) (T:=0) (D:=E.dt);rw[e1]at hev;rcases bP h with⟨hb,h1⟩| ⟨hb,h1⟩;·exact CW.condT hu (hev.cbool hu) hb (ih1 σ k h1)
   ·exact CW.condF hu (hev.cbool hu) hb (ih2 σ k h1)
  ·cases h
 |block id c ih=>
  intro σ k h;simp only[ev0]at h;refine CW.block ((ih σ _ h).mono ?_);rintro e τ ⟨τ0,hi,hk⟩;cases e with
  |exit id'=>
   simp only[amA];replace hk:(bif Nat.beq id' id then k .normal τ0 else k (.exit id') τ0)=some r:=hk;cases hb:Nat.beq id' id with
   |true=>rw[hb]at hk;exact⟨τ0,hi,hk⟩
   |false=>rw[hb]at hk;exact⟨τ0,hi,hk⟩
  |normal=>exact⟨τ0,hi,hk⟩
  |goto l=>exact⟨τ0,hi,hk⟩
  |ret=>exact⟨τ0,hi,hk⟩
  |panic ch=>exact⟨τ0,hi,hk⟩
  |outgrown=>exact⟨τ0,hi,hk⟩
 |loop c ih=>
  intro σ k h;simp only[ev0]at h;exact CW.loop ((ql hJ (fun σ=>Imp.norm f (firstId c)) (fun σ k h=>ih σ k h) (hJ _ _ _ _ _ _ h)).imp (Imp.norm f (firstId c)))
 |rangeFunc=>intro σ k h;simp[ev0]at h
 |exit id=>intro σ k h;exact CW.exit ⟨σ,Imp.refl,by simpa [ev0]using h⟩
 |scope c ih=>
  intro σ k h;simp only[ev0]at h;have h1:=ih σ _ h;have h2:CW P n c σ (fun e τ=>(∀l,e≠ .goto l)∧Post P n k r e τ):=h1.mono (by
   rintro e τ ⟨τ0,hi,hk⟩;cases e with
   |goto l=>cases hk
   |normal=>exact⟨(fun l e=>by cases e),τ0,hi,hk⟩
   |exit id=>exact⟨(fun l e=>by cases e),τ0,hi,hk⟩
   |ret=>exact⟨(fun l e=>by cases e),τ0,hi,hk⟩
   |panic ch=>exact⟨(fun l e=>by cases e),τ0,hi,hk⟩
   |outgrown=>exact⟨(fun l e=>by cases e),τ0,hi,hk⟩)
  exact(CW.scope h2 fun l τ hc=>hc.1 l rfl).mono fun e τ hc=>hc.2
 |label l=>intro σ k h;exact CW.label ⟨σ,Imp.refl,by simpa [ev0]using h⟩
 |goto l=>intro σ k h;simp[ev0]at h
 |ret=>intro σ k h;exact CW.ret ⟨σ,Imp.refl,by simpa [ev0]using h⟩
 |refuse w=>intro σ k h;simp[ev0]at h
theorem Tn{c1 c2:Code}{q:Oper×Oper×Oper×Oper}(h:ags c1 c2=some q):(∃id,c1= .region id #[q.1,q.2.1,q.2.2.1,q.2.2.2] true)∧am4 q.1 q.2.1 q.2.2.1 q.2.2.2=true∧q.1.guard=none∧q.2.1.guard=none∧q.2.2.1.guard=none∧q.2.2.2.guard=none:=by
 have hg:∀o:Oper,noG o=true->o.guard=none:=fun o h=>by
  unfold noG at h;split at h;·assumption
  ·cases h
 unfold ags at h;split at h
 ·rename_i id ops _ _ _;split at h
  ·rename_i o0 o1 o2 o3;obtain⟨hb,h⟩:=aF h;cases h;simp only[aJ]at hb;obtain⟨_,_,_,h4,h5,h6,h7,h8⟩:=hb;exact⟨⟨id,rfl⟩,h4,hg _ h5,hg _ h6,hg _ h7,hg _ h8⟩
  ·cases h
 ·cases h
theorem amO{a b:St}(h:agt a b=true):a=b:=by
 have hob:∀{x y:List Ob},Uv x y=true->x=y:=by
  intro x;induction x with
  |nil=>intro y h;cases y with|nil=>rfl|cons=>cases h
  |cons o r ih=>
   intro y h;cases y with
   |nil=>cases h
   |    cons p s=>
        rw[Uv,aJ,Bool.or_eq_true]at h;rw[ih h.2];rcases h.1 with h1|h1;·rw[Ur h1]
        ·cases o<;>cases p<;>first|rfl|(unfold aw6 at h1;cases h1)
 unfold agt at h;simp only[aJ]at h;obtain⟨h1,h2,h3⟩:=h;obtain⟨ts,hs,k0⟩:=a;obtain⟨ts',hs',k0'⟩:=b;have e1:ts=ts':=j6 h1;have e2:hs=hs':=hob h2;have e3:k0=k0':=aQ h3;rw[e1,e2,e3]
theorem FR(hmix:P.follows .mixedOrders=true){m:Nat}{f:FuncId}{c:Code}{e:Exit}{s:St}(h:inn P E m f n c σ=some (e,s)):CW P n c σ fun e' τ=>e'=e∧Imp P n τ s:=by
 have hJ:JOK (R:=Exit×St) fun _ _ _ _ x=>x:=fun _ _ _ _ _ _ h=>h;have hcall:CallOK (R:=Exit×St) P fun _ _ _ _=>none:=by intro f args objs K r h;cases h
 refine(WX hJ hcall hmix m f c σ _ h).mono ?_;rintro e' τ ⟨τ0,hi,hk⟩;cases hk;exact⟨rfl,hi⟩
theorem WY(hcall:CallOK P call)(hmix:P.follows .mixedOrders=true){J:Nat->Nat->Nat->St->Option R->Option R}{m:Nat}{f:FuncId}{c1 c2:Code}{q:Oper×Oper×Oper×Oper}{k:Exit->St->Option R}(hq:ags c1 c2=some q)
  (ih2:∀(σ:St)(k:Exit->St->Option R),ev P E call J m f n c2 σ k=some r->CW P n c2 σ (Post P n k r))
  (h:(XV P E call n q.1 q.2.1 q.2.2.1 q.2.2.2 σ fun σA σB=>same (ev P E call J m f n c2 σA k) (ev P E call J m f n c2 σB k))=some r):CW P n (.seq c1 c2) σ (Post P n k r):=by
 obtain⟨⟨id,rfl⟩,hc,g0,g1,g2,g3⟩:=Tn hq;obtain⟨o0,o1,o2,o3⟩:=q;simp only at h hc g0 g1 g2 g3 ⊢
 unfold XV at h;have refl:∀(o:Oper)(s:St)(rd:List Nat),Agr o s s rd:=fun o s rd=>⟨fun _ _=>rfl,fun _ _=>rfl,rfl⟩;obtain⟨d0,h,t0⟩:=cu hcall h;obtain⟨d1,h,t1⟩:=cu hcall h;obtain⟨d2,h,t2⟩:=cu hcall h;obtain⟨d3,h,t3⟩:=cu hcall h;obtain⟨e2,h,u2⟩:=cu hcall h;obtain⟨e1,h,u1⟩:=cu hcall h;obtain⟨e3,h,u3⟩:=cu hcall h;obtain⟨hA,hB⟩:=XU h;exact CW.seq (sG hmix (Y:=fun e τ=>_) hc (.plain g0 (t0 _ (refl _ _ _))) (.plain g1 (t1 _ (refl _ _ _))) (.plain g2 (t2 _ (refl _ _ _))) (.plain g3 (t3 _ (refl _ _ _))) (.plain g2 (u2 _ (refl _ _ _))) (.plain g1 (u1 _ (refl _ _ _))) (.plain g3 (u3 _ (refl _ _ _))) (ih2 _ _ hA) (ih2 _ _ hB))
theorem acu(hcall:CallOK P call)(hmix:P.follows .mixedOrders=true){m:Nat}{f:FuncId}{c1 c2:Code}{q:Oper×Oper×Oper×Oper}{k:Exit->St->Option R}(hq:ags c1 c2=some q)
  (h:(XV P E call n q.1 q.2.1 q.2.2.1 q.2.2.2 σ fun σA σB=>match inn P E m f n c2 σA,inn P E m f n c2 σB with
   |    some (.normal,s1),some (.normal,s2)=>(match mrg P E f q.1.dst s1 s2 with
        |some s=>k .normal s
        |none=>none)
   |_,_=>none)=some r):CW P n (.seq c1 c2) σ (Post P n k r):=by
 obtain⟨⟨id,rfl⟩,hc,g0,g1,g2,g3⟩:=Tn hq;obtain⟨o0,o1,o2,o3⟩:=q;simp only at h hc g0 g1 g2 g3 ⊢
 unfold XV at h;have refl:∀(o:Oper)(s:St)(rd:List Nat),Agr o s s rd:=fun o s rd=>⟨fun _ _=>rfl,fun _ _=>rfl,rfl⟩;obtain⟨d0,h,t0⟩:=cu hcall h;obtain⟨d1,h,t1⟩:=cu hcall h;obtain⟨d2,h,t2⟩:=cu hcall h;obtain⟨d3,h,t3⟩:=cu hcall h;obtain⟨e2,h,u2⟩:=cu hcall h;obtain⟨e1,h,u1⟩:=cu hcall h;obtain⟨e3,h,u3⟩:=cu hcall h;dsimp only at h;split at h
 ·rename_i s1 s2 hA hB;split at h
  ·rename_i s hs;unfold mrg at hs;obtain⟨hb,hs⟩:=aF hs;have he:=amO hb;cases hs;have pA:=FR hmix hA;have pB:=FR hmix hB;refine CW.seq (sG hmix (Y:=fun e τ=>_) hc (.plain g0 (t0 _ (refl _ _ _))) (.plain g1 (t1 _ (refl _ _ _))) (.plain g2 (t2 _ (refl _ _ _))) (.plain g3 (t3 _ (refl _ _ _))) (.plain g2 (u2 _ (refl _ _ _))) (.plain g1 (u1 _ (refl _ _ _))) (.plain g3 (u3 _ (refl _ _ _))) ?_ ?_)
   ·    refine pA.mono ?_;rintro e' τ ⟨rfl,hi⟩;exact⟨_,hi.trans (Imp.norm _ _),h⟩
   ·    refine pB.mono ?_;rintro e' τ ⟨rfl,hi⟩;refine⟨_,hi.trans (Imp.norm (E:={E with keep:=fun _ _=>some (rmD o0.dst (XW 0 s1.ts s2.ts),[],[])}) f 1),?_⟩;rw[←he];exact h
  ·cases h
 ·cases h
theorem acv{J:Nat->Nat->Nat->St->Option R->Option R}(hJ:JOK J)(hcall:CallOK P call)(hmix:P.follows .mixedOrders=true)(m:Nat)(f:FuncId):∀(c:Code)(σ:St)(k:Exit->St->Option R),ev P E call J m f n c σ k=some r->CW P n c σ (Post P n k r):=by
 intro c;induction c with
 |skip=>intro σ k h;exact CW.skip ⟨σ,Imp.refl,by simpa [ev]using h⟩
 |region id ops draw=>
  intro σ k h;have ea:ops=ops.toList.toArray:=by simp
  cases draw with
  |false=>
   simp only[ev]at h;obtain⟨ds,τ,ht,hk⟩:=lS hcall h;rw[ea];exact CW.region ht.lw fun s e=>by rw[e];exact⟨τ,Imp.refl,hk⟩
  |true=>
   simp only[ev]at h;obtain⟨σ2,hi2,h⟩:=FP (P:=P) (n:=n) h;refine CW.imp hi2 ?_;obtain⟨ds,τ,ht,hk⟩:=lS hcall h;obtain⟨hc,hk⟩:=aF hk;rw[ea];refine Ca hmix ht (aG hc) (by simpa using aC hc) fun τ' he=>⟨τ,?_,hk⟩;exact StEq.imp ⟨fun t=>(he.ts t).symm,fun l=>(he.hs l).symm,he.k0.symm⟩
 |seq c1 c2 ih1 ih2=>
  intro σ k h;simp only[ev]at h;split at h
  rotate_left
  ·rename_i q hq;rcases bP h with⟨_,h⟩| ⟨_,h⟩;·exact WY hcall hmix hq ih2 h
   ·exact acu hcall hmix hq h
  refine CW.seq ((ih1 σ _ h).mono ?_);rintro e τ ⟨τ0,hi,hk⟩;cases e with
  |normal=>
   have hk':nextK P E J f (firstId c2) τ0 (fun s=>ev P E call J m f n c2 s k)=some r:=hk;unfold nextK at hk';split at hk';·exact(ih2 _ _ hk').imp hi
   ·exact(ih2 _ _ (hJ _ _ _ _ _ _ hk')).imp (hi.trans (Imp.norm _ _))
  |exit id=>exact⟨τ0,hi,hk⟩
  |goto l=>exact⟨τ0,hi,hk⟩
  |ret=>exact⟨τ0,hi,hk⟩
  |panic ch=>exact⟨τ0,hi,hk⟩
  |outgrown=>exact⟨τ0,hi,hk⟩
 |cond x c1 c2 ih1 ih2=>
  intro σ k h;simp only[ev]at h;split at h
  ·rename_i t ht;obtain⟨T,d,e1,hu,rfl⟩:=iB ht;have hev:=gY (P:=P) (σ:=σ) (x:=x) (T:=0) (D:=E.dt);rw[e1]at hev;rcases bP h with⟨hb,h1⟩| ⟨hb,h1⟩;·exact CW.condT hu (hev.cbool hu) hb (ih1 σ k h1)
   ·exact CW.condF hu (hev.cbool hu) hb (ih2 σ k h1)
  ·cases h
 |block id c ih=>
  intro σ k h;simp only[ev]at h;refine CW.block ((ih σ _ h).mono ?_);rintro e τ ⟨τ0,hi,hk⟩;cases e with
  |exit id'=>
   simp only[amA];replace hk:(bif Nat.beq id' id then k .normal τ0 else k (.exit id') τ0)=some r:=hk;cases hb:Nat.beq id' id with
   |true=>rw[hb]at hk;exact⟨τ0,hi,hk⟩
   |false=>rw[hb]at hk;exact⟨τ0,hi,hk⟩
  |normal=>exact⟨τ0,hi,hk⟩
  |goto l=>exact⟨τ0,hi,hk⟩
  |ret=>exact⟨τ0,hi,hk⟩
  |panic ch=>exact⟨τ0,hi,hk⟩
  |outgrown=>exact⟨τ0,hi,hk⟩
 |loop c ih=>
  intro σ k h;simp only[ev]at h;exact CW.loop ((ql hJ (fun σ=>Imp.norm f (firstId c)) (fun σ k h=>ih σ k h) (hJ _ _ _ _ _ _ h)).imp (Imp.norm f (firstId c)))
 |rangeFunc=>intro σ k h;simp[ev]at h
 |exit id=>intro σ k h;exact CW.exit ⟨σ,Imp.refl,by simpa [ev]using h⟩
 |scope c ih=>
  intro σ k h;simp only[ev]at h;have h1:=ih σ _ h;have h2:CW P n c σ (fun e τ=>(∀l,e≠ .goto l)∧Post P n k r e τ):=h1.mono (by
   rintro e τ ⟨τ0,hi,hk⟩;cases e with
   |goto l=>cases hk
   |normal=>exact⟨(fun l e=>by cases e),τ0,hi,hk⟩
   |exit id=>exact⟨(fun l e=>by cases e),τ0,hi,hk⟩
   |ret=>exact⟨(fun l e=>by cases e),τ0,hi,hk⟩
   |panic ch=>exact⟨(fun l e=>by cases e),τ0,hi,hk⟩
   |outgrown=>exact⟨(fun l e=>by cases e),τ0,hi,hk⟩)
  exact(CW.scope h2 fun l τ hc=>hc.1 l rfl).mono fun e τ hc=>hc.2
 |label l=>intro σ k h;exact CW.label ⟨σ,Imp.refl,by simpa [ev]using h⟩
 |goto l=>intro σ k h;simp[ev]at h
 |ret=>intro σ k h;exact CW.ret ⟨σ,Imp.refl,by simpa [ev]using h⟩
 |refuse w=>intro σ k h;simp[ev]at h
def kI(tmps:Array Value):ResultVar->Sem Value
 | .tmp t=>pure (tmps.getD t undef)
 | .cell a t=>do loadVar t (←asAddr (tmps.getD a undef))
theorem Cb(r:RelB P K w0 n σ a w β):∀{rs:List ResultVar}{vs:List AV},QT P σ rs=some vs->
   ∃zs:List Value,(rs.mapM (kI a.tmps)).run P w= .ok zs w∧RVsX P (okOf K w0 w σ.hs β) w β vs zs∧∀v∈vs,v≠ .dead∧∀us,v≠ .tup us
 | [],vs,h=>by
   have h':some []=some vs:=by simpa [QT]using h
   cases h';exact⟨[],rfl,.nil,by simp⟩
 | .tmp t::rs,vs,h=>by
   unfold QT at h;split at h;·cases h
   ·cases h
   ·rename_i h3 h4;split at h
    ·   rename_i us hus;cases h;obtain⟨zs,q1,q2,q3⟩:=Cb r hus;refine⟨a.tmps.getD t undef::zs,by simp[List.mapM_cons,kI,q1],.cons (r.ts t) q2,fun v hv=>?_⟩;rcases List.mem_cons.1 hv with e|hv;·subst e;exact⟨h3,fun us e=>h4 us e⟩
        ·exact q3 v hv
    ·cases h
 | .cell p T::rs,vs,h=>by
   unfold QT at h;split at h
   ·rename_i l hp;split at h
    ·   rename_i T' c hl;obtain⟨hc,h2⟩:=aF h;clear h;have e:=beq_eq (aG hc);subst e;obtain⟨s1,s2,⟨D,hD⟩,s4,s5⟩:=dK (aG (aC hc));have hag:c.isAgg P=bS P T':=by simpa using aC (aC hc)
        split at h2
        ·rename_i us hus;cases h2;obtain⟨zs,q1,q2,q3⟩:=Cb r hus;have hr:=r.ts p;rw[hp]at hr;have hr':=hr.2 rfl;generalize hz:a.tmps.getD p undef=z at hr';cases hr' with
         | @ptr _ b _ _ hb=>
           have hob:=r.hs l;rw[hl,hb]at hob;obtain⟨b',cs,e,hblk,hsz,hra⟩:=hob;cases e;obtain⟨zv,hrun,hrv⟩:=kH (P:=P) (T:=T') (v:=c) (ok:=okOf K w0 w σ.hs β) (w:=w) (β:=β) (ad:=⟨b,0,none⟩) (cs:=cs.toList) hD (by simpa using hsz)
            (fun j u hj=>by rw[eP,Nat.zero_add,cell_of_row w b j cs T' (0,0) hblk];simpa using hj) (fun hf=>s4 (by rw[hag];exact hf)) hag hra s2
           refine⟨zv::zs,?_,.cons hrv q2,fun v hv=>?_⟩
           ·simp only[Instr.loadAt,Instr.sureAddr,Sem.run_bind,Sem.run_pure,Result.andThen_ok]at hrun;simp[List.mapM_cons,kI,hz,asAddr,hrun,q1]
           ·rcases List.mem_cons.1 hv with e|hv;·subst e;exact⟨s1,s2⟩
            ·exact q3 v hv
        ·cases h2
    ·cases h
   ·cases h
theorem Qw{fn:Func}{zs:List Value}(hm:(fn.results.toList.mapM (kI a.tmps)).run P w= .ok zs w):(results fn a.tmps).run P w= .ok (if h:zs.toArray.size=1 then zs.toArray[0]else .tuple zs.toArray) w:=by
 have hm:(fn.results.mapM (kI a.tmps)).run P w= .ok zs.toArray w:=by
  have:fn.results.mapM (kI a.tmps)=(fn.results.toList.mapM (kI a.tmps))>>=fun l=>pure l.toArray:=by rw[Array.mapM_eq_mapM_toList];rfl
  rw[this,Sem.run_bind,hm];rfl
 have:results fn a.tmps=(fn.results.mapM (kI a.tmps))>>=fun vs=>pure (if h:vs.size=1 then vs[0]else .tuple vs):=by
  unfold results;have hf:(fun x=>match x with| .tmp t=>pure (a.tmps.getD t undef)| .cell a_1 t=>do loadVar t (←asAddr (a.tmps.getD a_1 undef)):ResultVar->Sem Value)=kI a.tmps:=by funext x;cases x<;>rfl
  rw[←hf];rfl
 rw[this,Sem.run_bind,hm];rfl
theorem RVsX.pack{ok:Nat->Prop}{vs:List AV}{zs:List Value}(h:RVsX P ok w β vs zs)(hv:∀v∈vs,v≠ .dead∧∀us,v≠ .tup us):RV P ok w β (jw vs) (if h:zs.toArray.size=1 then zs.toArray[0]else .tuple zs.toArray):=by
 match vs,zs,h,hv with
 | [v],[z],.cons h .nil,_=>simpa [jw]using h
 | [],[],.nil,_=>exact⟨#[],by simp,rfl,fun i av hv=>by simp at hv⟩
 |v1::v2::vr,z1::z2::zr,h,hv=>
  refine⟨(z1::z2::zr).toArray,by simp,by simpa using h.len,fun i av hav=>?_⟩;obtain⟨z,q1,q2⟩:=h.get i av hav;obtain⟨q3,q4⟩:=hv av (aM hav);have e:(z1::z2::zr).toArray.getD i undef=z:=by simp only[Array.getD_eq_getD_getElem?,List.getElem?_toArray,q1,Option.getD_some]
  rw[e];exact RV.to1 q3 q4 q2
theorem RVsX.mapC{ok:Nat->Prop}{hs:List Ob}{vs:List AV}{zs:List Value}(hf:lI P ok w β hs)(hfa:∀l T es,lk hs l= .frz T es->bS P T=false)(h:RVsX P ok w β vs zs):RVsX P ok w β (vs.map (pkC P hs)) zs:=by
 induction h with
 |nil=>exact .nil
 |cons h _ ih=>exact .cons (h.pkC hf hfa) ih
theorem Cc{src:List Nat}{Z:Nat->Option Nat}{hs:List Ob}:∀b,okOf K w0 w hs β b->okOf K w0 w (gT Z hs src) (gU src β) b∧w.heap[b]? =w.heap[b]? :=by rintro b ⟨h1,h2,h3⟩;refine⟨⟨h1,h2,fun k hk=>?_⟩,rfl⟩;obtain⟨l,_,h5⟩:=kr hk;exact h3 l h5
theorem wR{Z:Nat->Option Nat}:∀vs:List AV,(jw vs).ren Z=jw (AV.renL Z vs)
 | []=>rfl
 | [v]=>rfl
 |_::_::_=>rfl
theorem WZ{f:FuncId}{fn:Func}{q:Res}(r:RelB P K w0 n σ a w β)(h:fin P E f fn σ=some q):∃z β',(results fn a.tmps).run P w= .ok z w∧RelB P K w0 n ⟨[],q.2,σ.k0⟩ a w β'∧RV P (okOf K w0 w q.2 β') w β' q.1 z:=by
 unfold fin at h;split at h
 ·rename_i vs hvs;obtain⟨zs,q1,q2,q3⟩:=Cb r hvs;have hres:=Qw (fn:=fn) q1;cases hraw:E.raw f with
  |true=>
   rw[hraw]at h;simp only[cond_true]at h;obtain⟨src,hsrc⟩:∃src,wZ (kN σ.hs σ.hs.length (AV.n2rL P vs σ.hs.length).2) σ.k0 (AV.n2rL P vs σ.hs.length).1=src:=⟨_,rfl⟩;rw[hsrc]at h;obtain⟨hc,h3⟩:=aF h;clear h;obtain⟨hc2,h4⟩:=aF h3;clear h3;cases h4;have hk0:σ.k0<=σ.hs.length:=aI (aC hc);obtain⟨β1,r1,ex1,nb1,ok1⟩:=sD (P:=P) (n:=n) _ σ K w0 w a β σ.hs.length r (xP P vs σ.hs.length) (fun i h3 h4=>dF _ _ h3) hk0;have r2:=r1.relabel src (fF (aG hc)) (fun i hi=>by rw[←hsrc];exact vv hi) [] (fun k=> .inl rfl);have hv1:=(q2.mono (fun b hb=>⟨ok1 b hb,rfl⟩) ex1).n2r _ nb1;have hv2:=(hv1.mono (Cc (src:=src) (Z:=ix src)) (Ext.refl _)).ren (kM src β1);refine⟨_,_,hres,r2,?_⟩;show RV P _ w _ ((jw _).ren _) _;rw[wR];exact hv2.pack (noDead_get hc2)
  |false=>
   rw[hraw]at h;simp only[cond_false]at h;obtain⟨src,hsrc⟩:∃src,wZ (frzN σ.hs (AV.rwsL vs)) σ.k0 (vs.map (pkC P (frzN σ.hs (AV.rwsL vs))))=src:=⟨_,rfl⟩;rw[hsrc]at h;obtain⟨hc,h3⟩:=aF h;clear h;obtain⟨hc2,h4⟩:=aF h3;clear h3;cases h4;have r1:=r.frzN (ls:=AV.rwsL vs);have r2:=r1.relabel src (fF hc) (fun i hi=>by rw[←hsrc];exact vv hi) [] (fun k=> .inl rfl);have hv1:=(q2.mono (fun b hb=>⟨⟨hb.1,hb.2.1,fun l hl=>hb.2.2 l (FN hl)⟩,rfl⟩) (Ext.refl _)).mapC r1.frzOK r1.frzAgg;have hv2:=(hv1.mono (Cc (src:=src) (Z:=ix src)) (Ext.refl _)).ren (kM src β);refine⟨_,_,hres,r2,?_⟩;show RV P _ w _ ((jw _).ren _) _;rw[wR];exact hv2.pack (noDead_get hc2)
 ·cases h
where noDead_get:∀{vs:List AV},Cw vs=true->∀v∈vs,v≠ .dead∧∀us,v≠ .tup us
 | [],_,v,hv=>by simp at hv
 |u   ::r,h,v,hv=>by
  unfold Cw at h;rcases List.mem_cons.1 hv with e|hv
  ·   subst e;have:=aG h;split at this;·cases this
      ·cases this
      ·rename_i h3 h4;exact⟨h3,fun us e=>h4 us e⟩
  ·exact noDead_get (aC h) v hv
structure EnvOK (P:Program) (E:Env):Prop where
 fns:∀f fn,E.fns f=some fn->P.funcs[f]? =some fn∧(fn.name== "runtime.NumGoroutine")=false
 orc:∀f oc args objs(q:Res),E.orc f=some oc->oc args objs=some q->FX P f args objs q.1 q.2∧HasBody P f
 mix:P.follows .mixedOrders=true
theorem acw:∀(vs:List AV)(k:Nat),vs.length<=k->tk vs k= .dead
 | [],_,_=>rfl
 |_::r,0,h=>by simp at h
 |_::r,k+1,h=>by simp only[tk];exact acw r k (by simpa using h)
theorem Imp.mvAll:∀(rs:List ResultVar)(σ:St),Imp P n σ (mvAll σ rs)
 | [],_=>Imp.refl
 | .tmp t::rs,σ=>(Imp.mvSlot t).trans (Imp.mvAll rs _)
 | .cell _ _::rs,σ=>Imp.mvAll rs σ
theorem KY:∀(ls:List Nat)(hs:List Ob)(l:Nat),(∀T es,lk hs l≠ .row T es)->lk (Am.frzN hs ls) l=lk hs l
 | [],_,_,_=>rfl
 |k::ls,hs,l,h=>by
  have h1:lk (frz1 hs k) l=lk hs l:=by
   unfold frz1;split
   ·    rename_i T es hk;refine aS _ _ _ _ fun e=>?_;subst e;exact h _ _ hk
   ·rfl
  show lk (Am.frzN (frz1 hs k) ls) l=lk hs l;rw[KY ls (frz1 hs k) l (by rw[h1];exact h),h1]
theorem Ce{Te:TypeId}{hs:List Ob}{ok:Nat->Prop}{w:World}{β:Nat->Option Value}(hf:lI P ok w β hs):∀{vs:List AV}{ds:List Dt},j5 P hs Te vs=some ds->vs.length=ds.length∧∀(i:Nat)(d:Dt),ds[i]? =some d->∃v,vs[i]? =some v∧∀cs,RA P ok w β v cs->RD P ok w Te d cs
 | [],ds,h=>by
   have h':some []=some ds:=by simpa [j5]using h
   cases h';exact⟨rfl,fun i d hd=>by simp at hd⟩
 | v::vs,ds,h=>by
   unfold j5 at h;split at h
   ·rename_i T d hp;obtain⟨hc,h2⟩:=aF h;split at h2
    ·   rename_i ds' hds;cases h2;obtain⟨q1,q2⟩:=Ce hf hds;refine⟨by simp[q1],fun i d' hd=>?_⟩;cases i with
        |zero=>
         simp only[aO,aA]at hd;subst hd;exact⟨v,rfl,fun cs hr=>(dJ hf hr hp).compat (aG hc)⟩
        |succ i=>
         simp only[aR]at hd;obtain⟨v',h1,h2⟩:=q2 i d' hd;exact⟨v',by simpa using h1,h2⟩
    ·cases h2
   ·cases h
theorem Imp.flat1(l:Nat):Imp P n σ (flat1 P σ l):=by
 unfold Am.flat1;split
 ·rename_i T vs hl;split
  ·rename_i Te hTe;split
   ·    rename_i ds hds;refine Imp.trans (Imp.frzN (AV.rwsL vs) σ) ?_;rintro K w0 a w ⟨β,r⟩;have hl2:lk (Am.frzN σ.hs (AV.rwsL vs)) l= .rowA T vs:=by rw[KY _ _ _ (by intro T' es;rw[hl];simp)];exact hl
        have hob:=r.hs l;have hl3:lk (St.mk σ.ts (Am.frzN σ.hs (AV.rwsL vs)) σ.k0).hs l= .rowA T vs:=hl2;rw[hl3]at hob;obtain⟨E',z,xs,hz,hu,hown,hone,hr⟩:=hob;obtain rfl:Te=E':=by have:=bE hTe;rw[this]at hu;cases hu;rfl
        obtain⟨q1,q2⟩:=Ce r.frzOK hds;refine⟨_,r.upd l (.row T ds) (β l) w (.inl rfl) rfl rfl rfl (aL _) (fun _ _ _=>rfl) (fun z2 b2 _ hz2 hb2=> .inr ⟨by rw[hl3];rfl,z2,hz2,hb2⟩) fun hx hk=>?_⟩;refine⟨Te,z,xs,hz,hu,by rw[←q1];exact hown,hone,fun i d hd=>?_⟩;obtain⟨v,h1,h2⟩:=q2 i d hd;exact(h2 _ (hr i v h1)).mono hk
   ·exact Imp.refl
  ·exact Imp.refl
 ·exact Imp.refl
theorem Imp.flatL:∀(ls:List Nat)(σ:St),Imp P n σ (flatL P σ ls)
 | [],_=>Imp.refl
 |l::ls,σ=>(Imp.flat1 l).trans (Imp.flatL ls _)
theorem Imp.exitSt(f:FuncId)(fn:Func):Imp P n σ (exitSt P E f fn σ):=by
 unfold Am.exitSt;cases E.raw f with
 |true=>exact(Imp.norm f 1000000).trans (Imp.mvAll _ _)
 |false=>exact(Imp.norm f 1000000).trans (Imp.flatL _ _)
structure Sim (P:Program) (b q:Res):Prop where
 val:∀(ok:Nat->Prop)(w:World)(β:Nat->Option Value)(z:Value),RV P ok w β b.1 z->RV P ok w β q.1 z
 own:∀l,(lk q.2 l).isOwn=(lk b.2 l).isOwn
 obs:∀l(ok:Nat->Prop)(w:World)(β:Nat->Option Value)(v:Option Value),ObOK P ok w β (lk b.2 l) v->ObOK P ok w β (lk q.2 l) v
theorem Sim.refl(q:Res):Sim P q q:=⟨fun _ _ _ _ h=>h,fun _=>rfl,fun _ _ _ _ _ h=>h⟩
theorem FX_of{f:FuncId}{fn:Func}{c:Code}{args:List AV}{objs:List Ob}{m:Nat}{q:Res}{J:Nat->Nat->Nat->St->Option R->Option R}(hJ:JOK J)(hcall:CallOK P call)(hmix:P.follows .mixedOrders=true)(hf:P.funcs[f]? =some fn)(hc:fn.body=some c)(hlen':args.length<=fn.ntmps){dec:Res->Option R}
  (hd:∀(b:Res),dec b=some r->Sim P b q)
  (h:ev P E call J m f fn.ntmps c ⟨args,objs,objs.length⟩ (fun e σ=>(Mh P E f fn e σ).bind dec)=some r):FX P f args objs q.1 q.2:=by
 have hcw:=acv hJ hcall hmix m f c _ _ h;intro ok w β xs hok hobs hsep hxs htab;refine calls_of_wp hf hc ?_;have hxl:=hxs.len;have hkk:∀b,ok b->okOf ⟨ok,XO objs β,β,objs.length⟩ w w objs β b∧w.heap[b]? =w.heap[b]? :=fun b hb'=>⟨⟨(hok b hb').1,fun _=> .inl hb',fun l ho=>(hok b hb').2 ⟨l,ho⟩⟩,rfl⟩;have hrel:Rel P ⟨ok,XO objs β,β,objs.length⟩ w fn.ntmps ⟨args,objs,objs.length⟩ {tmps:=xs.toArray++Array.replicate (fn.ntmps-xs.toArray.size) undef,defers:=[]} w:=by
  refine⟨β,⟨by simp;omega,rfl,BelowX.refl _ _,fun k=>?_,fun l=>(hobs l).mono hkk (fun _ _ _ _ _=>rfl) (Ext.refl _),hsep,fun l b ho=> .inr ⟨l,ho⟩,fun l _=>rfl,rfl,htab.mono hkk⟩⟩;rcases Nat.lt_or_ge k xs.length with hlt|hge
  ·have e:(xs.toArray++Array.replicate (fn.ntmps-xs.toArray.size) undef).getD k undef=xs.getD k undef:=by rw[Array.getD_eq_getD_getElem?,Array.getElem?_append_left (by simpa using hlt)];simp[List.getD]
   rw[e];exact(hxs.tk k).mono hkk (Ext.refl _)
  ·have e:tk args k= .dead:=acw _ _ (by omega);show RV P _ w β (tk args k) _;rw[e];trivial
 refine hcw _ w _ w hrel _ ?_;rintro e τ a' w' ⟨τ0,himp,hfin⟩ rr;obtain⟨β',r'⟩:=(himp.trans (Imp.exitSt (E:=E) f fn)) _ _ _ _ rr;obtain⟨b,hfin,hdec⟩:=aj.1 hfin;have hsim:=hd b hdec;have key:(e= .ret∨e= .normal)∧fin P E f fn (exitSt P E f fn τ0)=some b:=by
  unfold Mh at hfin;split at hfin;·exact⟨.inl rfl,hfin⟩
  ·exact⟨.inr rfl,hfin⟩
  ·cases hfin
 obtain⟨hek,hfin⟩:=key;obtain⟨z,β2,hrun,r2,hz⟩:=WZ r' hfin;have hown:∀l b2,owns q.2 β2 l b2↔owns b.2 β2 l b2:=fun l b2=>by simp only[owns,hsim.own]
 have hoks:∀b2,okOf ⟨ok,XO objs β,β,objs.length⟩ w w' b.2 β2 b2->okOf ⟨ok,XO objs β,β,objs.length⟩ w w' q.2 β2 b2∧w'.heap[b2]? =w'.heap[b2]? :=fun b2 hb=>⟨⟨hb.1,hb.2.1,fun l hl=>hb.2.2 l ((hown l b2).1 hl)⟩,rfl⟩;have hF:FinX P ok w w' β β2 objs q.2:=⟨r2.below,fun l=>hsim.obs l _ _ _ _ ((r2.hs l).mono hoks (fun _ _ _ _ _=>rfl) (Ext.refl _)),fun l l' b2 h1 h2=>r2.sep l l' b2 ((hown _ _).1 h1) ((hown _ _).1 h2),fun l b2 h1=>r2.own l b2 ((hown _ _).1 h1),fun l hl=>r2.ext l hl⟩;have hz2:=hsim.val _ _ _ _ (hz.mono hoks (Ext.refl _));rcases hek with rfl|rfl;·exact⟨r'.defers,z,hrun,z,β2,rfl,hF,hz2⟩
 ·exact⟨r'.defers,z,hrun,z,β2,rfl,hF,hz2⟩
theorem vw(he:EnvOK P E):∀(m:Nat)(f:FuncId)(args:List AV)(objs:List Ob)(q:Res),run P E m f args objs=some q->FX P f args objs q.1 q.2∧HasBody P f
 |0,_,_,_,_,h=>by simp[run]at h
 |m+    1,f,args,objs,q,h=>by
  unfold run at h;split at h
  ·rename_i oc hoc;exact he.orc f oc args objs q hoc h
  ·split  at h
   ·    rename_i fn hfn;obtain⟨hf,hname⟩:=he.fns f fn hfn;split at h
        ·rename_i c hc;obtain⟨hlen,h⟩:=aF h;refine⟨?_,⟨fn,hf,by rw[hc];rfl,hname⟩⟩;refine FX_of (r:=q) (dec:=some) jn_ok (fun f args objs K r hr=>by obtain⟨q',h1,h2⟩:=aj.1 hr;exact⟨q',h2,vw he m f args objs q' h1⟩) he.mix hf hc (aI hlen) (fun b hb=>by cases hb;exact Sim.refl _) (E:=E) (m:=m+1) ?_
         have e:(fun e σ=>(Mh P E f fn e σ).bind some)=Mh P E f fn:=by funext e σ;cases Mh P E f fn e σ<;>rfl
         rw[e];exact h
        ·cases h
   ·cases h
end
def iL:Code->List Nat->Code
 | .seq a _,0::p=>iL a p
 | .seq _ b,_::p=>iL b p
 | .cond _ a _,0::p=>iL a p
 | .cond _ _ b,_::p=>iL b p
 | .block _ c,_::p=>iL c p
 | .loop c,_::p=>iL c p
 | .scope c,_::p=>iL c p
 |c,_=>c
section
variable{R:Type}(P:Program)(E:Env)(call:FuncId->List AV->List Ob->(Res->Option R)->Option R)(J:Nat->Nat->Nat->St->Option R->Option R)(m:Nat)(f:FuncId)(n:Nat)
noncomputable def kJ:Code->List Nat->List Nat->(Exit->St->Option R)->Exit->St->Option R
 | .seq a b,0::p,ms,k=>kJ a p ms (agr (fun σ'=>nextK P E J f (firstId b) σ' fun s=>ev P E call J m f n b s k) k)
 | .seq _ b,_::p,ms,k=>kJ b p ms k
 | .cond _ a _,0::p,ms,k=>kJ a p ms k
 | .cond _ _ b,_::p,ms,k=>kJ b p ms k
 | .block id c,_::p,ms,k=>kJ c p ms (QO id k)
 | .loop c,_::p,M::ms,k=>kJ c p ms (agr (fun σ'=>J 1 (firstId c) M (eB P E f (firstId c) σ') (w9 J (firstId c) (eB P E f (firstId c)) (ev P E call J m f n c) M (eB P E f (firstId c) σ') k)) k)
 | .scope c,_::p,ms,k=>kJ c p ms (QS k)
 |_,_,_,k=>k
def finD(fn:Func)(dec:Res->Option R)(e:Exit)(σ:St):Option R:=(Mh P E f fn e σ).bind dec
def bodyOf(fn:Func):Code:=fn.body.getD .skip
noncomputable def evAt(fn:Func)(dec:Res->Option R)(p ms:List Nat)(σ:St):Option R:=ev P E call J m f n (iL (bodyOf fn) p) σ (kJ P E call J m f n (bodyOf fn) p ms (finD P E f fn dec))
def acy:Code->Code
 | .loop c=>c
 |c=>c
noncomputable def loopAt(fn:Func)(dec:Res->Option R)(p ms:List Nat)(M:Nat)(σ:St):Option R:=
 w9 J (firstId (acy (iL (bodyOf fn) p))) (eB P E f (firstId (acy (iL (bodyOf fn) p)))) (ev P E call J m f n (acy (iL (bodyOf fn) p))) M σ (kJ P E call J m f n (bodyOf fn) p ms (finD P E f fn dec))
end
def auY(ts:List AV):List (Nat×AV)->List AV
 | []=>ts
 |(k,v)::r=>auY (jW ts k v) r
def tsOf(l:List (Nat×AV)):List AV:=auY [] l
def jj{A:Type}(J:Nat->Nat->Nat->St->A->A)(a b c:Nat)(s:St)(e:St->A):A:=J a b c s (e s)
theorem au{A:Type}(a b c:Nat)(s:St)(e:St->A):jj jn a b c s e=e s:=by rw[jj];rfl
section
variable{R:Type}{P:Program}{E:Env}{call:FuncId->List AV->List Ob->(Res->Option R)->Option R}{m n M:Nat}{f:FuncId}{fn:Func}{dec:Res->Option R}{p ms:List Nat}{σ:St}{g:(Nat->Nat->Nat->St->Option R->Option R)->Option R}{r:Option R}
end
end Go.Am
namespace Go.Am
open Go.RowKit Dt
section
variable{P:Program}{T:TypeId}{A:Type}{u v:AV}{us vs:List AV}
structure Cv (P:Program) (T:TypeId) (f:Dt->A) (g:A->Dt):Prop where
 rd:∀(ok:Nat->Prop)(w:World)(cs:List Value)(d:Dt),RD P ok w T d cs->RD P ok w T (g (f d)) cs
theorem Cv.int{k:IntKind}(hu:P.underlying T=some (.int k)):Cv P T toInt int:=⟨fun _ _ _ _ h=>by have:=(h.int_inv hu).1;rw[←this];exact h⟩
theorem Cv.bool(hu:P.underlying T=some .bool):Cv P T Dt.toBool bool:=⟨fun _ _ _ _ h=>by have:=(h.bool_inv hu).1;rw[←this];exact h⟩
theorem Cv.str(hu:P.underlying T=some .string):Cv P T toStr str:=⟨fun _ _ _ _ h=>by have:=(h.str_inv hu).1;rw[←this];exact h⟩
theorem Cv.lst{E:TypeId}(hu:P.underlying T=some (.slice E)):Cv P T toLst lst:=⟨fun _ _ _ _ h=>by have:=(h.lst_inv hu).1;rw[←this];exact h⟩
theorem Cv.dt:Cv P T (fun d:Dt=>d) (fun d=>d):=⟨fun _ _ _ _ h=>h⟩
structure Cn (P:Program) (u v:AV):Prop where
 ra:∀(ok:Nat->Prop)(w:World)(β:Nat->Option Value)(cs:List Value),RA P ok w β u cs->RA P ok w β v cs
 ag:v.isAgg P=u.isAgg P
theorem Cn.same:Cn P u u:=⟨fun _ _ _ _ h=>h,rfl⟩
theorem Cn.dat{f:Dt->A}{g:A->Dt}{d:Dt}(h:Cv P T f g):Cn P (.dat T d) (.dat T (g (f d))):=
 ⟨fun ok w β cs hr=>by cases hr with|dat hr=>exact .dat (h.rd ok w cs d hr),rfl⟩
structure CnL (P:Program) (us vs:List AV):Prop where
 len:vs.length=us.length
 get:∀(i:Nat)(v:AV),vs[i]? =some v->∃u,us[i]? =some u∧Cn P u v
theorem CnL.nil:CnL P [] []:=⟨rfl,fun i v h=>by simp at h⟩
theorem CnL.cons(h:Cn P u v)(r:CnL P us vs):CnL P (u::us) (v::vs):=⟨by simp[r.len],fun i x hx=>by
 cases i with
 |zero=>simp only[aO,aA]at hx;subst hx;exact⟨u,rfl,h⟩
 |succ i=>simpa using r.get i x (by simpa using hx)⟩
theorem Cn.agg(h:CnL P us vs):Cn P (.agg T us) (.agg T vs):=⟨fun ok w β cs hr=>by
 cases hr with
 |agg hu hl hc h1 hh=>
  refine .agg hu (by rw[h.len];exact hl) hc h1 fun i f v hf hv=>?_;obtain⟨u,h2,h3⟩:=h.get i v hv;exact h3.ra _ _ _ _ (hh i f u hf h2),rfl⟩
theorem Cn.fn{f:FuncId}(h:CnL P us vs):Cn P (.fn f us) (.fn f vs):=⟨fun ok w β cs hr=>by
 cases hr with
 |fn hl hh=>
  refine .fn (by rw[h.len];exact hl) fun i v hv=>?_;obtain⟨u,h2,h3⟩:=h.get i v hv;exact h3.ra _ _ _ _ (hh i u h2),rfl⟩
theorem Cn.ifc(h:Cn P u v):Cn P (.ifc T u) (.ifc T v):=⟨fun ok w β cs hr=>by
 cases hr with
 |ifc1 hi hh=>exact .ifc1 (by rw[h.ag];exact hi) (h.ra _ _ _ _ hh)
 |ifcA hi hh=>exact .ifcA (by rw[h.ag];exact hi) (h.ra _ _ _ _ hh),rfl⟩
theorem Cn.rv1(h:Cn P u v){ok:Nat->Prop}{w:World}{β:Nat->Option Value}{z:Value}(hr:RV1 P ok w β u z):RV1 P ok w β v z:=
 ⟨fun hi=>by obtain⟨cs,e,q⟩:=hr.1 (by rw[←h.ag];exact hi);exact⟨cs,e,h.ra _ _ _ _ q⟩,fun hi=>h.ra _ _ _ _ (hr.2 (by rw[←h.ag];exact hi))⟩
structure CnR (P:Program) (u v:AV):Prop where
 rv:∀(ok:Nat->Prop)(w:World)(β:Nat->Option Value)(z:Value),RV P ok w β u z->RV P ok w β v z
def AV.plainB:AV->Bool
 | .tup _=>false
 | .dead=>false
 |_=>true
theorem CnR.of(h:Cn P u v)(hu:u.plainB=true)(hv:v.plainB=true):CnR P u v:=⟨fun ok w β z hz=>by have h1:RV1 P ok w β u z:=RV.to1 (by rintro rfl;cases hu) (by rintro us rfl;cases hu) hz;exact(h.rv1 h1).toRV (by rintro us rfl;cases hv)⟩
theorem CnR.same:CnR P u u:=⟨fun _ _ _ _ h=>h⟩
theorem CnR.tup(h:CnL P us vs):CnR P (.tup us) (.tup vs):=⟨fun ok w β z hz=>by obtain⟨arr,e,hs,hr⟩:=hz;refine⟨arr,e,by rw[h.len];exact hs,fun i v hv=>?_⟩;obtain⟨u,h2,h3⟩:=h.get i v hv;exact h3.rv1 (hr i u h2)⟩
inductive CnA (P:Program):List AV->List AV->Prop where
 |nil:CnA P [] []
 |cons {u v:AV} {us vs:List AV} (h:CnR P u v) (r:CnA P us vs):CnA P (u::us) (v::vs)
theorem CnA.rvs(h:CnA P us vs){ok:Nat->Prop}{w:World}{β:Nat->Option Value}:∀{zs:List Value},RVsX P ok w β us zs->RVsX P ok w β vs zs:=by
 induction h with
 |nil=>intro zs h;exact h
 |cons hc _ ih=>
  intro zs hz;cases hz with
  |cons h1 h2=>exact .cons (hc.rv _ _ _ _ h1) (ih h2)
structure CnO (P:Program) (o o':Ob):Prop where
 own:o'.isOwn=o.isOwn
 obs:∀(ok:Nat->Prop)(w:World)(β:Nat->Option Value)(v:Option Value),ObOK P ok w β o v->ObOK P ok w β o' v
theorem CnO.same{o:Ob}:CnO P o o:=⟨rfl,fun _ _ _ _ h=>h⟩
theorem CnO.box(h:Cn P u v):CnO P (.box T u) (.box T v):=⟨rfl,fun ok w β x ⟨b,cs,h1,h2,h3,h4⟩=>⟨b,cs,h1,h2,h3,h.ra _ _ _ _ h4⟩⟩
inductive CnOL (P:Program):List Ob->List Ob->Prop where
 |nil:CnOL P [] []
 |cons {o o':Ob} {os os':List Ob} (h:CnO P o o') (r:CnOL P os os'):CnOL P (o::os) (o'::os')
theorem CnOL.len{os os':List Ob}(h:CnOL P os os'):os'.length=os.length:=by
 induction h with
 |nil=>rfl
 |cons _ _ ih=>simp[ih]
theorem CnOL.get{os os':List Ob}(h:CnOL P os os'):∀l,CnO P (lk os l) (lk os' l):=by
 induction h with
 |nil=>intro l;exact .same
 |cons h _ ih=>
  intro l;cases l with
  |zero=>exact h
  |succ l=>exact ih l
theorem Sim.of{a b:AV}{os os':List Ob}(h:CnR P a b)(ho:CnOL P os os'):Sim P (a,os) (b,os'):=
 ⟨h.rv,fun l=>(ho.get l).own,fun l=>(ho.get l).obs⟩
theorem FX.conv{f:FuncId}{args args':List AV}{objs objs' hs':List Ob}{res:AV}(h:FX P f args' objs' res hs')(ha:CnA P args args')(ho:CnOL P objs objs'):FX P f args objs res hs':=by
 intro ok w β zs h1 h2 h3 h4 h5;have hown:∀l b,owns objs' β l b↔owns objs β l b:=fun l b=>by simp only[owns,(ho.get l).own]
 have hX:XO objs' β=XO objs β:=by funext b;apply propext;exact⟨fun⟨l,hl⟩=>⟨l,(hown l b).1 hl⟩,fun⟨l,hl⟩=>⟨l,(hown l b).2 hl⟩⟩
 have hc:=h ok w β zs (fun b hb=>by rw[hX];exact h1 b hb) (fun l=>(ho.get l).obs _ _ _ _ (h2 l)) (fun l l' b q1 q2=>h3 l l' b ((hown _ _).1 q1) ((hown _ _).1 q2)) (ha.rvs h4) h5;refine hc.mono ?_;rintro e w' ⟨v,β',rfl,hf,hr⟩;obtain⟨f1,f2,f3,f4,f5⟩:=hf;rw[hX,ho.len]at f2 hr;rw[hX]at f1;exact⟨v,β',rfl,⟨f1,f2,f3,fun l b q=>by have:=f4 l b q;rwa [hX]at this,fun l hl=>f5 l (by rw[ho.len];exact hl)⟩,hr⟩
def natsB:List Nat->List Nat->Bool
 | [],[]=>true
 |a::r,b::s=>Nat.beq a b&&natsB r s
 |_,_=>false
theorem eH:∀{a b:List Nat},natsB a b=true->a=b
 | [],[],_=>rfl
 |a::r,b::s,h=>by have h1:=beq_eq (aG h);have h2:=eH (aC h);rw[h1,h2]
 | [],_::_,h=>by cases h
 |_::_,[],h=>by cases h
end
end Go.Am
namespace Go.Am
inductive SK where
 |l|i|b|s|a
inductive SA where
 |d (T:TypeId) (k:SK)
 |f (F:FuncId)
inductive SR where
 |d (T:TypeId) (k:SK)
 |t (l:List (TypeId×SK))
abbrev SK.T:SK->Type
 | .l=>List Dt
 | .i=>Int
 | .b=>Bool
 | .s=>ByteArray
 | .a=>Dt
def SK.w:(k:SK)->k.T->Dt
 | .l,x=> .lst x
 | .i,x=> .int x
 | .b,x=> .bool x
 | .s,x=> .str x
 | .a,x=>x
def SK.g:(k:SK)->Dt->k.T
 | .l,x=>x.toLst
 | .i,x=>x.toInt
 | .b,x=>x.toBool
 | .s,x=>x.toStr
 | .a,x=>x
def SK.ok(P:Program)(T:TypeId):SK->Prop
 | .l=>∃E,P.underlying T=some (.slice E)
 | .i=>∃k,P.underlying T=some (.int k)
 | .b=>P.underlying T=some .bool
 | .s=>P.underlying T=some .string
 | .a=>True
theorem SK.cn{P:Program}{T:TypeId}:∀{k:SK},k.ok P T->∀x:Dt,Cn P (.dat T x) (.dat T (k.w (k.g x)))
 | .l,⟨_,h⟩,_=> .dat (.lst h)
 | .i,⟨_,h⟩,_=> .dat (.int h)
 | .b,h,_=> .dat (.bool h)
 | .s,h,_=> .dat (.str h)
 | .a,_,_=> .same
def TT:List (TypeId×SK)->Type
 | []=>Unit
 | [p]=>p.2.T
 |p::q::r=>p.2.T×TT (q::r)
def TT.w:(l:List (TypeId×SK))->TT l->List AV
 | [],_=>[]
 | [p],x=>[.dat p.1 (p.2.w x)]
 |p::q::r,x=> .dat p.1 (p.2.w x.1)::TT.w (q::r) x.2
def W9(T:TypeId)(k:SK):AV->Option k.T
 | .dat S x=>bif Nat.beq S T then some (k.g x)else none
 |_=>none
theorem xQ{P:Program}{T:TypeId}{k:SK}{v:AV}{y:k.T}(ho:k.ok P T)(h:W9 T k v=some y):Cn P v (.dat T (k.w y))∧v.plainB=true:=by
 unfold W9 at h;split at h
 ·obtain⟨h1,h2⟩:=aF h;cases h2;cases beq_eq h1;exact⟨SK.cn ho _,rfl⟩
 ·cases h
def TT.g:(l:List (TypeId×SK))->List AV->Option (TT l)
 |  [],as=>match as with
    | []=>some ()
    |_::_=>none
 |  [p],as=>match as with
    | [v]=>W9 p.1 p.2 v
    |_=>none
 |  p::q::r,as=>match as with
    |v::as=>(W9 p.1 p.2 v).bind fun x=>(TT.g (q::r) as).bind fun y=>some (x,y)
    | []=>none
def SR.T:SR->Type
 | .d _ k=>k.T
 | .t l=>TT l
def SR.w:(s:SR)->s.T->AV
 | .d T k,x=> .dat T (k.w x)
 | .t l,x=> .tup (TT.w l x)
def SR.g:(s:SR)->Res->Option s.T
 |  .d T k,q=>match q with
    |(v,[])=>W9 T k v
    |_=>none
 |  .t l,q=>match q with
    |(.tup as,[])=>TT.g l as
    |_=>none
def as4(P:Program):List (TypeId×SK)->Prop
 | []=>True
 |p::r=>p.2.ok P p.1∧as4 P r
def SR.ok(P:Program):SR->Prop
 | .d T k=>k.ok P T
 | .t l=>as4 P l
theorem TT.cn{P:Program}:∀{l:List (TypeId×SK)}{as:List AV}{y:TT l},as4 P l->TT.g l as=some y->CnL P as (TT.w l y)
 | [],as,y,_,h=>by
   cases as with
   |nil=>exact .nil
   |cons _ _=>cases h
 | [p],as,y,ho,h=>by
   match as,h with
   | [v],h=>exact .cons (xQ ho.1 h).1 .nil
   | [],h=>cases h
   |_::_::_,h=>cases h
 | p::q::r,as,y,ho,h=>by
   match as,h with
   |v::as,h=>
    obtain⟨x,h1,h2⟩:=aj.1 h;obtain⟨z,h3,h4⟩:=aj.1 h2;cases h4;exact .cons (xQ ho.1 h1).1 (TT.cn ho.2 h3)
   | [],h=>cases h
theorem SR.sim{P:Program}:∀{s:SR}{q:Res}{r:s.T},s.ok P->s.g q=some r->Sim P q (s.w r,[])
 | .d T k,q,r,ho,h=>by
   match q,h with
   |(v,[]),h=>
    obtain⟨h1,h2⟩:=xQ ho h;exact Sim.of (.of h1 h2 rfl) .nil
   |(_,_::_),h=>cases h
 | .t l,q,r,ho,h=>by
   match q,h with
   |(.tup as,[]),h=>exact Sim.of (.tup (TT.cn ho h)) .nil
   |(.tup _,_::_),h=>cases h
   |(.dat ..,_),h=>cases h
def CF:List SA->Type->Type
 | [],R=>R
 | .d _ k::t,R=>k.T->CF t R
 | .f _::t,R=>CF t R
def ap{R:Type}:(sh:List SA)->CF sh (Option R)->List AV->Option R
 |  [],F,as=>match as with
    | []=>F
    |_::_=>none
 |  .d T k::t,F,as=>match as with
    |v::as=>(W9 T k v).bind fun x=>ap t (F x) as
    | []=>none
 |  .f c::t,F,as=>match as with
    | .fn d []::as=>bif Nat.beq d c then ap t F as else none
    |_=>none
def oksA(P:Program):List SA->Prop
 | []=>True
 | .d T k::r=>k.ok P T∧oksA P r
 | .f _::r=>oksA P r
def FG(P:Program)(f:FuncId)(s:SR):(sh:List SA)->CF sh (Option s.T)->(List AV->List AV)->Prop
 | [],F,k=>∀r,F=some r->FX P f (k []) [] (s.w r) []
 | .d T j::t,F,k=>∀x:j.T,FG P f s t (F x) fun as=>k (.dat T (j.w x)::as)
 | .f c::t,F,k=>FG P f s t F fun as=>k (.fn c []::as)
theorem acz{P:Program}{f:FuncId}{s:SR}{r:s.T}:∀{sh:List SA}{F:CF sh (Option s.T)}{k:List AV->List AV}{as:List AV},oksA P sh->FG P f s sh F k->ap sh F as=some r->∃vs,CnA P as vs∧FX P f (k vs) [] (s.w r) []
 | [],F,k,as,_,hf,h=>by
   cases as with
   |nil=>exact⟨[],.nil,hf r h⟩
   |cons _ _=>cases h
 | .d T j::t,F,k,as,ho,hf,h=>by
   cases as with
   |nil=>cases h
   | cons v as=>
     obtain⟨x,h1,h2⟩:=aj.1 h;obtain⟨vs,h3,h4⟩:=acz ho.2 (hf x) h2;obtain⟨h5,h6⟩:=xQ ho.1 h1;exact⟨_,.cons (.of h5 h6 rfl) h3,h4⟩
 | .f c::t,F,k,as,ho,hf,h=>by
   match as,h with
   | .fn d []::as,h=>
     obtain⟨h1,h2⟩:=aF h;cases beq_eq h1;obtain⟨vs,h3,h4⟩:=acz (sh:=t) ho hf h2;exact⟨_,.cons .same h3,h4⟩
   | [],h=>cases h
structure Ent where
 sh:List SA
 s:SR
 F:CF sh (Option s.T)
def Ent.run{R:Type}(e:Ent)(args:List AV)(objs:List Ob)(K:Res->Option R):Option R:=match objs with
 | []=>(ap e.sh e.F args).bind fun r=>K (e.s.w r,[])
 |_::_=>none
structure EOK (P:Program) (f:FuncId) (e:Ent):Prop where
 ok:oksA P e.sh
 fx:FG P f e.s e.sh e.F fun l=>l
 hb:HasBody P f
theorem EOK.run{P:Program}{f:FuncId}{e:Ent}{R:Type}{args:List AV}{objs:List Ob}{K:Res->Option R}{r:R}(he:EOK P f e)(h:e.run args objs K=some r):∃q:Res,K q=some r∧FX P f args objs q.1 q.2∧HasBody P f:=by
 unfold Ent.run at h;cases objs with
 |nil=>
  obtain⟨x,h1,h2⟩:=aj.1 h;obtain⟨vs,h3,h4⟩:=acz he.ok he.fx h1;exact⟨_,h2,h4.conv h3 .nil,he.hb⟩
 |cons _ _=>cases h
theorem EOK.st{P:Program}{f n:FuncId}{a e:Ent}{b:Option Ent}(h1:EOK P n a)(h2:b=some e->EOK P f e)(h:(bif Nat.beq f n then some a else b)=some e):EOK P f e:=by
 cases hb:Nat.beq f n with
 |true=>rw[hb]at h;cases h;cases beq_eq hb;exact h1
 |false=>rw[hb]at h;exact h2 h
def FZ{R:Type}:(sh:List SA)->CF sh (Option R)->Prop
 | [],F=>F=none
 | .d _ j::t,F=>∀x:j.T,FZ t (F x)
 | .f _::t,F=>FZ t F
theorem FZ.fg{P:Program}{f:FuncId}{s:SR}:∀{sh:List SA}{F:CF sh (Option s.T)}{k:List AV->List AV},FZ sh F->FG P f s sh F k
 | [],F,k,h=>by intro r h1;have h:F=none:=h;rw[h]at h1;cases h1
 | .d _ j::t,F,k,h=>fun x=>FZ.fg (h x)
 | .f _::t,F,k,h=>FZ.fg (sh:=t) h
