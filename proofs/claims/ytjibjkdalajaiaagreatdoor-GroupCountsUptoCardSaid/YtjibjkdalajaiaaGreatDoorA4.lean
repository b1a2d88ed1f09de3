/- The abstract machine: a region of four operations whose two stores may come in either order.
The abstract machine,part 18:THE SOUNDNESS OF THE MACHINE.
The abstract machine,part 19:places in a function's code;results as plain values.
The abstract machine,part 20:values in their plain forms (a type's data as Lean values).
The abstract machine,part G:contracts as a table (a function's arguments and results by their kinds). -/
import Derived.Test.YtjibjkdalajaiaaGreatDoorA3
set_option linter.all false
namespace Go.Am
open Go.RowKit
section
variable{P:Program}{n:Nat}{c c1 c2:Code}{σ τ:St}{Z Z':Exit->St->Prop}{o:Oper}
inductive DrawI (P:Program) (n:Nat) (ops:Array Oper) (I:(Nat->Bool)->St->Prop):Nat->List Oper->Prop where
 |nil {i:Nat}:DrawI P n ops I i []
 |cons {i:Nat} {o:Oper} {r:List Oper} (h:∀(L:Nat->Bool)(σ:St),I L σ->L i=false->DepsL L o.after.toList->Closed ops L->∃σ',StepOK P n ops o σ σ'∧I (upL L i) σ') (hr:DrawI P n ops I (i+1) r):DrawI P n ops I i (o::r)
theorem DrawI.get{ops:Array Oper}{I:(Nat->Bool)->St->Prop}{k:Nat}{l:List Oper}(h:DrawI P n ops I k l):∀(j:Nat)(o:Oper),l[j]? =some o->∀(L:Nat->Bool)(σ:St),I L σ->L (k+j)=false->DepsL L o.after.toList->Closed ops L->∃σ',StepOK P n ops o σ σ'∧I (upL L (k+j)) σ':=by
 induction h with
 |nil=>intro j o h;simp at h
 | @cons i o r h _ ih=>
   intro j o' hj;cases j with
   |zero=>simp only[aW,aD]at hj;subst hj;exact h
   |succ j=>
    simp only[aX]at hj;have:=ih j o' hj;rw[show i+1+j=i+(j+1) by omega]at this;exact this
theorem ahu{l:List Oper}{I:(Nat->Bool)->St->Prop}(hback:uX 0 l=true)(hd:DrawI P n l.toArray I 0 l){ok0:OkX}{w0:World}{Q:Exit->Act->World->Prop}
  (hfin:∀(L:Nat->Bool)(σ:St),I L σ->(∀i,i<l.length->L i=true)->∀a w,Rel P ok0 w0 n σ a w->Q .normal a w):
  ∀(fuel:Nat)(listed:Array Bool)(σ:St)(a:Act)(w:World),I (fun j=>listed.getD j false) σ->listed.size=l.length->listed.toList.count false<=fuel->Closed l.toArray (fun j=>listed.getD j false)->Rel P ok0 w0 n σ a w->wpAny P .any l.toArray Q fuel listed a w:=by
 have hall :∀listed:Array Bool,listed.size=l.length->Region.ready .any l.toArray listed=[]->∀i,i<l.length->listed.getD i false=true:=by
  intro listed hsz hr;intro i;induction i using Nat.strongRecOn with
  |_    i ih=>
   intro hi;cases hc:listed.getD i false with
   |true=>rfl
   |    false=>
        exfalso;have hne:i∈Region.ready .any l.toArray listed:=by
          refine mem_ready.2 ⟨by simpa using hi,?_,l[i],by simp[hi],fun e he hb=>?_⟩
          ·have hlt:i<listed.size:=by omega
           simp only[Array.getD,hlt,dif_pos]at hc ⊢
           exact hc
          ·have:=EY hback i l[i] (by simp[hi]) e he hb;exact ih e.on (by omega) (by omega)
        rw[hr]at hne;simp at hne
 intro fuel;induction fuel with
 |zero=>
  intro listed σ a w hI hsz hcnt hcl r;have hnil:Region.ready .any l.toArray listed=[]:=by
   rw[List.eq_nil_iff_forall_not_mem];intro i hi;obtain⟨h1,h2,_⟩:=mem_ready.1 hi;have hlt:i<listed.size:=by rw[hsz];simpa using h1
   have h3:listed[i]=false:=by simpa [Array.getD,hlt]using h2
   have h4:List.count false listed.toList=0:=by omega
   rw[List.count_eq_zero]at h4;exact h4 (by rw[←h3];simp)
  exact⟨hnil,hfin _ σ hI (hall listed hsz hnil) a w r⟩
 |succ fuel ih=>
  intro listed σ a w hI hsz hcnt hcl r;refine⟨fun hnil=>hfin _ σ hI (hall listed hsz hnil) a w r,fun i hi=>?_⟩;obtain⟨h1,h2,o,ho,h3⟩:=mem_ready.1 hi;have hil:i<l.length:=by simpa using h1
  have hlt:i<listed.size:=by omega
  have hLi:listed.getD i false=false:=by
   have h2':listed[i]=false:=by simpa [Array.getD,hlt]using h2
   simp[Array.getD,hlt,h2']
  have ho':l[i]? =some o:=by simpa using ho
  obtain⟨σ',hstep,himp⟩:=hd.get i o ho' (fun j=>listed.getD j false) σ hI (by rw[Nat.zero_add];exact hLi) (DepsL.of h3) hcl;rw[Nat.zero_add]at himp;have hL:(fun j=>(listed.setIfInBounds i true).getD j false)=upL (fun j=>listed.getD j false) i:=by
   funext j;rw[Nt _ _ _ _ _ hlt];simp only[upL];by_cases hj:j=i;·subst hj;simp
   ·    have:Nat.beq j i=false:=by
          cases hb:Nat.beq j i with
          |true=>exact absurd (aS hb) hj
          |false=>rfl
        rw[if_neg hj,this];rfl
  have hcl':Closed l.toArray (fun j=>(listed.setIfInBounds i true).getD j false):=by
   rw[hL];intro j oj hoj hLj;simp only[upL]at hLj;refine DepsL.of fun e he hb=>?_;have hold:listed.getD e.on false=true:=by
        cases hb2:Nat.beq j i with
        | true=>
          have:=aS hb2;subst this;have:oj=o:=by rw[ho]at hoj;cases hoj;rfl
          subst this;exact h3 e he hb
        | false=>
          rw[hb2]at hLj;exact(hcl j oj hoj hLj).mem e he hb
   simp only[upL];cases Nat.beq e.on i with
   |true=>rfl
   |false=>exact hold
  have hcnt':(listed.setIfInBounds i true).toList.count false<=fuel:=by
   have h5:listed.toList[i]? =some false:=by
        have h2':listed[i]=false:=by simpa [Array.getD,hlt]using h2
        simp[hlt,h2']
   have h6:(listed.setIfInBounds i true).toList=listed.toList.set i true:=by simp
   rw[h6];have h7:=List.count_set (a:=true) (b:=false) (l:=listed.toList) (i:=i) (by simpa using hlt);have h8:listed.toList[i]'(by simpa using hlt)=false:=by have:=aA.1 h5;exact this.2
   have hpos:0<listed.toList.count false:=List.count_pos_iff.2 (aU h5);rw[h7,h8];show (List.count false listed.toList-1)+0<=fuel;omega
  have hK:=fun a' w'(r':Rel P ok0 w0 n σ' a' w')=>ih (listed.setIfInBounds i true) σ' a' w' (by rw[hL];exact himp) (by simpa using hsz) hcnt' hcl' r';have:=hstep ok0 w0 a w r _ Q hK;unfold wpOp;rw[ho];simp only;split;·rename_i hw;rw[if_pos hw]at this;exact .inl this
  ·rename_i hw;rw[if_neg hw]at this;exact this
theorem CW.drawI{id:Nat}{l:List Oper}(I:(Nat->Bool)->St->Prop)(hm:P.follows .mixedOrders=true)(hback:uX 0 l=true)(h0:I (fun _=>false) σ)(hd:DrawI P n l.toArray I 0 l)
  (hfin:∀(L:Nat->Bool)(τ:St),I L τ->(∀i,i<l.length->L i=true)->Z .normal τ):CW P n (.region id l.toArray true) σ Z:=fun ok0 w0 a w r Q hQ=>by
 refine wp_region_any hm ?_;have hrep:∀j,(Array.replicate l.toArray.size false).getD j false=false:=by
  intro j;simp only[Array.getD];split;·simp
  ·rfl
 have hf:(fun j=>(Array.replicate l.toArray.size false).getD j false)=fun _=>false:=funext hrep;refine ahu hback hd (fun L τ hI hL a' w' r'=>hQ _ _ _ _ (hfin L τ hI hL) r') _ _ σ a _ ?_ (by simp) ?_ ?_ r.drew;·rw[hf];exact h0
 ·refine Nat.le_trans (List.count_le_length) (by simp)
 ·rw[hf];intro j oj _ hc;cases hc
theorem yN{o:Oper}{j:Nat}{L:Nat->Bool}(h:bnd o j=true)(hd:DepsL L o.after.toList):L j=true:=by unfold bnd at h;obtain⟨e,he,h1⟩:=List.any_eq_true.1 h;obtain⟨h2,h3⟩:=aN _ _▸h1;have:=hd.mem e he h2;rw[aS h3]at this;exact this
def chI(σ σ0 σ1 σ2 σ12 σ21 σA σB:St)(L:Nat->Bool)(τ:St):Prop:=
 (L 0=false->τ=σ)∧(L 0=true->L 1=false->L 2=false->τ=σ0)∧(L 1=true->L 2=false->τ=σ1)∧(L 1=false->L 2=true->τ=σ2)∧(L 1=true->L 2=true->L 3=false->τ=σ12∨τ=σ21)∧(L 3=true->τ=σA∨τ=σB)
theorem IK(hm:P.follows .mixedOrders=true){id:Nat}{o0 o1 o2 o3:Oper}{σ0 σ1 σ2 σ12 σ21 σA σB:St}(hc:ang o0 o1 o2 o3=true)
  (s0:StepOK P n #[o0,o1,o2,o3] o0 σ σ0)(s1:StepOK P n #[o0,o1,o2,o3] o1 σ0 σ1)(s12:StepOK P n #[o0,o1,o2,o3] o2 σ1 σ12)(s3:StepOK P n #[o0,o1,o2,o3] o3 σ12 σA)
  (s2:StepOK P n #[o0,o1,o2,o3] o2 σ0 σ2)(s21:StepOK P n #[o0,o1,o2,o3] o1 σ2 σ21)(s3':StepOK P n #[o0,o1,o2,o3] o3 σ21 σB)(hA:Z .normal σA)(hB:Z .normal σB):CW P n (.region id #[o0,o1,o2,o3] true) σ Z:=by
 unfold ang at hc;simp only[aN]at hc;obtain⟨⟨⟨⟨hb,c1⟩,c2⟩,c31⟩,c32⟩:=hc;have key:∀L:Nat->Bool,Closed #[o0,o1,o2,o3] L->(L 1=true->L 0=true)∧(L 2=true->L 0=true)∧(L 3=true->L 1=true∧L 2=true):=fun L h=>
  ⟨fun h1=>yN c1 (h 1 o1 rfl h1),fun h2=>yN c2 (h 2 o2 rfl h2),fun h3=>⟨yN c31 (h 3 o3 rfl h3),yN c32 (h 3 o3 rfl h3)⟩⟩
 refine CW.drawI (l:=[o0,o1,o2,o3]) (chI σ σ0 σ1 σ2 σ12 σ21 σA σB) hm hb ⟨fun _=>rfl,fun h=>(by cases h),fun h=>(by cases h),fun _ h=>(by cases h),fun h=>(by cases h),fun h=>(by cases h)⟩ ?_ ?_
 ·refine .cons (fun L τ hI h0 hd hcl=>?_) (.cons (fun L τ hI h1 hd hcl=>?_) (.cons (fun L τ hI h2 hd hcl=>?_) (.cons (fun L τ hI h3 hd hcl=>?_) .nil)))
  ·obtain⟨k1,k2,k3⟩:=key L hcl;obtain rfl:=hI.1 h0;have n1:L 1=false:=by cases h:L 1 with|false=>rfl|true=>rw[k1 h]at h0;cases h0
   have n2:L 2=false:=by cases h:L 2 with|false=>rfl|true=>rw[k2 h]at h0;cases h0
   have n3:L 3=false:=by cases h:L 3 with|false=>rfl|true=>rw[(k3 h).1]at n1;cases n1
   refine⟨σ0,s0,fun h=>(by cases h),fun _ _ _=>rfl,fun h=>?_,fun _ h=>?_,fun h=>?_,fun h=>?_⟩;·have h:L 1=true:=h;rw[n1]at h;cases h
   ·have h:L 2=true:=h;rw[n2]at h;cases h
   ·have h:L 1=true:=h;rw[n1]at h;cases h
   ·have h:L 3=true:=h;rw[n3]at h;cases h
  ·obtain⟨k1,k2,k3⟩:=key L hcl;have h0:L 0=true:=yN c1 hd;have n3:L 3=false:=by cases h:L 3 with|false=>rfl|true=>rw[(k3 h).1]at h1;cases h1
   cases h2:L 2 with
   |    false=>
        obtain rfl:=hI.2.1 h0 h1 h2;refine⟨σ1,s1,fun h=>?_,fun _ h=>(by cases h),fun _ _=>rfl,fun h=>(by cases h),fun _ h=>?_,fun h=>?_⟩;·have h:L 0=false:=h;rw[h0]at h;cases h
        ·have h:L 2=true:=h;rw[h2]at h;cases h
        ·have h:L 3=true:=h;rw[n3]at h;cases h
   |    true=>
        obtain rfl:=hI.2.2.2.1 h1 h2;refine⟨σ21,s21,fun h=>?_,fun _ h=>(by cases h),fun _ h=>?_,fun h=>(by cases h),fun _ _ _=> .inr rfl,fun h=>?_⟩;·have h:L 0=false:=h;rw[h0]at h;cases h
        ·have h:L 2=false:=h;rw[h2]at h;cases h
        ·have h:L 3=true:=h;rw[n3]at h;cases h
  ·obtain⟨k1,k2,k3⟩:=key L hcl;have h0:L 0=true:=yN c2 hd;have n3:L 3=false:=by cases h:L 3 with|false=>rfl|true=>rw[(k3 h).2]at h2;cases h2
   cases h1:L 1 with
   |    false=>
        obtain rfl:=hI.2.1 h0 h1 h2;refine⟨σ2,s2,fun h=>?_,fun _ _ h=>(by cases h),fun h=>?_,fun _ _=>rfl,fun h=>?_,fun h=>?_⟩;·have h:L 0=false:=h;rw[h0]at h;cases h
        ·have h:L 1=true:=h;rw[h1]at h;cases h
        ·have h:L 1=true:=h;rw[h1]at h;cases h
        ·have h:L 3=true:=h;rw[n3]at h;cases h
   |    true=>
        obtain rfl:=hI.2.2.1 h1 h2;refine⟨σ12,s12,fun h=>?_,fun _ _ h=>(by cases h),fun _ h=>(by cases h),fun h=>?_,fun _ _ _=> .inl rfl,fun h=>?_⟩;·have h:L 0=false:=h;rw[h0]at h;cases h
        ·have h:L 1=false:=h;rw[h1]at h;cases h
        ·have h:L 3=true:=h;rw[n3]at h;cases h
  ·have h1:L 1=true:=yN c31 hd;have h2:L 2=true:=yN c32 hd;obtain⟨k1,k2,k3⟩:=key L hcl;have h0:=k1 h1;have fin:∀τ',(τ'=σA∨τ'=σB)->chI σ σ0 σ1 σ2 σ12 σ21 σA σB (upL L 3) τ':=fun τ' ht=>by
        refine⟨fun h=>?_,fun _ h=>?_,fun _ h=>?_,fun h=>?_,fun _ _ h=>(by cases h),fun _=>ht⟩;·have h:L 0=false:=h;rw[h0]at h;cases h
        ·have h:L 1=false:=h;rw[h1]at h;cases h
        ·have h:L 2=false:=h;rw[h2]at h;cases h
        ·have h:L 1=false:=h;rw[h1]at h;cases h
   rcases hI.2.2.2.2.1 h1 h2 h3 with rfl|rfl;·exact⟨σA,s3,fin _ (.inl rfl)⟩
   ·exact⟨σB,s3',fin _ (.inr rfl)⟩
 ·intro L τ hI hL;rcases hI.2.2.2.2.2 (hL 3 (by simp))with rfl|rfl;·exact hA
  ·exact hB
end
section
variable{P:Program}{n:Nat}{σ τ:St}{R:Type}{E:Env}{call:FuncId->List AV->List Ob->(Res->Option R)->Option R}{r:R}{K:OkX}{w0 w:World}{a:Act}{β:Nat->Option Value}
theorem ahv{hs:List Ob}{l k b:Nat}(h:owns (frz1 hs l) β k b):owns hs β k b:=by
 unfold frz1 at h;split at h
 ·rename_i T es hl;obtain⟨h1,z,h2,h3⟩:=h;by_cases hkl:k=l;·subst hkl;rw[dK]at h1;cases h1
  ·rw[bn _ _ _ _ hkl]at h1;exact⟨h1,z,h2,h3⟩
 ·exact h
theorem U5:∀{ls:List Nat}{hs:List Ob}{k b:Nat},owns (frzN hs ls) β k b->owns hs β k b
 | [],_,_,_,h=>h
 |l::r,hs,k,b,h=>ahv (U5 (ls:=r) h)
theorem RelB.frzN:∀{ls:List Nat}{σ:St},RelB P K w0 n σ a w β->RelB P K w0 n ⟨σ.ts,frzN σ.hs ls,σ.k0⟩ a w β
 | [],_,r=>r
 |l::ls,σ,r=>by
  have:RelB P K w0 n ⟨σ.ts,frz1 σ.hs l,σ.k0⟩ a w β:=by
   unfold frz1;split;·rename_i T es hl;exact r.frz hl
   ·exact r
  exact RelB.frzN (ls:=ls) this
theorem adF{f:AV->AV}(hf:f .dead= .dead):∀(ts:List AV)(k:Nat),tk (ts.map f) k=f (tk ts k)
 | [],k=>by simp[tk,hf]
 |v::r,0=>rfl
 |v::r,k+1=>by simp[tk,adF hf r k]
theorem amw{hs:List Ob}:pkC P hs .dead= .dead:=rfl
theorem RV.pkC{ok:Nat->Prop}{w:World}{β:Nat->Option Value}{hs:List Ob}{v:AV}{z:Value}(hf:EB P ok w β hs)(hfa:∀l T es,lk hs l= .frz T es->dQ P T=false)(h:RV P ok w β v z):RV P ok w β (pkC P hs v) z:=by
 unfold Am.pkC;split;·rename_i T d hp;exact(h.pk hf hfa hp).can
 ·exact h
theorem Eb{q:TypeId->Bool}{hs:List Ob}:∀{os:List Ob}{k l:Nat},lk (sZ P q hs k os) l=lk os l∨∃T c d,lk os l= .box T c∧pk P hs c=some (T,d)∧lk (sZ P q hs k os) l= .box T (.dat T (canD P T d))
 | [],k,l=>by cases k<;>exact .inl rfl
 |o::os,k+1,0=> .inl (by cases o<;>rfl)
 |o::os,k+1,l+1=>by have:=Eb (q:=q) (hs:=hs) (os:=os) (k:=k) (l:=l);cases o<;>simpa [sZ,lk]using this
 |o::os,0,l+1=>by have:=Eb (q:=q) (hs:=hs) (os:=os) (k:=0) (l:=l);cases o<;>simpa [sZ,lk]using this
 |o::os,0,0=>by
  cases o with
  |box   T c=>
   simp only[sZ,lk];cases hq:q T with
   |true=>exact .inl rfl
   |false=>
   rw[cond_false];split
   ·    rename_i T' d hp;cases hb:Nat.beq T' T with
        |true=>
         have e:=beq_eq hb;subst e;exact .inr ⟨T',c,d,rfl,hp,rfl⟩
        |false=>exact .inl rfl
   ·exact .inl rfl
  |row T es=>exact .inl rfl
  |rowA T vs=>exact .inl rfl
  |frz T es=>exact .inl rfl
  |map T es=>exact .inl rfl
  |rowD=>exact .inl rfl
  |tok=>exact .inl rfl
  |gone=>exact .inl rfl
  |free=>exact .inl rfl
theorem RelB.packAll{q:TypeId->Bool}(r:RelB P K w0 n σ a w β)(k:Nat):RelB P K w0 n ⟨σ.ts.map (pkC P σ.hs),sZ P q σ.hs k σ.hs,σ.k0⟩ a w β:=by
 have hown:∀l b,owns (sZ P q σ.hs k σ.hs) β l b->owns σ.hs β l b:=by
  rintro l b ⟨h1,z,h2,h3⟩;rcases Eb (P:=P) (q:=q) (hs:=σ.hs) (os:=σ.hs) (k:=k) (l:=l)with e| ⟨T,c,d,e1,_,e3⟩;·rw[e]at h1;exact⟨h1,z,h2,h3⟩
  ·exact⟨by rw[e1];rfl,z,h2,h3⟩
 have hk:∀b,okOf K w0 w σ.hs β b->okOf K w0 w (sZ P q σ.hs k σ.hs) β b∧w.heap[b]? =w.heap[b]? :=fun b hb=>⟨⟨hb.1,hb.2.1,fun l hl=>hb.2.2 l (hown l b hl)⟩,rfl⟩;refine⟨r.size,r.defers,r.below,fun t=>?_,fun l=>?_,fun l l' b h1 h2=>r.sep l l' b (hown _ _ h1) (hown _ _ h2),fun l b h1=>r.own l b (hown _ _ h1),r.ext,r.kk,r.tab.mono hk⟩
 ·show RV P _ w β (tk (σ.ts.map (pkC P σ.hs)) t) _;rw[adF amw];exact((r.ts t).pkC r.frzOK r.frzAgg).mono hk (Ext.refl _)
 ·show ObOK P _ w β (lk (sZ P q σ.hs k σ.hs) l) _;rcases Eb (P:=P) (q:=q) (hs:=σ.hs) (os:=σ.hs) (k:=k) (l:=l)with e| ⟨T,c,d,e1,e2,e3⟩;·rw[e];exact(r.hs l).mono hk (fun _ _ _ _ _=>rfl) (Ext.refl _)
  ·rw[e3];have hob:=r.hs l;rw[e1]at hob;obtain⟨b,cs,q1,q2,q3,q4⟩:=hob;have hrd:=jN r.frzOK q4 e2;exact⟨b,cs,q1,q2,q3,.dat (by rw[Gp hrd];exact hrd.mono hk)⟩
theorem aaC:∀{m k i:Nat},i<m->(upto k m)[i]? =some (k+i)
 |0,k,i,h=>by omega
 |m+1,k,0,h=>rfl
 |m+1,k,i+1,h=>by simp only[upto,aX];rw[aaC (by omega)];congr 1;omega
theorem aaD:∀{m k:Nat},(upto k m).length=m
 |0,_=>rfl
 |m+1,k=>by simp[upto,aaD]
theorem K4{hs:List Ob}{k0:Nat}{vs:List AV}{i:Nat}(h:i<k0):(Ld hs k0 vs)[i]? =some i:=by unfold Ld;rw[List.getElem?_append_left (by rw[aaD];exact h),aaC h,Nat.zero_add]
theorem Imp.relab:Imp P n σ (relab σ):=by
 rintro K w0 a w ⟨β,r⟩;unfold Am.relab;simp only;cases hb:nodupB (Ld σ.hs σ.k0 σ.ts)with
 |false=>exact⟨β,r⟩
 |true=>exact⟨_,r.relabel _ (pK hb) (fun i hi=>K4 hi) _ fun k=> .inr (Vb _ _ _)⟩
theorem Imp.nilAll:∀(ls:List Nat)(σ:St),Imp P n σ (nilAll P σ ls)
 | [],_=>Imp.refl
 |s::ls,σ=>by
  unfold Am.nilAll;refine Imp.trans ?_ (Imp.nilAll ls _);split;·exact Imp.nilBox _
  ·exact Imp.nilSlot _
theorem adG{f:Ob->Ob}(hf:f .free= .free):∀(hs:List Ob)(k:Nat),lk (hs.map f) k=f (lk hs k)
 | [],k=>by simp[lk,hf]
 |v::r,0=>rfl
 |v::r,k+1=>by simp[lk,adG hf r k]
theorem ape(l nm:Nat)(o:Ob):(mvO l nm o).isOwn=o.isOwn:=by cases o<;>rfl
theorem RA.mv{ok:Nat->Prop}{w:World}{β:Nat->Option Value}{l nm:Nat}{z:Value}{c:AV}{cs:List Value}(h1:β l=some z)(h2:β nm=some z)(h:RA P ok w β c cs):RA P ok w β (mvV l nm c) cs:=by
 unfold mvV;split
 ·rename_i k;cases hb:Nat.beq k l with
  |false=>exact h
  |true=>
   have e:=beq_eq hb;subst e;cases h with
   |    row h3 h4=>
        rw[h1]at h3;cases h3;exact .row h2 h4
 ·exact h
theorem RV.mv{ok:Nat->Prop}{w:World}{β:Nat->Option Value}{l nm:Nat}{z:Value}{c:AV}{x:Value}(h1:β l=some z)(h2:β nm=some z)(h:RV P ok w β c x):RV P ok w β (mvV l nm c) x:=by
 have e:∀k,c= .row k->RV P ok w β (mvV l nm (.row k)) x:=fun k hk=>by
  subst hk;have h':=RA.mv h1 h2 (h.2 rfl);cases hb:Nat.beq k l with
  |false=>simp only[mvV,hb,cond_false];exact h
  |true=>
   simp only[mvV,hb,cond_true]at h' ⊢
   exact⟨fun hi=>by simp[AV.isAgg]at hi,fun _=>h'⟩
 cases c with
 |row k=>exact e k rfl
 |_=>exact h
theorem RelB.mvAll(r:RelB P K w0 n σ a w β){l nm:Nat}{z:Value}(h1:β l=some z)(h2:β nm=some z):RelB P K w0 n ⟨σ.ts.map (mvV l nm),σ.hs.map (mvO l nm),σ.k0⟩ a w β:=by
 have hlk:∀k,lk (σ.hs.map (mvO l nm)) k=mvO l nm (lk σ.hs k):=fun k=>adG rfl _ _;have hown:∀k b,owns (σ.hs.map (mvO l nm)) β k b↔owns σ.hs β k b:=fun k b=>by simp only[owns,hlk,ape]
 have hk:∀b,okOf K w0 w σ.hs β b->okOf K w0 w (σ.hs.map (mvO l nm)) β b∧w.heap[b]? =w.heap[b]? :=fun b hb=>⟨⟨hb.1,hb.2.1,fun k hk=>hb.2.2 k ((hown k b).1 hk)⟩,rfl⟩;refine⟨r.size,r.defers,r.below,fun k=>?_,fun k=>?_,fun k k' b q1 q2=>r.sep k k' b ((hown _ _).1 q1) ((hown _ _).1 q2),fun k b q1=>r.own k b ((hown _ _).1 q1),r.ext,r.kk,r.tab.mono hk⟩
 ·show RV P _ w β (tk (σ.ts.map (mvV l nm)) k) _;rw[adF rfl];exact RV.mv h1 h2 ((r.ts k).mono hk (Ext.refl _))
 ·show ObOK P _ w β (lk (σ.hs.map (mvO l nm)) k) _;rw[hlk];have h3:=(r.hs k).mono hk (fun _ _ _ _ _=>rfl) (Ext.refl _);cases ho:lk σ.hs k with
  |box T c=>
   rw[ho]at h3;obtain⟨b,cs,q1,q2,q3,q4⟩:=h3;exact⟨b,cs,q1,q2,q3,RA.mv h1 h2 q4⟩
  |row T es=>rw[ho]at h3;exact h3
  |rowA T vs=>rw[ho]at h3;exact h3
  |frz T es=>rw[ho]at h3;exact h3
  |map T es=>rw[ho]at h3;exact h3
  |rowD=>rw[ho]at h3;exact h3
  |tok=>rw[ho]at h3;exact h3
  |gone=>trivial
  |free=>rw[ho]at h3;exact h3
theorem Imp.mvAt(l:Nat):Imp P n σ (mvAt σ l):=by
 rintro K w0 a w ⟨β,r⟩;unfold Am.mvAt;cases hb:(Nat.blt l σ.k0&&Nat.ble σ.k0 σ.hs.length)with
 |false=>exact⟨β,r⟩
 |true=>
  simp only[cond_true];split
  ·rename_i T es hl;have hk0:σ.k0<=σ.hs.length:=aL (aB hb);have hob:=r.hs l;rw[hl]at hob;have hob0:=hob;obtain⟨E,z,xs,hz,_⟩:=hob0;rw[hz]at hob;have r2:=r.take l σ.hs.length (.row T es) z w (by rw[hl];simp) (j6 _ _ (ay _)) hk0 rfl rfl rfl (ay _) (fun _ _ _=>rfl) (fun b hb'=> .inr ⟨by rw[hl];rfl,z,hz,hb'⟩) (fun hext hk=>hob.mono hk (fun _ _ _ _ _=>rfl) hext);have hne:l≠σ.hs.length:=by have h5:l<σ.k0:=aL (aG hb);omega
   exact⟨_,r2.mvAll (l:=l) (nm:=σ.hs.length) (z:=z) (by rw[dX _ _ _ _ hne];exact hz) (dA _ _ _)⟩
  ·exact⟨β,r⟩
theorem Imp.mvSlot(t:Nat):Imp P n σ (mvSlot σ t):=by
 unfold Am.mvSlot;split;·exact Imp.mvAt _
 ·split;·exact Imp.mvAt _
  ·exact Imp.refl
 ·exact Imp.refl
theorem RelB.renAll(r:RelB P K w0 n σ a w β){Y:Nat->Option Nat}(hr:K9 Y β β):RelB P K w0 n ⟨AV.renL Y σ.ts,σ.hs.map (Ob.ren Y),σ.k0⟩ a w β:=by
 have hlk:∀k,lk (σ.hs.map (Ob.ren Y)) k=(lk σ.hs k).ren Y:=fun k=>adG rfl _ _;have hown:∀k b,owns (σ.hs.map (Ob.ren Y)) β k b->owns σ.hs β k b:=fun k b h=>by obtain⟨h1,h2⟩:=h;rw[hlk]at h1;exact⟨Ob.ren_own h1,h2⟩
 have hk:∀b,okOf K w0 w σ.hs β b->okOf K w0 w (σ.hs.map (Ob.ren Y)) β b∧w.heap[b]? =w.heap[b]? :=fun b hb=>⟨⟨hb.1,hb.2.1,fun k hk=>hb.2.2 k (hown k b hk)⟩,rfl⟩;refine⟨r.size,r.defers,r.below,fun k=>?_,fun k=>?_,fun k k' b q1 q2=>r.sep k k' b (hown _ _ q1) (hown _ _ q2),fun k b q1=>r.own k b (hown _ _ q1),r.ext,r.kk,r.tab.mono hk⟩
 ·show RV P _ w β (tk (AV.renL Y σ.ts) k) _;rw[Vb];exact((r.ts k).mono hk (Ext.refl _)).ren hr
 ·show ObOK P _ w β (lk (σ.hs.map (Ob.ren Y)) k) _;rw[hlk];exact((r.hs k).mono hk (fun _ _ _ _ _=>rfl) (Ext.refl _)).ren hr
theorem Imp.mvAtR(l:Nat):Imp P n σ (mvAtR σ l):=by
 rintro K w0 a w ⟨β,r⟩;unfold Am.mvAtR;cases hb:(Nat.blt l σ.k0&&(Nat.ble σ.k0 σ.hs.length&&atE (lk σ.hs l)))with
 |false=>exact⟨β,r⟩
 |true=>
  simp only[cond_true];have hk0:σ.k0<=σ.hs.length:=aL (aG (aB hb));have hm:=aB (aB hb);have hob:=r.hs l;obtain⟨z,hz,hown,hfr⟩:∃z,β l=some z∧(lk σ.hs l).isOwn=true∧lk σ.hs l≠ .free:=by
   cases ho:lk σ.hs l with
   |row T es=>rw[ho]at hob;obtain⟨_,z,_,e,_⟩:=hob;exact⟨z,e,rfl,nofun⟩
   |rowD T T2 c k es h=>rw[ho]at hob;obtain⟨_,_,_,z,_,_,e,_⟩:=hob;exact⟨z,e,rfl,nofun⟩
   |tok T ls=>rw[ho]at hob;obtain⟨_,arr,e,_⟩:=hob;exact⟨_,e,rfl,nofun⟩
   |_=>rw[ho]at hm;cases hm
  rw[hz]at hob;have r2:=r.take l σ.hs.length (lk σ.hs l) z w hfr (j6 _ _ (ay _)) hk0 rfl rfl rfl (ay _) (fun _ _ _=>rfl) (fun b hb'=> .inr ⟨hown,z,hz,hb'⟩) (fun hext hk=>hob.mono hk (fun _ _ _ _ _=>rfl) hext);have hne:l≠σ.hs.length:=by have h5:l<σ.k0:=aL (aG hb);omega
  refine⟨_,r2.renAll (Y:=mvY l σ.hs.length) fun k k' z' h1 h2=>?_⟩;unfold mvY at h1;cases hbe:Nat.beq k l with
  |true=>
   rw[hbe]at h1;cases h1;have e:=beq_eq hbe;subst e;rw[dX _ _ _ _ hne,hz]at h2;cases h2;exact dA _ _ _
  |false=>
   rw[hbe]at h1;cases h1;exact h2
theorem Imp.mvRL:∀(ls:List Nat)(σ:St),Imp P n σ (mvRL σ ls)
 | [],_=>Imp.refl
 |l::ls,σ=>(Imp.mvAtR l).trans (Imp.mvRL ls _)
theorem Imp.mvBoxR(s:Nat):Imp P n σ (mvBoxR σ s):=by
 unfold Am.mvBoxR;split
 ·split;·exact Imp.mvRL _ _
  ·exact Imp.refl
 ·exact Imp.refl
theorem Imp.mvL:∀(ts:List Nat)(σ:St),Imp P n σ (mvL σ ts)
 | [],_=>Imp.refl
 |t::ts,σ=>by
  refine Imp.trans ?_ (Imp.mvL ts _);cases (Nat.ble 4000000 t&&Nat.blt t 100000000);·exact Imp.mvSlot t
  ·exact Imp.mvBoxR _
theorem Imp.unfAt(l:Nat):Imp P n σ (unfAt σ l):=by
 unfold Am.unfAt;split
 ·rename_i T5 T2 c k es i m hl;split
  ·rename_i T3 ls T4 ds hk hm;cases hb:(Nat.beq T3 T2&&(Nat.beq T4 T2&&Nat.ble σ.k0 σ.hs.length))with
   |false=>exact Imp.refl
   |    true=>
        have e1:=beq_eq (aG hb);have e2:=beq_eq (aG (aB hb));subst e1 e2;rintro K w0 a w ⟨β,r⟩;exact r.unfocus hl hk hm (j6 _ _ (ay _)) (aL (aB (aB hb)))
  ·exact Imp.refl
 ·exact Imp.refl
theorem Imp.unfL:∀(ls:List Nat)(σ:St),Imp P n σ (unfL σ ls)
 | [],_=>Imp.refl
 |l::ls,σ=>(Imp.unfAt l).trans (Imp.unfL ls _)
theorem Imp.frzDAt(l:Nat):Imp P n σ (frzDAt σ l):=by
 unfold Am.frzDAt;split
 ·rename_i T5 T2 c k es hl;split
  ·rename_i T3 ls hk;cases hb:Nat.beq T3 T2 with
   |false=>exact Imp.refl
   |    true=>
        have e1:=beq_eq hb;subst e1;exact Imp.freezeD hl hk
  ·exact Imp.refl
 ·exact Imp.refl
theorem Imp.toDAt(c:Option Nat)(l:Nat):Imp P n σ (toDAt P c σ l):=by
 unfold Am.toDAt;split
 ·rename_i T5 hl;split
  ·rename_i Te h1;split
   ·    rename_i T2 fo hf;split
        ·rename_i E2 h2;cases hb:Nat.ble σ.k0 σ.hs.length with
         |false=>exact Imp.refl
         |true=>
          rintro K w0 a w ⟨β,r⟩;exact r.toD hl (dx h1) (BS hf) (dx h2) (j6 _ _ (ay _)) (aL hb)
        ·exact Imp.refl
   ·exact Imp.refl
  ·exact Imp.refl
 ·exact Imp.refl
theorem Imp.deepC(cc l:Nat):Imp P n σ (deepC P σ cc l):=by
 unfold Am.deepC;cases Nat.beq cc 99;·exact Imp.toDAt _ _
 ·exact Imp.frzDAt _
theorem Imp.deep1(s cc:Nat):Imp P n σ (deep1 P σ s cc):=by
 unfold Am.deep1;split;·exact Imp.deepC _ _
 ·split;·exact Imp.deepC _ _
  ·exact Imp.refl
 ·exact Imp.refl
theorem Imp.deep2(f s cc:Nat):Imp P n σ (deep2 P σ f s cc):=by
 unfold Am.deep2;split
 ·split
  ·split;·exact Imp.deepC _ _
   ·exact Imp.refl
  ·exact Imp.refl
 ·exact Imp.refl
theorem Imp.deepL:∀(ts:List Nat)(σ:St),Imp P n σ (deepL P σ ts)
 | [],_=>Imp.refl
 |t::ts,σ=>by
  refine Imp.trans ?_ (Imp.deepL ts _);cases Nat.ble 100000000 t
  ·cases Nat.ble 2000000 t;·exact Imp.refl
   ·exact Imp.deep1 _ _
  ·exact Imp.deep2 _ _ _
theorem Imp.norm(f:FuncId)(key:Nat):Imp P n σ (nA P E f key σ):=by
 unfold nA;split;·exact Imp.refl
 ·rename_i kp fz rw _;simp only;refine Imp.trans (Rel.congr (τ:=⟨xJ kp (IQ kp) σ.ts 0,σ.hs,σ.k0⟩) (fun k=>adM kp (IQ kp) σ.ts 0 k) (fun _=>rfl) rfl) ?_;refine Imp.trans (Imp.frzN (Gy ⟨xJ kp (IQ kp) σ.ts 0,σ.hs,σ.k0⟩ fz) ⟨xJ kp (IQ kp) σ.ts 0,σ.hs,σ.k0⟩) ?_;refine Imp.trans (Imp.gonN (Cm ⟨xJ kp (IQ kp) σ.ts 0,σ.hs,σ.k0⟩ fz) ⟨xJ kp (IQ kp) σ.ts 0,Am.frzN σ.hs (Gy ⟨xJ kp (IQ kp) σ.ts 0,σ.hs,σ.k0⟩ fz),σ.k0⟩) ?_;refine Imp.trans (Imp.unfL (upto 0 (St.mk (xJ kp (IQ kp) σ.ts 0) (Am.gonN (Am.frzN σ.hs (Gy ⟨xJ kp (IQ kp) σ.ts 0,σ.hs,σ.k0⟩ fz)) (Cm ⟨xJ kp (IQ kp) σ.ts 0,σ.hs,σ.k0⟩ fz)) σ.k0).hs.length) _) ?_;refine Imp.trans (Imp.nilAll rw _) ?_;refine Imp.trans (Imp.mvL rw _) ?_;refine Imp.trans (Imp.deepL rw _) ?_;refine Imp.trans ?_ Imp.relab;rintro K w0 a w ⟨β,r⟩;exact⟨β,r.packAll _⟩
def Post(P:Program)(n:Nat)(k:Exit->St->Option R)(r:R):Exit->St->Prop:=fun e τ=>∃τ0,Imp P n τ τ0∧k e τ0=some r
def JOK(J:Nat->Nat->Nat->St->Option R->Option R):Prop:=∀a b c s x r,J a b c s x=some r->x=some r
theorem jn_ok:JOK (R:=R) jn:=fun _ _ _ _ _ _ h=>h
theorem Gd{J:Nat->Nat->Nat->St->Option R->Option R}(hJ:JOK J){c:Code}{key:Nat}{head:St->St}{body:St->(Exit->St->Option R)->Option R}(hh:∀σ,Imp P n σ (head σ))(hb:∀σ k,body σ k=some r->CW P n c σ (Post P n k r)):∀{m:Nat}{σ:St}{k:Exit->St->Option R},Lf J key head body m σ k=some r->CR P n c m σ (Post P n k r)
 |0,_,_,h=>by simp[Lf]at h
 |m+1,σ,k,h=>by
  unfold Lf at h;refine CR.step ((hb _ _ h).mono ?_);rintro e τ ⟨τ0,hi,hk⟩;cases e with
  |normal=>exact(Gd hJ hh hb (hJ _ _ _ _ _ _ hk)).imp (hi.trans (hh _))
  |exit id=>exact⟨τ0,hi,hk⟩
  |goto l=>exact⟨τ0,hi,hk⟩
  |ret=>exact⟨τ0,hi,hk⟩
  |panic ch=>exact⟨τ0,hi,hk⟩
  |outgrown=>exact⟨τ0,hi,hk⟩
theorem U6{fc:Option (Nat×Nat×Nat)}{k:St->Option R}(h:anf fc σ k=some r):∃τ,Imp P n σ τ∧k τ=some r:=by
 unfold anf at h;split at h;·exact⟨σ,Imp.refl,h⟩
 ·split  at h
  ·rename_i l i _ _;split at h
   ·    rename_i T5 T2 c kk es hl;split at h
        ·rename_i T4 ls hk;obtain⟨hc,h⟩:=aJ h;have e:=beq_eq hc;subst e;obtain⟨hk0,h⟩:=kG h;obtain⟨e,he,h⟩:=ak.1 h;obtain⟨hd,h⟩:=aJ h;obtain⟨e2,he2,h⟩:=ak.1 h;refine⟨_,fun K w0 a w ⟨β,r'⟩=>?_,h⟩;obtain⟨β',r2,_⟩:=r'.focus (p:=σ.hs.length) (q:=σ.hs.length+1) hl hk he hd (r'.tok_lst hk he2) (kH σ) (j6 _ _ (by omega)) (by omega) hk0 (by omega);exact⟨β',r2⟩
        ·cases h
   ·cases h
  ·cases h
theorem ahw{J:Nat->Nat->Nat->St->Option R->Option R}(hJ:JOK J)(hcall:CallOK P call)(hmix:P.follows .mixedOrders=true)(m:Nat)(f:FuncId):∀(c:Code)(σ:St)(k:Exit->St->Option R),ev0 P E call J m f n c σ k=some r->CW P n c σ (Post P n k r):=by
 intro c;induction c with
 |skip=>intro σ k h;exact CW.skip ⟨σ,Imp.refl,by simpa [ev0]using h⟩
 |region id ops draw=>
  intro σ k h;have ea:ops=ops.toList.toArray:=by simp
  cases draw with
  |false=>
   simp only[ev0]at h;obtain⟨ds,τ,ht,hk⟩:=Cu hcall h;rw[ea];exact CW.region ht.lw fun s e=>by rw[e];exact⟨τ,Imp.refl,hk⟩
  |true=>
   simp only[ev0]at h;obtain⟨σ2,hi2,h⟩:=U6 (P:=P) (n:=n) h;refine CW.imp hi2 ?_;obtain⟨ds,τ,ht,hk⟩:=Cu hcall h;obtain⟨hc,hk⟩:=aJ hk;rw[ea];refine N9 hmix ht (aG hc) (by simpa using aB hc) fun τ' he=>⟨τ,?_,hk⟩;exact StEq.imp ⟨fun t=>(he.ts t).symm,fun l=>(he.hs l).symm,he.k0.symm⟩
 |seq c1 c2 ih1 ih2=>
  intro σ k h;simp only[ev0]at h;refine CW.seq ((ih1 σ _ h).mono ?_);rintro e τ ⟨τ0,hi,hk⟩;cases e with
  |normal=>
   have hk':nextK P E J f (nextId c2) τ0 (fun s=>ev0 P E call J m f n c2 s k)=some r:=hk;unfold nextK at hk';split at hk';·exact(ih2 _ _ hk').imp hi
   ·exact(ih2 _ _ (hJ _ _ _ _ _ _ hk')).imp (hi.trans (Imp.norm _ _))
  |exit id=>exact⟨τ0,hi,hk⟩
  |goto l=>exact⟨τ0,hi,hk⟩
  |ret=>exact⟨τ0,hi,hk⟩
  |panic ch=>exact⟨τ0,hi,hk⟩
  |outgrown=>exact⟨τ0,hi,hk⟩
 |cond x c1 c2 ih1 ih2=>
  intro σ k h;simp only[ev0]at h;split at h
  ·rename_i t ht;obtain⟨T,d,e1,hu,rfl⟩:=vO ht;have hev:=uY (P:=P) (σ:=σ) (x:=x) (T:=0) (D:=E.dt);rw[e1]at hev;rcases bQ h with⟨hb,h1⟩| ⟨hb,h1⟩;·exact CW.condT hu (hev.cbool hu) hb (ih1 σ k h1)
   ·exact CW.condF hu (hev.cbool hu) hb (ih2 σ k h1)
  ·cases h
 |block id c ih=>
  intro σ k h;simp only[ev0]at h;refine CW.block ((ih σ _ h).mono ?_);rintro e τ ⟨τ0,hi,hk⟩;cases e with
  |exit id'=>
   simp only[anc];replace hk:(bif Nat.beq id' id then k .normal τ0 else k (.exit id') τ0)=some r:=hk;cases hb:Nat.beq id' id with
   |true=>rw[hb]at hk;exact⟨τ0,hi,hk⟩
   |false=>rw[hb]at hk;exact⟨τ0,hi,hk⟩
  |normal=>exact⟨τ0,hi,hk⟩
  |goto l=>exact⟨τ0,hi,hk⟩
  |ret=>exact⟨τ0,hi,hk⟩
  |panic ch=>exact⟨τ0,hi,hk⟩
  |outgrown=>exact⟨τ0,hi,hk⟩
 |loop c ih=>
  intro σ k h;simp only[ev0]at h;exact CW.loop ((Gd hJ (fun σ=>Imp.norm f (firstId c)) (fun σ k h=>ih σ k h) (hJ _ _ _ _ _ _ h)).imp (Imp.norm f (firstId c)))
 |rangeFunc=>intro σ k h;simp[ev0]at h
 |exit id=>intro σ k h;exact CW.exit ⟨σ,Imp.refl,by simpa [ev0]using h⟩
 |scope c ih=>
  intro σ k h;simp only[ev0]at h;have h1:=ih σ _ h;have h2:CW P n c σ (fun e τ=>(∀l,e≠ .goto l)∧Post P n k r e τ):=h1.mono (by
   rintro e τ ⟨τ0,hi,hk⟩;cases e with
   |goto l=>cases hk
   |normal=>exact⟨(fun l e=>by cases e),τ0,hi,hk⟩
   |exit id=>exact⟨(fun l e=>by cases e),τ0,hi,hk⟩
   |ret=>exact⟨(fun l e=>by cases e),τ0,hi,hk⟩
   |panic ch=>exact⟨(fun l e=>by cases e),τ0,hi,hk⟩
   |outgrown=>exact⟨(fun l e=>by cases e),τ0,hi,hk⟩)
  exact(CW.scope h2 fun l τ hc=>hc.1 l rfl).mono fun e τ hc=>hc.2
 |label l=>intro σ k h;exact CW.label ⟨σ,Imp.refl,by simpa [ev0]using h⟩
 |goto l=>intro σ k h;simp[ev0]at h
 |ret=>intro σ k h;exact CW.ret ⟨σ,Imp.refl,by simpa [ev0]using h⟩
 |refuse w=>intro σ k h;simp[ev0]at h
theorem afO{c1 c2:Code}{q:Oper×Oper×Oper×Oper}(h:aii c1 c2=some q):(∃id,c1= .region id #[q.1,q.2.1,q.2.2.1,q.2.2.2] true)∧ang q.1 q.2.1 q.2.2.1 q.2.2.2=true∧q.1.guard=none∧q.2.1.guard=none∧q.2.2.1.guard=none∧q.2.2.2.guard=none:=by
 have hg:∀o:Oper,noG o=true->o.guard=none:=fun o h=>by
  unfold noG at h;split at h;·assumption
  ·cases h
 unfold aii at h;split at h
 ·rename_i id ops _ _ _;split at h
  ·rename_i o0 o1 o2 o3;obtain⟨hb,h⟩:=aJ h;cases h;simp only[aN]at hb;obtain⟨_,_,_,h4,h5,h6,h7,h8⟩:=hb;exact⟨⟨id,rfl⟩,h4,hg _ h5,hg _ h6,hg _ h7,hg _ h8⟩
  ·cases h
 ·cases h
theorem apf{a b:St}(h:aij a b=true):a=b:=by
 have hob:∀{x y:List Ob},adW x y=true->x=y:=by
  intro x;induction x with
  |nil=>intro y h;cases y with|nil=>rfl|cons=>cases h
  |cons o r ih=>
   intro y h;cases y with
   |nil=>cases h
   |    cons p s=>
        rw[adW,aN,Bool.or_eq_true]at h;rw[ih h.2];rcases h.1 with h1|h1;·rw[adU h1]
        ·cases o<;>cases p<;>first|rfl|(unfold atG at h1;cases h1)
 unfold aij at h;simp only[aN]at h;obtain⟨h1,h2,h3⟩:=h;obtain⟨ts,hs,k0⟩:=a;obtain⟨ts',hs',k0'⟩:=b;have e1:ts=ts':=zH h1;have e2:hs=hs':=hob h2;have e3:k0=k0':=aS h3;rw[e1,e2,e3]
theorem U7(hmix:P.follows .mixedOrders=true){m:Nat}{f:FuncId}{c:Code}{e:Exit}{s:St}(h:inn P E m f n c σ=some (e,s)):CW P n c σ fun e' τ=>e'=e∧Imp P n τ s:=by
 have hJ:JOK (R:=Exit×St) fun _ _ _ _ x=>x:=fun _ _ _ _ _ _ h=>h;have hcall:CallOK (R:=Exit×St) P fun _ _ _ _=>none:=by intro f args objs K r h;cases h
 refine(ahw hJ hcall hmix m f c σ _ h).mono ?_;rintro e' τ ⟨τ0,hi,hk⟩;cases hk;exact⟨rfl,hi⟩
theorem ahx(hcall:CallOK P call)(hmix:P.follows .mixedOrders=true){J:Nat->Nat->Nat->St->Option R->Option R}{m:Nat}{f:FuncId}{c1 c2:Code}{q:Oper×Oper×Oper×Oper}{k:Exit->St->Option R}(hq:aii c1 c2=some q)
  (ih2:∀(σ:St)(k:Exit->St->Option R),ev P E call J m f n c2 σ k=some r->CW P n c2 σ (Post P n k r))
  (h:(agk P E call n q.1 q.2.1 q.2.2.1 q.2.2.2 σ fun σA σB=>same (ev P E call J m f n c2 σA k) (ev P E call J m f n c2 σB k))=some r):CW P n (.seq c1 c2) σ (Post P n k r):=by
 obtain⟨⟨id,rfl⟩,hc,g0,g1,g2,g3⟩:=afO hq;obtain⟨o0,o1,o2,o3⟩:=q;simp only at h hc g0 g1 g2 g3 ⊢
 unfold agk at h;have refl:∀(o:Oper)(s:St)(rd:List Nat),Agr o s s rd:=fun o s rd=>⟨fun _ _=>rfl,fun _ _=>rfl,rfl⟩;obtain⟨d0,h,t0⟩:=fV hcall h;obtain⟨d1,h,t1⟩:=fV hcall h;obtain⟨d2,h,t2⟩:=fV hcall h;obtain⟨d3,h,t3⟩:=fV hcall h;obtain⟨e2,h,u2⟩:=fV hcall h;obtain⟨e1,h,u1⟩:=fV hcall h;obtain⟨e3,h,u3⟩:=fV hcall h;obtain⟨hA,hB⟩:=agj h;exact CW.seq (IK hmix (Z:=fun e τ=>_) hc (.plain g0 (t0 _ (refl _ _ _))) (.plain g1 (t1 _ (refl _ _ _))) (.plain g2 (t2 _ (refl _ _ _))) (.plain g3 (t3 _ (refl _ _ _))) (.plain g2 (u2 _ (refl _ _ _))) (.plain g1 (u1 _ (refl _ _ _))) (.plain g3 (u3 _ (refl _ _ _))) (ih2 _ _ hA) (ih2 _ _ hB))
theorem amx(hcall:CallOK P call)(hmix:P.follows .mixedOrders=true){m:Nat}{f:FuncId}{c1 c2:Code}{q:Oper×Oper×Oper×Oper}{k:Exit->St->Option R}(hq:aii c1 c2=some q)
  (h:(agk P E call n q.1 q.2.1 q.2.2.1 q.2.2.2 σ fun σA σB=>match inn P E m f n c2 σA,inn P E m f n c2 σB with
   |    some (.normal,s1),some (.normal,s2)=>(match mrg P E f q.1.dst s1 s2 with
        |some s=>k .normal s
        |none=>none)
   |_,_=>none)=some r):CW P n (.seq c1 c2) σ (Post P n k r):=by
 obtain⟨⟨id,rfl⟩,hc,g0,g1,g2,g3⟩:=afO hq;obtain⟨o0,o1,o2,o3⟩:=q;simp only at h hc g0 g1 g2 g3 ⊢
 unfold agk at h;have refl:∀(o:Oper)(s:St)(rd:List Nat),Agr o s s rd:=fun o s rd=>⟨fun _ _=>rfl,fun _ _=>rfl,rfl⟩;obtain⟨d0,h,t0⟩:=fV hcall h;obtain⟨d1,h,t1⟩:=fV hcall h;obtain⟨d2,h,t2⟩:=fV hcall h;obtain⟨d3,h,t3⟩:=fV hcall h;obtain⟨e2,h,u2⟩:=fV hcall h;obtain⟨e1,h,u1⟩:=fV hcall h;obtain⟨e3,h,u3⟩:=fV hcall h;dsimp only at h;split at h
 ·rename_i s1 s2 hA hB;split at h
  ·rename_i s hs;unfold mrg at hs;obtain⟨hb,hs⟩:=aJ hs;have he:=apf hb;cases hs;have pA:=U7 hmix hA;have pB:=U7 hmix hB;refine CW.seq (IK hmix (Z:=fun e τ=>_) hc (.plain g0 (t0 _ (refl _ _ _))) (.plain g1 (t1 _ (refl _ _ _))) (.plain g2 (t2 _ (refl _ _ _))) (.plain g3 (t3 _ (refl _ _ _))) (.plain g2 (u2 _ (refl _ _ _))) (.plain g1 (u1 _ (refl _ _ _))) (.plain g3 (u3 _ (refl _ _ _))) ?_ ?_)
   ·    refine pA.mono ?_;rintro e' τ ⟨rfl,hi⟩;exact⟨_,hi.trans (Imp.norm _ _),h⟩
   ·    refine pB.mono ?_;rintro e' τ ⟨rfl,hi⟩;refine⟨_,hi.trans (Imp.norm (E:={E with keep:=fun _ _=>some (rmD o0.dst (agl 0 s1.ts s2.ts),[],[])}) f 1),?_⟩;rw[←he];exact h
  ·cases h
 ·cases h
theorem amy{J:Nat->Nat->Nat->St->Option R->Option R}(hJ:JOK J)(hcall:CallOK P call)(hmix:P.follows .mixedOrders=true)(m:Nat)(f:FuncId):∀(c:Code)(σ:St)(k:Exit->St->Option R),ev P E call J m f n c σ k=some r->CW P n c σ (Post P n k r):=by
 intro c;induction c with
 |skip=>intro σ k h;exact CW.skip ⟨σ,Imp.refl,by simpa [ev]using h⟩
 |region id ops draw=>
  intro σ k h;have ea:ops=ops.toList.toArray:=by simp
  cases draw with
  |false=>
   simp only[ev]at h;obtain⟨ds,τ,ht,hk⟩:=Cu hcall h;rw[ea];exact CW.region ht.lw fun s e=>by rw[e];exact⟨τ,Imp.refl,hk⟩
  |true=>
   simp only[ev]at h;obtain⟨σ2,hi2,h⟩:=U6 (P:=P) (n:=n) h;refine CW.imp hi2 ?_;obtain⟨ds,τ,ht,hk⟩:=Cu hcall h;obtain⟨hc,hk⟩:=aJ hk;rw[ea];refine N9 hmix ht (aG hc) (by simpa using aB hc) fun τ' he=>⟨τ,?_,hk⟩;exact StEq.imp ⟨fun t=>(he.ts t).symm,fun l=>(he.hs l).symm,he.k0.symm⟩
 |seq c1 c2 ih1 ih2=>
  intro σ k h;simp only[ev]at h;split at h
  rotate_left
  ·rename_i q hq;rcases bQ h with⟨_,h⟩| ⟨_,h⟩;·exact ahx hcall hmix hq ih2 h
   ·exact amx hcall hmix hq h
  refine CW.seq ((ih1 σ _ h).mono ?_);rintro e τ ⟨τ0,hi,hk⟩;cases e with
  |normal=>
   have hk':nextK P E J f (nextId c2) τ0 (fun s=>ev P E call J m f n c2 s k)=some r:=hk;unfold nextK at hk';split at hk';·exact(ih2 _ _ hk').imp hi
   ·exact(ih2 _ _ (hJ _ _ _ _ _ _ hk')).imp (hi.trans (Imp.norm _ _))
  |exit id=>exact⟨τ0,hi,hk⟩
  |goto l=>exact⟨τ0,hi,hk⟩
  |ret=>exact⟨τ0,hi,hk⟩
  |panic ch=>exact⟨τ0,hi,hk⟩
  |outgrown=>exact⟨τ0,hi,hk⟩
 |cond x c1 c2 ih1 ih2=>
  intro σ k h;simp only[ev]at h;split at h
  ·rename_i t ht;obtain⟨T,d,e1,hu,rfl⟩:=vO ht;have hev:=uY (P:=P) (σ:=σ) (x:=x) (T:=0) (D:=E.dt);rw[e1]at hev;rcases bQ h with⟨hb,h1⟩| ⟨hb,h1⟩;·exact CW.condT hu (hev.cbool hu) hb (ih1 σ k h1)
   ·exact CW.condF hu (hev.cbool hu) hb (ih2 σ k h1)
  ·cases h
 |block id c ih=>
  intro σ k h;simp only[ev]at h;refine CW.block ((ih σ _ h).mono ?_);rintro e τ ⟨τ0,hi,hk⟩;cases e with
  |exit id'=>
   simp only[anc];replace hk:(bif Nat.beq id' id then k .normal τ0 else k (.exit id') τ0)=some r:=hk;cases hb:Nat.beq id' id with
   |true=>rw[hb]at hk;exact⟨τ0,hi,hk⟩
   |false=>rw[hb]at hk;exact⟨τ0,hi,hk⟩
  |normal=>exact⟨τ0,hi,hk⟩
  |goto l=>exact⟨τ0,hi,hk⟩
  |ret=>exact⟨τ0,hi,hk⟩
  |panic ch=>exact⟨τ0,hi,hk⟩
  |outgrown=>exact⟨τ0,hi,hk⟩
 |loop c ih=>
  intro σ k h;simp only[ev]at h;exact CW.loop ((Gd hJ (fun σ=>Imp.norm f (firstId c)) (fun σ k h=>ih σ k h) (hJ _ _ _ _ _ _ h)).imp (Imp.norm f (firstId c)))
 |rangeFunc=>intro σ k h;simp[ev]at h
 |exit id=>intro σ k h;exact CW.exit ⟨σ,Imp.refl,by simpa [ev]using h⟩
 |scope c ih=>
  intro σ k h;simp only[ev]at h;have h1:=ih σ _ h;have h2:CW P n c σ (fun e τ=>(∀l,e≠ .goto l)∧Post P n k r e τ):=h1.mono (by
   rintro e τ ⟨τ0,hi,hk⟩;cases e with
   |goto l=>cases hk
   |normal=>exact⟨(fun l e=>by cases e),τ0,hi,hk⟩
   |exit id=>exact⟨(fun l e=>by cases e),τ0,hi,hk⟩
   |ret=>exact⟨(fun l e=>by cases e),τ0,hi,hk⟩
   |panic ch=>exact⟨(fun l e=>by cases e),τ0,hi,hk⟩
   |outgrown=>exact⟨(fun l e=>by cases e),τ0,hi,hk⟩)
  exact(CW.scope h2 fun l τ hc=>hc.1 l rfl).mono fun e τ hc=>hc.2
 |label l=>intro σ k h;exact CW.label ⟨σ,Imp.refl,by simpa [ev]using h⟩
 |goto l=>intro σ k h;simp[ev]at h
 |ret=>intro σ k h;exact CW.ret ⟨σ,Imp.refl,by simpa [ev]using h⟩
 |refuse w=>intro σ k h;simp[ev]at h
def Bg(tmps:Array Value):ResultVar->Sem Value
 | .tmp t=>pure (tmps.getD t undef)
 | .cell a t=>do loadVar t (←asAddr (tmps.getD a undef))
theorem QE(r:RelB P K w0 n σ a w β):∀{rs:List ResultVar}{vs:List AV},abp P σ rs=some vs->
   ∃zs:List Value,(rs.mapM (Bg a.tmps)).run P w= .ok zs w∧RVsX P (okOf K w0 w σ.hs β) w β vs zs∧∀v∈vs,v≠ .dead∧∀us,v≠ .tup us
 | [],vs,h=>by
   have h':some []=some vs:=by simpa [abp]using h
   cases h';exact⟨[],rfl,.nil,by simp⟩
 | .tmp t::rs,vs,h=>by
   unfold abp at h;split at h;·cases h
   ·cases h
   ·rename_i h3 h4;split at h
    ·   rename_i us hus;cases h;obtain⟨zs,q1,q2,q3⟩:=QE r hus;refine⟨a.tmps.getD t undef::zs,by simp[List.mapM_cons,Bg,q1],.cons (r.ts t) q2,fun v hv=>?_⟩;rcases List.mem_cons.1 hv with e|hv;·subst e;exact⟨h3,fun us e=>h4 us e⟩
        ·exact q3 v hv
    ·cases h
 | .cell p T::rs,vs,h=>by
   unfold abp at h;split at h
   ·rename_i l hp;split at h
    ·   rename_i T' c hl;obtain⟨hc,h2⟩:=aJ h;clear h;have e:=beq_eq (aG hc);subst e;obtain⟨s1,s2,⟨D,hD⟩,s4,s5⟩:=kD (aG (aB hc));have hag:c.isAgg P=dQ P T':=by simpa using aB (aB hc)
        split at h2
        ·rename_i us hus;cases h2;obtain⟨zs,q1,q2,q3⟩:=QE r hus;have hr:=r.ts p;rw[hp]at hr;have hr':=hr.2 rfl;generalize hz:a.tmps.getD p undef=z at hr';cases hr' with
         | @ptr _ b _ _ hb=>
           have hob:=r.hs l;rw[hl,hb]at hob;obtain⟨b',cs,e,hblk,hsz,hra⟩:=hob;cases e;obtain⟨zv,hrun,hrv⟩:=AL (P:=P) (T:=T') (v:=c) (ok:=okOf K w0 w σ.hs β) (w:=w) (β:=β) (ad:=⟨b,0,none⟩) (cs:=cs.toList) hD (by simpa using hsz)
            (fun j u hj=>by rw[oJ,Nat.zero_add,cell_of_row w b j cs T' (0,0) hblk];simpa using hj) (fun hf=>s4 (by rw[hag];exact hf)) hag hra s2
           refine⟨zv::zs,?_,.cons hrv q2,fun v hv=>?_⟩
           ·simp only[Instr.loadAt,Instr.sureAddr,Sem.run_bind,Sem.run_pure,Result.andThen_ok]at hrun;simp[List.mapM_cons,Bg,hz,asAddr,hrun,q1]
           ·rcases List.mem_cons.1 hv with e|hv;·subst e;exact⟨s1,s2⟩
            ·exact q3 v hv
        ·cases h2
    ·cases h
   ·cases h
theorem adH{fn:Func}{zs:List Value}(hm:(fn.results.toList.mapM (Bg a.tmps)).run P w= .ok zs w):(results fn a.tmps).run P w= .ok (if h:zs.toArray.size=1 then zs.toArray[0]else .tuple zs.toArray) w:=by
 have hm:(fn.results.mapM (Bg a.tmps)).run P w= .ok zs.toArray w:=by
  have:fn.results.mapM (Bg a.tmps)=(fn.results.toList.mapM (Bg a.tmps))>>=fun l=>pure l.toArray:=by rw[Array.mapM_eq_mapM_toList];rfl
  rw[this,Sem.run_bind,hm];rfl
 have:results fn a.tmps=(fn.results.mapM (Bg a.tmps))>>=fun vs=>pure (if h:vs.size=1 then vs[0]else .tuple vs):=by
  unfold results;have hf:(fun x=>match x with| .tmp t=>pure (a.tmps.getD t undef)| .cell a_1 t=>do loadVar t (←asAddr (a.tmps.getD a_1 undef)):ResultVar->Sem Value)=Bg a.tmps:=by funext x;cases x<;>rfl
  rw[←hf];rfl
 rw[this,Sem.run_bind,hm];rfl
theorem RVsX.pack{ok:Nat->Prop}{vs:List AV}{zs:List Value}(h:RVsX P ok w β vs zs)(hv:∀v∈vs,v≠ .dead∧∀us,v≠ .tup us):RV P ok w β (xQ vs) (if h:zs.toArray.size=1 then zs.toArray[0]else .tuple zs.toArray):=by
 match vs,zs,h,hv with
 | [v],[z],.cons h .nil,_=>simpa [xQ]using h
 | [],[],.nil,_=>exact⟨#[],by simp,rfl,fun i av hv=>by simp at hv⟩
 |v1::v2::vr,z1::z2::zr,h,hv=>
  refine⟨(z1::z2::zr).toArray,by simp,by simpa using h.len,fun i av hav=>?_⟩;obtain⟨z,q1,q2⟩:=h.get i av hav;obtain⟨q3,q4⟩:=hv av (aU hav);have e:(z1::z2::zr).toArray.getD i undef=z:=by simp only[Array.getD_eq_getD_getElem?,List.getElem?_toArray,q1,Option.getD_some]
  rw[e];exact RV.to1 q3 q4 q2
theorem RVsX.mapC{ok:Nat->Prop}{hs:List Ob}{vs:List AV}{zs:List Value}(hf:EB P ok w β hs)(hfa:∀l T es,lk hs l= .frz T es->dQ P T=false)(h:RVsX P ok w β vs zs):RVsX P ok w β (vs.map (pkC P hs)) zs:=by
 induction h with
 |nil=>exact .nil
 |cons h _ ih=>exact .cons (h.pkC hf hfa) ih
theorem QF{src:List Nat}{Y:Nat->Option Nat}{hs:List Ob}:∀b,okOf K w0 w hs β b->okOf K w0 w (uK Y hs src) (uL src β) b∧w.heap[b]? =w.heap[b]? :=by rintro b ⟨h1,h2,h3⟩;refine⟨⟨h1,h2,fun k hk=>?_⟩,rfl⟩;obtain⟨l,_,h5⟩:=zB hk;exact h3 l h5
theorem LU{Y:Nat->Option Nat}:∀vs:List AV,(xQ vs).ren Y=xQ (AV.renL Y vs)
 | []=>rfl
 | [v]=>rfl
 |_::_::_=>rfl
theorem ahy{f:FuncId}{fn:Func}{q:Res}(r:RelB P K w0 n σ a w β)(h:fin P E f fn σ=some q):∃z β',(results fn a.tmps).run P w= .ok z w∧RelB P K w0 n ⟨[],q.2,σ.k0⟩ a w β'∧RV P (okOf K w0 w q.2 β') w β' q.1 z:=by
 unfold fin at h;split at h
 ·rename_i vs hvs;obtain⟨zs,q1,q2,q3⟩:=QE r hvs;have hres:=adH (fn:=fn) q1;cases hraw:E.raw f with
  |true=>
   rw[hraw]at h;simp only[cond_true]at h;obtain⟨src,hsrc⟩:∃src,Ld (BI σ.hs σ.hs.length (AV.n2rL P vs σ.hs.length).2) σ.k0 (AV.n2rL P vs σ.hs.length).1=src:=⟨_,rfl⟩;rw[hsrc]at h;obtain⟨hc,h3⟩:=aJ h;clear h;obtain⟨hc2,h4⟩:=aJ h3;clear h3;cases h4;have hk0:σ.k0<=σ.hs.length:=aL (aB hc);obtain⟨β1,r1,ex1,nb1,ok1⟩:=NT (P:=P) (n:=n) _ σ K w0 w a β σ.hs.length r (VO P vs σ.hs.length) (fun i h3 h4=>j6 _ _ h3) hk0;have r2:=r1.relabel src (pK (aG hc)) (fun i hi=>by rw[←hsrc];exact K4 hi) [] (fun k=> .inl rfl);have hv1:=(q2.mono (fun b hb=>⟨ok1 b hb,rfl⟩) ex1).n2r _ nb1;have hv2:=(hv1.mono (QF (src:=src) (Y:=ix src)) (Ext.refl _)).ren (AJ src β1);refine⟨_,_,hres,r2,?_⟩;show RV P _ w _ ((xQ _).ren _) _;rw[LU];exact hv2.pack (noDead_get hc2)
  |false=>
   rw[hraw]at h;simp only[cond_false]at h;obtain⟨src,hsrc⟩:∃src,Ld (frzN σ.hs (AV.rwsL vs)) σ.k0 (vs.map (pkC P (frzN σ.hs (AV.rwsL vs))))=src:=⟨_,rfl⟩;rw[hsrc]at h;obtain⟨hc,h3⟩:=aJ h;clear h;obtain⟨hc2,h4⟩:=aJ h3;clear h3;cases h4;have r1:=r.frzN (ls:=AV.rwsL vs);have r2:=r1.relabel src (pK hc) (fun i hi=>by rw[←hsrc];exact K4 hi) [] (fun k=> .inl rfl);have hv1:=(q2.mono (fun b hb=>⟨⟨hb.1,hb.2.1,fun l hl=>hb.2.2 l (U5 hl)⟩,rfl⟩) (Ext.refl _)).mapC r1.frzOK r1.frzAgg;have hv2:=(hv1.mono (QF (src:=src) (Y:=ix src)) (Ext.refl _)).ren (AJ src β);refine⟨_,_,hres,r2,?_⟩;show RV P _ w _ ((xQ _).ren _) _;rw[LU];exact hv2.pack (noDead_get hc2)
 ·cases h
where noDead_get:∀{vs:List AV},NM vs=true->∀v∈vs,v≠ .dead∧∀us,v≠ .tup us
 | [],_,v,hv=>by simp at hv
 |u   ::r,h,v,hv=>by
  unfold NM at h;rcases List.mem_cons.1 hv with e|hv
  ·   subst e;have:=aG h;split at this;·cases this
      ·cases this
      ·rename_i h3 h4;exact⟨h3,fun us e=>h4 us e⟩
  ·exact noDead_get (aB h) v hv
structure EnvOK (P:Program) (E:Env):Prop where
 fns:∀f fn,E.fns f=some fn->P.funcs[f]? =some fn∧(fn.name== "runtime.NumGoroutine")=false
 orc:∀f oc args objs(q:Res),E.orc f=some oc->oc args objs=some q->FX P f args objs q.1 q.2∧HasBody P f
 mix:P.follows .mixedOrders=true
theorem amz:∀(vs:List AV)(k:Nat),vs.length<=k->tk vs k= .dead
 | [],_,_=>rfl
 |_::r,0,h=>by simp at h
 |_::r,k+1,h=>by simp only[tk];exact amz r k (by simpa using h)
theorem Imp.mvAll:∀(rs:List ResultVar)(σ:St),Imp P n σ (mvAll σ rs)
 | [],_=>Imp.refl
 | .tmp t::rs,σ=>(Imp.mvSlot t).trans (Imp.mvAll rs _)
 | .cell _ _::rs,σ=>Imp.mvAll rs σ
theorem aaE:∀(ls:List Nat)(hs:List Ob)(l:Nat),(∀T es,lk hs l≠ .row T es)->lk (Am.frzN hs ls) l=lk hs l
 | [],_,_,_=>rfl
 |k::ls,hs,l,h=>by
  have h1:lk (frz1 hs k) l=lk hs l:=by
   unfold frz1;split
   ·    rename_i T es hk;refine bn _ _ _ _ fun e=>?_;subst e;exact h _ _ hk
   ·rfl
  show lk (Am.frzN (frz1 hs k) ls) l=lk hs l;rw[aaE ls (frz1 hs k) l (by rw[h1];exact h),h1]
theorem QG{Te:TypeId}{hs:List Ob}{ok:Nat->Prop}{w:World}{β:Nat->Option Value}(hf:EB P ok w β hs):∀{vs:List AV}{ds:List Dt},zG P hs Te vs=some ds->vs.length=ds.length∧∀(i:Nat)(d:Dt),ds[i]? =some d->∃v,vs[i]? =some v∧∀cs,RA P ok w β v cs->RD P ok w Te d cs
 | [],ds,h=>by
   have h':some []=some ds:=by simpa [zG]using h
   cases h';exact⟨rfl,fun i d hd=>by simp at hd⟩
 | v::vs,ds,h=>by
   unfold zG at h;split at h
   ·rename_i T d hp;obtain⟨hc,h2⟩:=aJ h;split at h2
    ·   rename_i ds' hds;cases h2;obtain⟨q1,q2⟩:=QG hf hds;refine⟨by simp[q1],fun i d' hd=>?_⟩;cases i with
        |zero=>
         simp only[aW,aD]at hd;subst hd;exact⟨v,rfl,fun cs hr=>(jN hf hr hp).compat (aG hc)⟩
        |succ i=>
         simp only[aX]at hd;obtain⟨v',h1,h2⟩:=q2 i d' hd;exact⟨v',by simpa using h1,h2⟩
    ·cases h2
   ·cases h
theorem Imp.flat1(l:Nat):Imp P n σ (flat1 P σ l):=by
 unfold Am.flat1;split
 ·rename_i T vs hl;split
  ·rename_i Te hTe;split
   ·    rename_i ds hds;refine Imp.trans (Imp.frzN (AV.rwsL vs) σ) ?_;rintro K w0 a w ⟨β,r⟩;have hl2:lk (Am.frzN σ.hs (AV.rwsL vs)) l= .rowA T vs:=by rw[aaE _ _ _ (by intro T' es;rw[hl];simp)];exact hl
        have hob:=r.hs l;have hl3:lk (St.mk σ.ts (Am.frzN σ.hs (AV.rwsL vs)) σ.k0).hs l= .rowA T vs:=hl2;rw[hl3]at hob;obtain⟨E',z,xs,hz,hu,hown,hone,hr⟩:=hob;obtain rfl:Te=E':=by have:=dx hTe;rw[this]at hu;cases hu;rfl
        obtain⟨q1,q2⟩:=QG r.frzOK hds;refine⟨_,r.upd l (.row T ds) (β l) w (.inl rfl) rfl rfl rfl (ay _) (fun _ _ _=>rfl) (fun z2 b2 _ hz2 hb2=> .inr ⟨by rw[hl3];rfl,z2,hz2,hb2⟩) fun hx hk=>?_⟩;refine⟨Te,z,xs,hz,hu,by rw[←q1];exact hown,hone,fun i d hd=>?_⟩;obtain⟨v,h1,h2⟩:=q2 i d hd;exact(h2 _ (hr i v h1)).mono hk
   ·exact Imp.refl
  ·exact Imp.refl
 ·exact Imp.refl
theorem Imp.flatL:∀(ls:List Nat)(σ:St),Imp P n σ (flatL P σ ls)
 | [],_=>Imp.refl
 |l::ls,σ=>(Imp.flat1 l).trans (Imp.flatL ls _)
theorem Imp.exitSt(f:FuncId)(fn:Func):Imp P n σ (exitSt P E f fn σ):=by
 unfold Am.exitSt;cases E.raw f with
 |true=>exact(Imp.norm f 1000000).trans (Imp.mvAll _ _)
 |false=>exact(Imp.norm f 1000000).trans (Imp.flatL _ _)
structure Sim (P:Program) (b q:Res):Prop where
 val:∀(ok:Nat->Prop)(w:World)(β:Nat->Option Value)(z:Value),RV P ok w β b.1 z->RV P ok w β q.1 z
 own:∀l,(lk q.2 l).isOwn=(lk b.2 l).isOwn
 obs:∀l(ok:Nat->Prop)(w:World)(β:Nat->Option Value)(v:Option Value),ObOK P ok w β (lk b.2 l) v->ObOK P ok w β (lk q.2 l) v
theorem Sim.refl(q:Res):Sim P q q:=⟨fun _ _ _ _ h=>h,fun _=>rfl,fun _ _ _ _ _ h=>h⟩
theorem FX_of{f:FuncId}{fn:Func}{c:Code}{args:List AV}{objs:List Ob}{m:Nat}{q:Res}{J:Nat->Nat->Nat->St->Option R->Option R}(hJ:JOK J)(hcall:CallOK P call)(hmix:P.follows .mixedOrders=true)(hf:P.funcs[f]? =some fn)(hc:fn.body=some c)(hlen':args.length<=fn.ntmps){dec:Res->Option R}
  (hd:∀(b:Res),dec b=some r->Sim P b q)
  (h:ev P E call J m f fn.ntmps c ⟨args,objs,objs.length⟩ (fun e σ=>(Rf P E f fn e σ).bind dec)=some r):FX P f args objs q.1 q.2:=by
 have hcw:=amy hJ hcall hmix m f c _ _ h;intro ok w β xs hok hobs hsep hxs htab;refine calls_of_wp hf hc ?_;have hxl:=hxs.len;have hkk:∀b,ok b->okOf ⟨ok,XO objs β,β,objs.length⟩ w w objs β b∧w.heap[b]? =w.heap[b]? :=fun b hb'=>⟨⟨(hok b hb').1,fun _=> .inl hb',fun l ho=>(hok b hb').2 ⟨l,ho⟩⟩,rfl⟩;have hrel:Rel P ⟨ok,XO objs β,β,objs.length⟩ w fn.ntmps ⟨args,objs,objs.length⟩ {tmps:=xs.toArray++Array.replicate (fn.ntmps-xs.toArray.size) undef,defers:=[]} w:=by
  refine⟨β,⟨by simp;omega,rfl,BelowX.refl _ _,fun k=>?_,fun l=>(hobs l).mono hkk (fun _ _ _ _ _=>rfl) (Ext.refl _),hsep,fun l b ho=> .inr ⟨l,ho⟩,fun l _=>rfl,rfl,htab.mono hkk⟩⟩;rcases Nat.lt_or_ge k xs.length with hlt|hge
  ·have e:(xs.toArray++Array.replicate (fn.ntmps-xs.toArray.size) undef).getD k undef=xs.getD k undef:=by rw[Array.getD_eq_getD_getElem?,Array.getElem?_append_left (by simpa using hlt)];simp[List.getD]
   rw[e];exact(hxs.tk k).mono hkk (Ext.refl _)
  ·have e:tk args k= .dead:=amz _ _ (by omega);show RV P _ w β (tk args k) _;rw[e];trivial
 refine hcw _ w _ w hrel _ ?_;rintro e τ a' w' ⟨τ0,himp,hfin⟩ rr;obtain⟨β',r'⟩:=(himp.trans (Imp.exitSt (E:=E) f fn)) _ _ _ _ rr;obtain⟨b,hfin,hdec⟩:=ak.1 hfin;have hsim:=hd b hdec;have key:(e= .ret∨e= .normal)∧fin P E f fn (exitSt P E f fn τ0)=some b:=by
  unfold Rf at hfin;split at hfin;·exact⟨.inl rfl,hfin⟩
  ·exact⟨.inr rfl,hfin⟩
  ·cases hfin
 obtain⟨hek,hfin⟩:=key;obtain⟨z,β2,hrun,r2,hz⟩:=ahy r' hfin;have hown:∀l b2,owns q.2 β2 l b2↔owns b.2 β2 l b2:=fun l b2=>by simp only[owns,hsim.own]
 have hoks:∀b2,okOf ⟨ok,XO objs β,β,objs.length⟩ w w' b.2 β2 b2->okOf ⟨ok,XO objs β,β,objs.length⟩ w w' q.2 β2 b2∧w'.heap[b2]? =w'.heap[b2]? :=fun b2 hb=>⟨⟨hb.1,hb.2.1,fun l hl=>hb.2.2 l ((hown l b2).1 hl)⟩,rfl⟩;have hF:FinX P ok w w' β β2 objs q.2:=⟨r2.below,fun l=>hsim.obs l _ _ _ _ ((r2.hs l).mono hoks (fun _ _ _ _ _=>rfl) (Ext.refl _)),fun l l' b2 h1 h2=>r2.sep l l' b2 ((hown _ _).1 h1) ((hown _ _).1 h2),fun l b2 h1=>r2.own l b2 ((hown _ _).1 h1),fun l hl=>r2.ext l hl⟩;have hz2:=hsim.val _ _ _ _ (hz.mono hoks (Ext.refl _));rcases hek with rfl|rfl;·exact⟨r'.defers,z,hrun,z,β2,rfl,hF,hz2⟩
 ·exact⟨r'.defers,z,hrun,z,β2,rfl,hF,hz2⟩
theorem AA(he:EnvOK P E):∀(m:Nat)(f:FuncId)(args:List AV)(objs:List Ob)(q:Res),run P E m f args objs=some q->FX P f args objs q.1 q.2∧HasBody P f
 |0,_,_,_,_,h=>by simp[run]at h
 |m+    1,f,args,objs,q,h=>by
  unfold run at h;split at h
  ·rename_i oc hoc;exact he.orc f oc args objs q hoc h
  ·split  at h
   ·    rename_i fn hfn;obtain⟨hf,hname⟩:=he.fns f fn hfn;split at h
        ·rename_i c hc;obtain⟨hlen,h⟩:=aJ h;refine⟨?_,⟨fn,hf,by rw[hc];rfl,hname⟩⟩;refine FX_of (r:=q) (dec:=some) jn_ok (fun f args objs K r hr=>by obtain⟨q',h1,h2⟩:=ak.1 hr;exact⟨q',h2,AA he m f args objs q' h1⟩) he.mix hf hc (aL hlen) (fun b hb=>by cases hb;exact Sim.refl _) (E:=E) (m:=m+1) ?_
         have e:(fun e σ=>(Rf P E f fn e σ).bind some)=Rf P E f fn:=by funext e σ;cases Rf P E f fn e σ<;>rfl
         rw[e];exact h
        ·cases h
   ·cases h
end
def xD:Code->List Nat->Code
 | .seq a _,0::p=>xD a p
 | .seq _ b,_::p=>xD b p
 | .cond _ a _,0::p=>xD a p
 | .cond _ _ b,_::p=>xD b p
 | .block _ c,_::p=>xD c p
 | .loop c,_::p=>xD c p
 | .scope c,_::p=>xD c p
 |c,_=>c
section
variable{R:Type}(P:Program)(E:Env)(call:FuncId->List AV->List Ob->(Res->Option R)->Option R)(J:Nat->Nat->Nat->St->Option R->Option R)(m:Nat)(f:FuncId)(n:Nat)
noncomputable def Bh:Code->List Nat->List Nat->(Exit->St->Option R)->Exit->St->Option R
 | .seq a b,0::p,ms,k=>Bh a p ms (aif (fun σ'=>nextK P E J f (nextId b) σ' fun s=>ev P E call J m f n b s k) k)
 | .seq _ b,_::p,ms,k=>Bh b p ms k
 | .cond _ a _,0::p,ms,k=>Bh a p ms k
 | .cond _ _ b,_::p,ms,k=>Bh b p ms k
 | .block id c,_::p,ms,k=>Bh c p ms (abn id k)
 | .loop c,_::p,M::ms,k=>Bh c p ms (aif (fun σ'=>J 1 (firstId c) M (nA P E f (firstId c) σ') (Lf J (firstId c) (nA P E f (firstId c)) (ev P E call J m f n c) M (nA P E f (firstId c) σ') k)) k)
 | .scope c,_::p,ms,k=>Bh c p ms (abo k)
 |_,_,_,k=>k
def finD(fn:Func)(dec:Res->Option R)(e:Exit)(σ:St):Option R:=(Rf P E f fn e σ).bind dec
def bodyOf(fn:Func):Code:=fn.body.getD .skip
noncomputable def evAt(fn:Func)(dec:Res->Option R)(p ms:List Nat)(σ:St):Option R:=ev P E call J m f n (xD (bodyOf fn) p) σ (Bh P E call J m f n (bodyOf fn) p ms (finD P E f fn dec))
def amA:Code->Code
 | .loop c=>c
 |c=>c
noncomputable def loopAt(fn:Func)(dec:Res->Option R)(p ms:List Nat)(M:Nat)(σ:St):Option R:=
 Lf J (firstId (amA (xD (bodyOf fn) p))) (nA P E f (firstId (amA (xD (bodyOf fn) p)))) (ev P E call J m f n (amA (xD (bodyOf fn) p))) M σ (Bh P E call J m f n (bodyOf fn) p ms (finD P E f fn dec))
end
def awD(ts:List AV):List (Nat×AV)->List AV
 | []=>ts
 |(k,v)::r=>awD (zD ts k v) r
def tsOf(l:List (Nat×AV)):List AV:=awD [] l
def jj{A:Type}(J:Nat->Nat->Nat->St->A->A)(a b c:Nat)(s:St)(e:St->A):A:=J a b c s (e s)
theorem aM{A:Type}(a b c:Nat)(s:St)(e:St->A):jj jn a b c s e=e s:=by rw[jj];rfl
section
variable{R:Type}{P:Program}{E:Env}{call:FuncId->List AV->List Ob->(Res->Option R)->Option R}{m n M:Nat}{f:FuncId}{fn:Func}{dec:Res->Option R}{p ms:List Nat}{σ:St}{g:(Nat->Nat->Nat->St->Option R->Option R)->Option R}{r:Option R}
end
end Go.Am
namespace Go.Am
open Go.RowKit Dt
section
variable{P:Program}{T:TypeId}{A:Type}{u v:AV}{us vs:List AV}
structure Cv (P:Program) (T:TypeId) (f:Dt->A) (g:A->Dt):Prop where
 rd:∀(ok:Nat->Prop)(w:World)(cs:List Value)(d:Dt),RD P ok w T d cs->RD P ok w T (g (f d)) cs
theorem Cv.int{k:IntKind}(hu:P.underlying T=some (.int k)):Cv P T toInt int:=⟨fun _ _ _ _ h=>by have:=(h.int_inv hu).1;rw[←this];exact h⟩
theorem Cv.bool(hu:P.underlying T=some .bool):Cv P T Dt.toBool bool:=⟨fun _ _ _ _ h=>by have:=(h.bool_inv hu).1;rw[←this];exact h⟩
theorem Cv.str(hu:P.underlying T=some .string):Cv P T toStr str:=⟨fun _ _ _ _ h=>by have:=(h.str_inv hu).1;rw[←this];exact h⟩
theorem Cv.lst{E:TypeId}(hu:P.underlying T=some (.slice E)):Cv P T toLst lst:=⟨fun _ _ _ _ h=>by have:=(h.lst_inv hu).1;rw[←this];exact h⟩
theorem Cv.dt:Cv P T (fun d:Dt=>d) (fun d=>d):=⟨fun _ _ _ _ h=>h⟩
structure Cn (P:Program) (u v:AV):Prop where
 ra:∀(ok:Nat->Prop)(w:World)(β:Nat->Option Value)(cs:List Value),RA P ok w β u cs->RA P ok w β v cs
 ag:v.isAgg P=u.isAgg P
theorem Cn.same:Cn P u u:=⟨fun _ _ _ _ h=>h,rfl⟩
theorem Cn.dat{f:Dt->A}{g:A->Dt}{d:Dt}(h:Cv P T f g):Cn P (.dat T d) (.dat T (g (f d))):=
 ⟨fun ok w β cs hr=>by cases hr with|dat hr=>exact .dat (h.rd ok w cs d hr),rfl⟩
structure CnL (P:Program) (us vs:List AV):Prop where
 len:vs.length=us.length
 get:∀(i:Nat)(v:AV),vs[i]? =some v->∃u,us[i]? =some u∧Cn P u v
theorem CnL.nil:CnL P [] []:=⟨rfl,fun i v h=>by simp at h⟩
theorem CnL.cons(h:Cn P u v)(r:CnL P us vs):CnL P (u::us) (v::vs):=⟨by simp[r.len],fun i x hx=>by
 cases i with
 |zero=>simp only[aW,aD]at hx;subst hx;exact⟨u,rfl,h⟩
 |succ i=>simpa using r.get i x (by simpa using hx)⟩
theorem Cn.agg(h:CnL P us vs):Cn P (.agg T us) (.agg T vs):=⟨fun ok w β cs hr=>by
 cases hr with
 |agg hu hl hc h1 hh=>
  refine .agg hu (by rw[h.len];exact hl) hc h1 fun i f v hf hv=>?_;obtain⟨u,h2,h3⟩:=h.get i v hv;exact h3.ra _ _ _ _ (hh i f u hf h2),rfl⟩
theorem Cn.fn{f:FuncId}(h:CnL P us vs):Cn P (.fn f us) (.fn f vs):=⟨fun ok w β cs hr=>by
 cases hr with
 |fn hl hh=>
  refine .fn (by rw[h.len];exact hl) fun i v hv=>?_;obtain⟨u,h2,h3⟩:=h.get i v hv;exact h3.ra _ _ _ _ (hh i u h2),rfl⟩
theorem Cn.ifc(h:Cn P u v):Cn P (.ifc T u) (.ifc T v):=⟨fun ok w β cs hr=>by
 cases hr with
 |ifc1 hi hh=>exact .ifc1 (by rw[h.ag];exact hi) (h.ra _ _ _ _ hh)
 |ifcA hi hh=>exact .ifcA (by rw[h.ag];exact hi) (h.ra _ _ _ _ hh),rfl⟩
theorem Cn.rv1(h:Cn P u v){ok:Nat->Prop}{w:World}{β:Nat->Option Value}{z:Value}(hr:RV1 P ok w β u z):RV1 P ok w β v z:=
 ⟨fun hi=>by obtain⟨cs,e,q⟩:=hr.1 (by rw[←h.ag];exact hi);exact⟨cs,e,h.ra _ _ _ _ q⟩,fun hi=>h.ra _ _ _ _ (hr.2 (by rw[←h.ag];exact hi))⟩
structure CnR (P:Program) (u v:AV):Prop where
 rv:∀(ok:Nat->Prop)(w:World)(β:Nat->Option Value)(z:Value),RV P ok w β u z->RV P ok w β v z
def AV.plainB:AV->Bool
 | .tup _=>false
 | .dead=>false
 |_=>true
theorem CnR.of(h:Cn P u v)(hu:u.plainB=true)(hv:v.plainB=true):CnR P u v:=⟨fun ok w β z hz=>by have h1:RV1 P ok w β u z:=RV.to1 (by rintro rfl;cases hu) (by rintro us rfl;cases hu) hz;exact(h.rv1 h1).toRV (by rintro us rfl;cases hv)⟩
theorem CnR.same:CnR P u u:=⟨fun _ _ _ _ h=>h⟩
theorem CnR.tup(h:CnL P us vs):CnR P (.tup us) (.tup vs):=⟨fun ok w β z hz=>by obtain⟨arr,e,hs,hr⟩:=hz;refine⟨arr,e,by rw[h.len];exact hs,fun i v hv=>?_⟩;obtain⟨u,h2,h3⟩:=h.get i v hv;exact h3.rv1 (hr i u h2)⟩
inductive CnA (P:Program):List AV->List AV->Prop where
 |nil:CnA P [] []
 |cons {u v:AV} {us vs:List AV} (h:CnR P u v) (r:CnA P us vs):CnA P (u::us) (v::vs)
theorem CnA.rvs(h:CnA P us vs){ok:Nat->Prop}{w:World}{β:Nat->Option Value}:∀{zs:List Value},RVsX P ok w β us zs->RVsX P ok w β vs zs:=by
 induction h with
 |nil=>intro zs h;exact h
 |cons hc _ ih=>
  intro zs hz;cases hz with
  |cons h1 h2=>exact .cons (hc.rv _ _ _ _ h1) (ih h2)
structure CnO (P:Program) (o o':Ob):Prop where
 own:o'.isOwn=o.isOwn
 obs:∀(ok:Nat->Prop)(w:World)(β:Nat->Option Value)(v:Option Value),ObOK P ok w β o v->ObOK P ok w β o' v
theorem CnO.same{o:Ob}:CnO P o o:=⟨rfl,fun _ _ _ _ h=>h⟩
theorem CnO.box(h:Cn P u v):CnO P (.box T u) (.box T v):=⟨rfl,fun ok w β x ⟨b,cs,h1,h2,h3,h4⟩=>⟨b,cs,h1,h2,h3,h.ra _ _ _ _ h4⟩⟩
inductive CnOL (P:Program):List Ob->List Ob->Prop where
 |nil:CnOL P [] []
 |cons {o o':Ob} {os os':List Ob} (h:CnO P o o') (r:CnOL P os os'):CnOL P (o::os) (o'::os')
theorem CnOL.len{os os':List Ob}(h:CnOL P os os'):os'.length=os.length:=by
 induction h with
 |nil=>rfl
 |cons _ _ ih=>simp[ih]
theorem CnOL.get{os os':List Ob}(h:CnOL P os os'):∀l,CnO P (lk os l) (lk os' l):=by
 induction h with
 |nil=>intro l;exact .same
 |cons h _ ih=>
  intro l;cases l with
  |zero=>exact h
  |succ l=>exact ih l
theorem Sim.of{a b:AV}{os os':List Ob}(h:CnR P a b)(ho:CnOL P os os'):Sim P (a,os) (b,os'):=
 ⟨h.rv,fun l=>(ho.get l).own,fun l=>(ho.get l).obs⟩
theorem FX.conv{f:FuncId}{args args':List AV}{objs objs' hs':List Ob}{res:AV}(h:FX P f args' objs' res hs')(ha:CnA P args args')(ho:CnOL P objs objs'):FX P f args objs res hs':=by
 intro ok w β zs h1 h2 h3 h4 h5;have hown:∀l b,owns objs' β l b↔owns objs β l b:=fun l b=>by simp only[owns,(ho.get l).own]
 have hX:XO objs' β=XO objs β:=by funext b;apply propext;exact⟨fun⟨l,hl⟩=>⟨l,(hown l b).1 hl⟩,fun⟨l,hl⟩=>⟨l,(hown l b).2 hl⟩⟩
 have hc:=h ok w β zs (fun b hb=>by rw[hX];exact h1 b hb) (fun l=>(ho.get l).obs _ _ _ _ (h2 l)) (fun l l' b q1 q2=>h3 l l' b ((hown _ _).1 q1) ((hown _ _).1 q2)) (ha.rvs h4) h5;refine hc.mono ?_;rintro e w' ⟨v,β',rfl,hf,hr⟩;obtain⟨f1,f2,f3,f4,f5⟩:=hf;rw[hX,ho.len]at f2 hr;rw[hX]at f1;exact⟨v,β',rfl,⟨f1,f2,f3,fun l b q=>by have:=f4 l b q;rwa [hX]at this,fun l hl=>f5 l (by rw[ho.len];exact hl)⟩,hr⟩
def natsB:List Nat->List Nat->Bool
 | [],[]=>true
 |a::r,b::s=>Nat.beq a b&&natsB r s
 |_,_=>false
theorem gQ:∀{a b:List Nat},natsB a b=true->a=b
 | [],[],_=>rfl
 |a::r,b::s,h=>by have h1:=beq_eq (aG h);have h2:=gQ (aB h);rw[h1,h2]
 | [],_::_,h=>by cases h
 |_::_,[],h=>by cases h
end
end Go.Am
namespace Go.Am
inductive SK where
 |l|i|b|s|a
inductive SA where
 |d (T:TypeId) (k:SK)
 |f (F:FuncId)
inductive SR where
 |d (T:TypeId) (k:SK)
 |t (l:List (TypeId×SK))
abbrev SK.T:SK->Type
 | .l=>List Dt
 | .i=>Int
 | .b=>Bool
 | .s=>ByteArray
 | .a=>Dt
def SK.w:(k:SK)->k.T->Dt
 | .l,x=> .lst x
 | .i,x=> .int x
 | .b,x=> .bool x
 | .s,x=> .str x
 | .a,x=>x
def SK.g:(k:SK)->Dt->k.T
 | .l,x=>x.toLst
 | .i,x=>x.toInt
 | .b,x=>x.toBool
 | .s,x=>x.toStr
 | .a,x=>x
def SK.ok(P:Program)(T:TypeId):SK->Prop
 | .l=>∃E,P.underlying T=some (.slice E)
 | .i=>∃k,P.underlying T=some (.int k)
 | .b=>P.underlying T=some .bool
 | .s=>P.underlying T=some .string
 | .a=>True
theorem SK.cn{P:Program}{T:TypeId}:∀{k:SK},k.ok P T->∀x:Dt,Cn P (.dat T x) (.dat T (k.w (k.g x)))
 | .l,⟨_,h⟩,_=> .dat (.lst h)
 | .i,⟨_,h⟩,_=> .dat (.int h)
 | .b,h,_=> .dat (.bool h)
 | .s,h,_=> .dat (.str h)
 | .a,_,_=> .same
def TT:List (TypeId×SK)->Type
 | []=>Unit
 | [p]=>p.2.T
 |p::q::r=>p.2.T×TT (q::r)
def TT.w:(l:List (TypeId×SK))->TT l->List AV
 | [],_=>[]
 | [p],x=>[.dat p.1 (p.2.w x)]
 |p::q::r,x=> .dat p.1 (p.2.w x.1)::TT.w (q::r) x.2
def ahz(T:TypeId)(k:SK):AV->Option k.T
 | .dat S x=>bif Nat.beq S T then some (k.g x)else none
 |_=>none
theorem Nl{P:Program}{T:TypeId}{k:SK}{v:AV}{y:k.T}(ho:k.ok P T)(h:ahz T k v=some y):Cn P v (.dat T (k.w y))∧v.plainB=true:=by
 unfold ahz at h;split at h
 ·obtain⟨h1,h2⟩:=aJ h;cases h2;cases beq_eq h1;exact⟨SK.cn ho _,rfl⟩
 ·cases h
def TT.g:(l:List (TypeId×SK))->List AV->Option (TT l)
 |  [],as=>match as with
    | []=>some ()
    |_::_=>none
 |  [p],as=>match as with
    | [v]=>ahz p.1 p.2 v
    |_=>none
 |  p::q::r,as=>match as with
    |v::as=>(ahz p.1 p.2 v).bind fun x=>(TT.g (q::r) as).bind fun y=>some (x,y)
    | []=>none
def SR.T:SR->Type
 | .d _ k=>k.T
 | .t l=>TT l
def SR.w:(s:SR)->s.T->AV
 | .d T k,x=> .dat T (k.w x)
 | .t l,x=> .tup (TT.w l x)
def SR.g:(s:SR)->Res->Option s.T
 |  .d T k,q=>match q with
    |(v,[])=>ahz T k v
    |_=>none
 |  .t l,q=>match q with
    |(.tup as,[])=>TT.g l as
    |_=>none
def atm(P:Program):List (TypeId×SK)->Prop
 | []=>True
 |p::r=>p.2.ok P p.1∧atm P r
def SR.ok(P:Program):SR->Prop
 | .d T k=>k.ok P T
 | .t l=>atm P l
theorem TT.cn{P:Program}:∀{l:List (TypeId×SK)}{as:List AV}{y:TT l},atm P l->TT.g l as=some y->CnL P as (TT.w l y)
 | [],as,y,_,h=>by
   cases as with
   |nil=>exact .nil
   |cons _ _=>cases h
 | [p],as,y,ho,h=>by
   match as,h with
   | [v],h=>exact .cons (Nl ho.1 h).1 .nil
   | [],h=>cases h
   |_::_::_,h=>cases h
 | p::q::r,as,y,ho,h=>by
   match as,h with
   |v::as,h=>
    obtain⟨x,h1,h2⟩:=ak.1 h;obtain⟨z,h3,h4⟩:=ak.1 h2;cases h4;exact .cons (Nl ho.1 h1).1 (TT.cn ho.2 h3)
   | [],h=>cases h
theorem SR.sim{P:Program}:∀{s:SR}{q:Res}{r:s.T},s.ok P->s.g q=some r->Sim P q (s.w r,[])
 | .d T k,q,r,ho,h=>by
   match q,h with
   |(v,[]),h=>
    obtain⟨h1,h2⟩:=Nl ho h;exact Sim.of (.of h1 h2 rfl) .nil
   |(_,_::_),h=>cases h
 | .t l,q,r,ho,h=>by
   match q,h with
   |(.tup as,[]),h=>exact Sim.of (.tup (TT.cn ho h)) .nil
   |(.tup _,_::_),h=>cases h
   |(.dat ..,_),h=>cases h
def CF:List SA->Type->Type
 | [],R=>R
 | .d _ k::t,R=>k.T->CF t R
 | .f _::t,R=>CF t R
def ap{R:Type}:(sh:List SA)->CF sh (Option R)->List AV->Option R
 |  [],F,as=>match as with
    | []=>F
    |_::_=>none
 |  .d T k::t,F,as=>match as with
    |v::as=>(ahz T k v).bind fun x=>ap t (F x) as
    | []=>none
 |  .f c::t,F,as=>match as with
    | .fn d []::as=>bif Nat.beq d c then ap t F as else none
    |_=>none
def oksA(P:Program):List SA->Prop
 | []=>True
 | .d T k::r=>k.ok P T∧oksA P r
 | .f _::r=>oksA P r
def FG(P:Program)(f:FuncId)(s:SR):(sh:List SA)->CF sh (Option s.T)->(List AV->List AV)->Prop
 | [],F,k=>∀r,F=some r->FX P f (k []) [] (s.w r) []
 | .d T j::t,F,k=>∀x:j.T,FG P f s t (F x) fun as=>k (.dat T (j.w x)::as)
 | .f c::t,F,k=>FG P f s t F fun as=>k (.fn c []::as)
theorem amB{P:Program}{f:FuncId}{s:SR}{r:s.T}:∀{sh:List SA}{F:CF sh (Option s.T)}{k:List AV->List AV}{as:List AV},oksA P sh->FG P f s sh F k->ap sh F as=some r->∃vs,CnA P as vs∧FX P f (k vs) [] (s.w r) []
 | [],F,k,as,_,hf,h=>by
   cases as with
   |nil=>exact⟨[],.nil,hf r h⟩
   |cons _ _=>cases h
 | .d T j::t,F,k,as,ho,hf,h=>by
   cases as with
   |nil=>cases h
   | cons v as=>
     obtain⟨x,h1,h2⟩:=ak.1 h;obtain⟨vs,h3,h4⟩:=amB ho.2 (hf x) h2;obtain⟨h5,h6⟩:=Nl ho.1 h1;exact⟨_,.cons (.of h5 h6 rfl) h3,h4⟩
 | .f c::t,F,k,as,ho,hf,h=>by
   match as,h with
   | .fn d []::as,h=>
     obtain⟨h1,h2⟩:=aJ h;cases beq_eq h1;obtain⟨vs,h3,h4⟩:=amB (sh:=t) ho hf h2;exact⟨_,.cons .same h3,h4⟩
   | [],h=>cases h
structure Ent where
 sh:List SA
 s:SR
 F:CF sh (Option s.T)
def Ent.run{R:Type}(e:Ent)(args:List AV)(objs:List Ob)(K:Res->Option R):Option R:=match objs with
 | []=>(ap e.sh e.F args).bind fun r=>K (e.s.w r,[])
 |_::_=>none
structure EOK (P:Program) (f:FuncId) (e:Ent):Prop where
 ok:oksA P e.sh
 fx:FG P f e.s e.sh e.F fun l=>l
 hb:HasBody P f
theorem EOK.run{P:Program}{f:FuncId}{e:Ent}{R:Type}{args:List AV}{objs:List Ob}{K:Res->Option R}{r:R}(he:EOK P f e)(h:e.run args objs K=some r):∃q:Res,K q=some r∧FX P f args objs q.1 q.2∧HasBody P f:=by
 unfold Ent.run at h;cases objs with
 |nil=>
  obtain⟨x,h1,h2⟩:=ak.1 h;obtain⟨vs,h3,h4⟩:=amB he.ok he.fx h1;exact⟨_,h2,h4.conv h3 .nil,he.hb⟩
 |cons _ _=>cases h
theorem EOK.st{P:Program}{f n:FuncId}{a e:Ent}{b:Option Ent}(h1:EOK P n a)(h2:b=some e->EOK P f e)(h:(bif Nat.beq f n then some a else b)=some e):EOK P f e:=by
 cases hb:Nat.beq f n with
 |true=>rw[hb]at h;cases h;cases beq_eq hb;exact h1
 |false=>rw[hb]at h;exact h2 h
def FZ{R:Type}:(sh:List SA)->CF sh (Option R)->Prop
 | [],F=>F=none
 | .d _ j::t,F=>∀x:j.T,FZ t (F x)
 | .f _::t,F=>FZ t F
theorem FZ.fg{P:Program}{f:FuncId}{s:SR}:∀{sh:List SA}{F:CF sh (Option s.T)}{k:List AV->List AV},FZ sh F->FG P f s sh F k
 | [],F,k,h=>by intro r h1;have h:F=none:=h;rw[h]at h1;cases h1
 | .d _ j::t,F,k,h=>fun x=>FZ.fg (h x)
 | .f _::t,F,k,h=>FZ.fg (sh:=t) h
