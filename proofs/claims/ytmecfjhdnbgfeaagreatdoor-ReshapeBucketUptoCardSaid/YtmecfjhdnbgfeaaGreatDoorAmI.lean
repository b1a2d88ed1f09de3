/- The abstract machine, part 5: append, make, literals.
The abstract machine,part 6:values as plain data;struct literals;cuts of strings and lists.
The abstract machine,part 7:code:sequences,tests,blocks,loops,regions. -/
import Derived.Test.YtmecfjhdnbgfeaaGreatDoorAmH
import Derived.Maps.AppendAt
import Derived.Orders
set_option linter.unusedVariables false
set_option linter.unusedSimpArgs false
namespace Go.Am
open Go.RowKit
section
variable {P:Program} {n:Nat} {o:Oper} {σ σ':St} {x y:Operand} {v:AV} {T:TypeId}
theorem wh (w:World) (base:Nat) (t ty e:TypeId) (i:TypeInfo) (size:Nat) (ht:P.underlying t=some (.slice e)) (hi:P.info? e=some i)
  (v:Value) (m:Nat) (xs:List Value) (hown:w.ownsRow base e size v m xs) (c:Nat):(Builtin.append_ #[t,t] ty #[v,.slice none 0 c]).run P w= .ok v w:=by
 rcases hown.2 with⟨rfl,rfl⟩| ⟨g,cap,cur,rfl,_,_,hnc,_⟩
 ·simp[Builtin.append_,run_underlying ht,sizeOf,typeInfo,hi,Builtin.lenOf,Builtin.firstCells]
 ·simp[Builtin.append_,run_underlying ht,sizeOf,typeInfo,hi,Builtin.lenOf,Builtin.firstCells,hnc,storeCells]
theorem RelB.take {K:OkX} {w0 w:World} {a:Act} {β:Nat→Option Value} (h:RelB P K w0 n σ a w β) (m l:Nat) (o:Ob) (z':Value) (w':World)
  (hm:lk σ.hs m≠ .free) (hf:lk σ.hs l= .free) (hk0:σ.k0≤l)
  (hos:w'.os=w.os) (htape:w'.tape=w.tape) (hout:w'.output=w.output) (hsz:w.heap.size≤w'.heap.size)
  (hbl:∀b,b<w.heap.size→¬owns σ.hs β m b→w'.heap[b]? =w.heap[b]?)
  (hv':∀b,blk z'=some b→w.heap.size≤b∨owns σ.hs β m b)
  (ho:Ext β (upB β l (some z'))→(∀b,okOf K w0 w σ.hs β b→okOf K w0 w' (dX (dX σ.hs m .gone) l o) (upB β l (some z')) b∧w'.heap[b]? =w.heap[b]?)→ObOK P (okOf K w0 w' (dX (dX σ.hs m .gone) l o) (upB β l (some z'))) w' (upB β l (some z')) o (some z')):
  RelB P K w0 n ((σ.lay m .gone).lay l o) a w' (upB β l (some z')):=by
 have hfree:β l=none:=by
  have:=h.hs l
  rw[hf] at this
  exact this
 have hml:m≠l:=fun e=>hm (by rw[e];exact hf)
 have hext:Ext β (upB β l (some z')):=by
  intro k z hk
  by_cases hkl:k=l
  ·subst hkl;rw[hfree] at hk;cases hk
  ·rw[iQ _ _ _ _ hkl];exact hk
 have hown2:∀k b,owns (dX (dX σ.hs m .gone) l o) (upB β l (some z')) k b→(k=l∧(w.heap.size≤b∨owns σ.hs β m b))∨(k≠l∧k≠m∧owns σ.hs β k b):=by
  rintro k b ⟨h1,z,h2,h3⟩
  by_cases hkl:k=l
  ·subst hkl
   rw[dP] at h2
   cases h2
   exact .inl ⟨rfl,hv' b h3⟩
  ·rw[bX _ _ _ _ hkl] at h1
   rw[iQ _ _ _ _ hkl] at h2
   by_cases hkm:k=m
   ·subst hkm;rw[j5] at h1;cases h1
   ·    rw[bX _ _ _ _ hkm] at h1
        exact .inr ⟨hkl,hkm,h1,z,h2,h3⟩
 have hk:∀b,okOf K w0 w σ.hs β b→okOf K w0 w' (dX (dX σ.hs m .gone) l o) (upB β l (some z')) b∧w'.heap[b]? =w.heap[b]? :=by
  rintro b ⟨h1,h2,h3⟩
  refine⟨⟨Nat.lt_of_lt_of_le h1 hsz,h2,fun k hk=>?_⟩,hbl b h1 (h3 m)⟩
  rcases hown2 k b hk with⟨_,h4|h4⟩| ⟨_,_,h4⟩
  ·omega
  ·exact h3 _ h4
  ·exact h3 _ h4
 refine⟨h.size,h.defers,?_,fun k=>(h.ts k).mono hk hext,fun k=>?_,?_,?_,?_,h.kk,h.tab.mono hk⟩
 ·refine⟨hos.trans h.below.os,htape.trans h.below.tape,hout.trans h.below.output,Nat.le_trans h.below.size hsz,fun b hb hx=>(hbl b (Nat.lt_of_lt_of_le hb h.below.size) fun he=>?_).trans (h.below.block b hb hx)⟩
  rcases h.own m b he with h1|h1
  ·omega
  ·exact hx h1
 ·show ObOK P _ w' _ (lk (dX (dX σ.hs m .gone) l o) k) _
  by_cases hkl:k=l
  ·subst hkl
   rw[j5,dP]
   exact ho hext hk
  ·rw[bX _ _ _ _ hkl,iQ _ _ _ _ hkl]
   by_cases hkm:k=m
   ·subst hkm;rw[j5];trivial
   ·    rw[bX _ _ _ _ hkm]
        refine(h.hs k).mono hk (fun z b h1 h2 h3=>?_) hext
        have ho1:owns σ.hs β k b:=⟨h1,z,h2,h3⟩
        exact hbl b (h.blk_lt ho1) fun he=>hkm (h.sep k m b ho1 he)
 ·intro k k' b h1 h2
  rcases hown2 k b h1 with⟨e1,h3|h3⟩| ⟨e1,e1',h3⟩
  ·rcases hown2 k' b h2 with⟨e2,_⟩| ⟨e2,_,h4⟩
   ·rw[e1,e2]
   ·have:=h.blk_lt h4;omega
  ·rcases hown2 k' b h2 with⟨e2,_⟩| ⟨e2,e2',h4⟩
   ·rw[e1,e2]
   ·exact absurd (h.sep _ _ _ h4 h3) e2'
  ·rcases hown2 k' b h2 with⟨e2,h4|h4⟩| ⟨e2,_,h4⟩
   ·have:=h.blk_lt h3;omega
   ·exact absurd (h.sep _ _ _ h3 h4) e1'
   ·exact h.sep _ _ _ h3 h4
 ·intro k b h1
  rcases hown2 k b h1 with⟨e1,h3|h3⟩| ⟨e1,_,h3⟩
  ·exact .inl (Nat.le_trans h.below.size h3)
  ·exact h.own _ _ h3
  ·exact h.own _ _ h3
 ·intro k hk2
  have hkl:k≠l:=by have:=h.kk;omega
  rw[iQ _ _ _ _ hkl];exact h.ext k hk2
def Jl (P:Program) (σ:St) (y:Operand) (E:TypeId) (ds:List Dt):Prop:=
 ∀  (ok0:OkX) (w0:World) (n:Nat) (a:Act) (w:World) (β:Nat→Option Value),RelB P ok0 w0 n σ a w β→∃(A:Option Addr) (c:Nat) (xs:List Value),a.eval y= .slice A ds.length c∧xs.length=ds.length*P.cellsOf E∧
    (∀u∈xs,u.oneCell'=true)∧(0<ds.length→∃ad,A=some ad∧∀j u,xs[j]? =some u→w.cell? (ad.add j)=some u)∧(A=none→ds.length=0)∧
    ∀(i:Nat) (d:Dt),ds[i]? =some d→RD P (okOf ok0 w0 w σ.hs β) w E d ((xs.drop (i*P.cellsOf E)).take (P.cellsOf E))
theorem Jl.row {l:Nat} {E T5:TypeId} {ds:List Dt} (hy:Ev P σ y (.row l)) (hl:lk σ.hs l= .row T5 ds) (hu5:P.underlying T5=some (.slice E)):Jl P σ y E ds:=by
 intro ok0 w0 n a w β r
 have e:=mQ (hy _ _ _ _ _ _ r)
 have hob:=r.hs l
 rw[hl,e] at hob
 obtain⟨E',xs,hu',hown,hone,hrd⟩:=Ez hob
 obtain rfl:E=E':=by rw[hu5] at hu';cases hu';rfl
 rcases hown.2 with⟨h2,h3⟩| ⟨g,cap,cur,h2,_⟩
 ·exact⟨none,0,xs,by rw[h2,h3],hown.1,hone,fun h=>by omega,fun _=>h3,hrd⟩
 ·exact⟨_,cap,xs,h2,hown.1,hone,fun _=>⟨_,rfl,hown.cells (g:=g) (by rw[h2];rfl)⟩,fun h=>by simp at h,hrd⟩
theorem Jl.lst {T3 E:TypeId} {ds:List Dt} (hu:P.underlying T3=some (.slice E)) (hy:Ev P σ y (.dat T3 (.lst ds))):Jl P σ y E ds:=by
 intro ok0 w0 n a w β r
 have hrd:=(RV.dat_one (bJ hu rfl)).1 (hy _ _ _ _ _ _ r)
 obtain⟨_,ao,cap,ad,g,hcs,hlc,hm,ha,hg,hr⟩:=hrd.lst_inv hu
 simp only[Dt.toLst] at hcs hlc ha hg hr
 have ex:a.eval y= .slice ao ds.length cap:=by simpa using hcs
 let xs:List Value:=(List.range (ds.length*P.cellsOf E)).map fun j=>(g (j/P.cellsOf E)).getD (j%P.cellsOf E) undef
 have hget:∀i k,i<ds.length→k<P.cellsOf E→xs[i*P.cellsOf E+k]? =(g i)[k]? :=by
  intro i k hi hk
  have hmul:(i+1)*P.cellsOf E≤ds.length*P.cellsOf E:=Nat.mul_le_mul_right _ hi
  rw[Nat.add_mul,Nat.one_mul] at hmul
  have h1:(i*P.cellsOf E+k)/P.cellsOf E=i:=by
   rw[Nat.mul_comm,Nat.mul_add_div (by omega),Nat.div_eq_of_lt hk,Nat.add_zero]
  have h2:(i*P.cellsOf E+k)%P.cellsOf E=k:=by
   rw[Nat.mul_comm,Nat.mul_add_mod,Nat.mod_eq_of_lt hk]
  have hkl:k<(g i).length:=by rw[(hg i hi).1];exact hk
  simp only[xs,List.getElem?_map]
  rw[List.getElem?_range (by omega)]
  simp only[Option.map_some,h1,h2,List.getD,List.getElem?_eq_getElem hkl,Option.getD_some]
 have hseg:∀i,i<ds.length→(xs.drop (i*P.cellsOf E)).take (P.cellsOf E)=g i:=by
  intro i hi
  apply List.ext_getElem?
  intro k
  rw[jo]
  split
  ·exact hget i k hi (by assumption)
  ·rw[List.getElem?_eq_none (by rw[(hg i hi).1];omega)]
 have hsplit:∀j u,xs[j]? =some u→∃i k,i<ds.length∧k<P.cellsOf E∧j=i*P.cellsOf E+k:=by
  intro j u hj
  have hlt:j<ds.length*P.cellsOf E:=by
   have:=(List.getElem?_eq_some_iff.1 hj).1
   simpa [xs] using this
  have h0:0<P.cellsOf E:=by
   rcases Nat.eq_zero_or_pos (P.cellsOf E) with h|h
   ·rw[h] at hlt;omega
   ·exact h
  refine⟨j/P.cellsOf E,j%P.cellsOf E,?_,Nat.mod_lt _ h0,?_⟩
  ·exact(Nat.div_lt_iff_lt_mul h0).2 hlt
  ·rw[Nat.mul_comm];exact(Nat.div_add_mod j _).symm
 refine⟨ao,cap,xs,ex,by simp[xs],?_,?_,?_,?_⟩
 ·intro u hu2
  obtain⟨j,hj⟩:=List.getElem?_of_mem hu2
  obtain⟨i,k,hi,hk,rfl⟩:=hsplit j u hj
  rw[hget i k hi hk] at hj
  exact(hg i hi).2.1 u (List.mem_of_getElem? hj)
 ·intro h0
  refine⟨ad,(ha h0).1,fun j u hj=>?_⟩
  obtain⟨i,k,hi,hk,rfl⟩:=hsplit j u hj
  rw[hget i k hi hk] at hj
  exact(hg i hi).2.2 k u hj
 ·intro hn
  rcases Nat.eq_zero_or_pos ds.length with h|h
  ·exact h
  ·rw[(ha h).1] at hn;cases hn
 ·intro i d hd
  have hi:i<ds.length:=(List.getElem?_eq_some_iff.1 hd).1
  rw[hseg i hi]
  exact hr i d hd
theorem EI {xs ys:List Value} {o1 m:Nat} (h:o1+m≤xs.length):((xs++ys).drop o1).take m=(xs.drop o1).take m:=by
 apply List.ext_getElem?
 intro k
 rw[jo,jo]
 split
 ·rw[List.getElem?_append_left (by omega)]
 ·rfl
theorem CX {xs ys:List Value} {o1 m:Nat} (h:xs.length≤o1):((xs++ys).drop o1).take m=(ys.drop (o1-xs.length)).take m:=by
 apply List.ext_getElem?
 intro k
 rw[jo,jo]
 split
 ·rw[List.getElem?_append_right (by omega)]
  congr 1
  omega
 ·rfl
theorem KR {ok:Nat→Prop} {w:World} {β:Nat→Option Value} {l:Nat} {z:Value} (h:β l=some z) (h1:z.oneCell'=true):RV P ok w β (.row l) z:=
 ⟨fun hi=>by simp[AV.isAgg] at hi,fun _=> .row h h1⟩
theorem KS {d l l':Nat} {E T5 T':TypeId} {es ds:List Dt} {ok0:OkX} {w0 w:World} {a:Act} {β:Nat→Option Value} {vy:Value} {ys:List Value} (ho:o.op= .call {callee:= .builtin .append,args:= #[x,y],argTypes:= #[T,T']}) (hd:o.dst=some d) (hn:d<n) (hu5:P.underlying T5=some (.slice E))
  (r:RelB P ok0 w0 n σ a w β) (ex:β l=some (a.eval x)) (hl:lk σ.hs l= .row T5 es) (hf:lk σ.hs l'= .free) (hk0:σ.k0≤l')
  (ey:a.eval y=vy) (hyl:ys.length=ds.length*P.cellsOf E) (hyone:∀u∈ys,u.oneCell'=true)
  (hyrd:∀(i:Nat) (d:Dt),ds[i]? =some d→RD P (okOf ok0 w0 w σ.hs β) w E d ((ys.drop (i*P.cellsOf E)).take (P.cellsOf E)))
  (key:∀(bl:Value) (xs:List Value),a.eval x=bl→w.ownsRow 0 E (P.cellsOf E) bl es.length xs→∃v' w',(Builtin.append_ #[T,T'] o.type #[bl,vy]).run P w= .ok v' w'∧w'.ownsRow 0 E (P.cellsOf E) v' (es.length+ds.length) (xs++ys)∧w.grownBy w' bl.ownBlock∧
   (v'.ownBlock=bl.ownBlock∨v'.ownBlock=some w.heap.size)) (K:Act→World→Prop) (Q:Exit→Act→World→Prop)
  (hK:∀a' w',Rel P ok0 w0 n (((σ.lay l .gone).lay l' (.row T5 (es++ds))).put d (.row l')) a' w'→K a' w'):o.wp P a w K Q:=by
 have hob0:=r.hs l
 rw[hl,ex] at hob0
 obtain⟨E',xs,hu',hown,hone,hrd⟩:=Ez hob0
 obtain rfl:E=E':=by rw[hu5] at hu';cases hu';rfl
 obtain⟨bl,ebl⟩:∃bl,a.eval x=bl:=⟨_,rfl⟩
 have key:=key bl xs ebl (ebl▸hown)
 rw[ebl] at ex hown
 obtain⟨v',w',hrun,hown',hgr,hblk'⟩:=key
 have hob':v'.ownBlock=blk v':=by
  rcases hown'.2 with⟨rfl,_⟩| ⟨g,cap,cur,rfl,_⟩<;>rfl
 have hbl:bl.ownBlock=blk bl:=by
  rcases hown.2 with⟨rfl,_⟩| ⟨g,cap,cur,rfl,_⟩<;>rfl
 unfold Oper.wp execOp
 simp only[ho,resolve,invoke,builtin,Sem.run_bind,Sem.run_pure,Result.andThen_ok,List.map_toArray,List.map_cons,List.map_nil,ebl,ey,hrun]
 refine hK _ _ ?_
 rw[hd]
 have hlown:∀b,blk bl=some b→owns σ.hs β l b:=fun b hb=>⟨by rw[hl];rfl,bl,ex,hb⟩
 have hnew:=r.take l l' (.row T5 (es++ds)) v' w' (by rw[hl];simp) hf hk0 hgr.os hgr.tape hgr.output hgr.size
  (fun b hb hne=>hgr.block b hb fun e=>hne (hlown b (by rw[←hbl,←e])))
  (fun b hb=>by
   rw[←hob'] at hb
   rcases hblk' with h|h
   ·right;exact hlown b (by rw[←hbl,←h,hb])
   ·left;rw[h] at hb;cases hb;exact Nat.le_refl _)
  (fun hex hk=>by
   refine⟨E,v',xs++ys,rfl,hu5,by simpa using hown',?_,?_⟩
   ·    intro u hu2
        rcases List.mem_append.1 hu2 with h|h
        ·exact hone u h
        ·exact hyone u h
   ·    intro i' d' hd'
        have hxl:=hown.1
        by_cases hlt:i'<es.length
        ·rw[List.getElem?_append_left hlt] at hd'
         have hmul:(i'+1)*P.cellsOf E≤es.length*P.cellsOf E:=Nat.mul_le_mul_right _ hlt
         rw[Nat.add_mul,Nat.one_mul] at hmul
         rw[EI (by omega)]
         exact(hrd i' d' hd').mono hk
        ·rw[List.getElem?_append_right (by omega)] at hd'
         have hmul:es.length*P.cellsOf E≤i'*P.cellsOf E:=Nat.mul_le_mul_right _ (by omega)
         rw[CX (by omega),hxl,←Nat.sub_mul]
         exact(hyrd _ d' hd').mono hk)
 refine Rel.put hnew hn (KR (dP _ _ _) ?_)
 rcases hown'.2 with⟨rfl,_⟩| ⟨g,cap,cur,rfl,_⟩<;>rfl
theorem Jm {d l l':Nat} {E T5:TypeId} {es ds:List Dt} {z:Dt} {ok0:OkX} {w0 w:World} {a:Act} {β:Nat→Option Value} {A:Option Addr} {c:Nat} {ys:List Value} (ho:o.op= .call {callee:= .builtin .append,args:= #[x,y],argTypes:= #[T,T]}) (hd:o.dst=some d) (hn:d<n) (hu:P.underlying T=some (.slice E)) (hu5:P.underlying T5=some (.slice E))
  (hz:Zero P E z) (h0:P.cellsOf E≠0) (hbd:(es.length+ds.length)*P.bytesOf E≤140737488355328) (r:RelB P ok0 w0 n σ a w β) (ex:β l=some (a.eval x)) (hl:lk σ.hs l= .row T5 es) (hf:lk σ.hs l'= .free) (hk0:σ.k0≤l')
  (ey:a.eval y= .slice A ds.length c) (hyl:ys.length=ds.length*P.cellsOf E) (hyone:∀u∈ys,u.oneCell'=true) (hyc:0<ds.length→∃ad,A=some ad∧∀j u,ys[j]? =some u→w.cell? (ad.add j)=some u) (hynone:A=none→ds.length=0)
  (hyrd:∀(i:Nat) (d:Dt),ds[i]? =some d→RD P (okOf ok0 w0 w σ.hs β) w E d ((ys.drop (i*P.cellsOf E)).take (P.cellsOf E))) (hlim:es.length+ds.length≤137438953472) (K:Act→World→Prop) (Q:Exit→Act→World→Prop)
  (hK:∀a' w',Rel P ok0 w0 n (((σ.lay l .gone).lay l' (.row T5 (es++ds))).put d (.row l')) a' w'→K a' w'):o.wp P a w K Q:=by
 obtain⟨i,zv,hi,hzv,hzs,_⟩:=hz.ex
 have hsz:i.size=P.cellsOf E:=by simp[Program.cellsOf,hi]
 have hbz:i.bytes=P.bytesOf E:=by simp[Program.bytesOf,hi]
 have hbound:=hbd
 have hml:es.length+ds.length≤maxLen:=by unfold maxLen;omega
 refine KS ho hd hn hu5 r ex hl hf hk0 ey hyl hyone hyrd (fun bl xs ebl hown=>?_) K Q hK
 cases A with
 |none=>
  have hd0:=hynone rfl
  have:ys=[]:=List.eq_nil_of_length_eq_zero (by rw[hyl,hd0];simp)
  subst this
  rw[hd0]
  refine⟨bl,w,wh w 0 T o.type E i (P.cellsOf E) hu hi _ _ _ hown c,by simpa using hown,⟨rfl,rfl,rfl,Nat.le_refl _,fun _ _ _=>rfl⟩,.inl rfl⟩
 |some ad=>
  have hcells:∀j u,ys[j]? =some u→w.cell? (ad.add j)=some u:=by
   rcases Nat.eq_zero_or_pos ds.length with h|h
   ·    have:ys=[]:=List.eq_nil_of_length_eq_zero (by rw[hyl,h];simp)
        subst this
        intro j u hj
        simp at hj
   ·    obtain⟨ad',e,hc⟩:=hyc h
        cases e
        exact hc
  obtain⟨v',w',h1,h2,h3,_,h5⟩:=run_append_own_at (P:=P) w 0 T o.type E i zv (P.cellsOf E) (P.bytesOf E) hu hi hzv hsz hbz hzs (by omega) bl es.length xs hown ad ds.length c ys hyl hcells hyone hml hbound (Nat.zero_le _)
  exact⟨v',w',h1,h2,h3,h5⟩
theorem acO {d l l':Nat} {E T5:TypeId} {es ds:List Dt} {z:Dt} (ho:o.op= .call {callee:= .builtin .append,args:= #[x,y],argTypes:= #[T,T]}) (hd:o.dst=some d) (hn:d<n) (hu:P.underlying T=some (.slice E)) (hu5:P.underlying T5=some (.slice E))
  (hz:Zero P E z) (h0:P.cellsOf E≠0) (hbd:(es.length+ds.length)*P.bytesOf E≤140737488355328) (hx:Ev P σ x (.row l)) (hl:lk σ.hs l= .row T5 es) (hf:lk σ.hs l'= .free) (hk0:σ.k0≤l') (hy:Jl P σ y E ds) (hlim:es.length+ds.length≤137438953472):
  bn P n o σ (((σ.lay l .gone).lay l' (.row T5 (es++ds))).put d (.row l')):=by
 rintro ok0 w0 a w ⟨β,r⟩ K Q hK
 obtain⟨A,c,ys,ey,hyl,hyone,hyc,hynone,hyrd⟩:=hy _ _ _ _ _ _ r
 exact Jm ho hd hn hu hu5 hz h0 hbd r (mQ (hx _ _ _ _ _ _ r)) hl hf hk0 ey hyl hyone hyc hynone hyrd hlim K Q hK
theorem Rel.newRow {ok0:OkX} {w0 w:World} {a:Act} {β:Nat→Option Value} (r:RelB P ok0 w0 n σ a w β) {l E:Nat} (hu:P.underlying T=some (.slice E)) (hf:lk σ.hs l= .free) (hk0:σ.k0≤l) {c:Array Value} {es:List Dt} {cap:Nat} (hs:c.size=cap*P.cellsOf E) (hle:es.length≤cap) (hm:cap≤maxLen)
  (hone:∀u∈c.toList,u.oneCell'=true)
  (hc:∀(i:Nat) (d:Dt),es[i]? =some d→RD P (okOf ok0 w0 w σ.hs β) w E d ((c.toList.drop (i*P.cellsOf E)).take (P.cellsOf E))):
  RelB P ok0 w0 n (σ.lay l (.row T es)) a (w.alloc (.cells c E)) (upB β l (some (.slice (some ⟨w.heap.size,0,none⟩) es.length cap))):=by
 have hfree:=r.hs l
 rw[hf] at hfree
 refine r.upd l (.row T es) _ _ (.inr ⟨hfree,hk0⟩) rfl rfl rfl (by simp) (fun b hb _=>Below.heap_alloc w _ b hb) (fun z b _ hz hb=> .inl (by cases hz;simp[blk] at hb;omega)) fun hx hk=>?_
 have hmul:es.length*P.cellsOf E≤cap*P.cellsOf E:=Nat.mul_le_mul_right _ hle
 refine⟨E,_,c.toList.take (es.length*P.cellsOf E),rfl,hu,⟨by simp only[List.length_take,Array.length_toList];omega,.inr ⟨w.heap.size,cap,c,rfl,Nat.zero_le _,vP w c E,hle,hm,hs,rfl⟩⟩,fun u hu=>hone u (List.mem_of_mem_take hu),fun i d hd=>?_⟩
 have hi:i<es.length:=(List.getElem?_eq_some_iff.1 hd).1
 have hmul2:(i+1)*P.cellsOf E≤es.length*P.cellsOf E:=Nat.mul_le_mul_right _ hi
 rw[Nat.add_mul,Nat.one_mul] at hmul2
 have e:((c.toList.take (es.length*P.cellsOf E)).drop (i*P.cellsOf E)).take (P.cellsOf E)=(c.toList.drop (i*P.cellsOf E)).take (P.cellsOf E):=by
  apply List.ext_getElem?
  intro k
  rw[jo,jo]
  split
  ·rw[List.getElem?_take,if_pos (by omega)]
  ·rfl
 rw[e]
 exact(hc i d hd).mono hk
theorem Ox {z:Array Value} {N i:Nat} (h:i*z.size+z.size≤N):((madeCells z N).toList.drop (i*z.size)).take z.size=z.toList:=by
 apply List.ext_getElem?
 intro k
 rw[jo]
 split
 ·have hk:k<z.size:=by assumption
  have e:(i*z.size+k)%z.size=k:=by rw[Nat.mul_comm,Nat.mul_add_mod,Nat.mod_eq_of_lt hk]
  have hlt:i*z.size+k<N:=by omega
  simp[madeCells,hlt,e,hk]
 ·rw[List.getElem?_eq_none (by simp;omega)]
theorem aiY {d l:Nat} {E TI TJ:TypeId} {k k':IntKind} {len cap:Int} {z:Dt} (ho:o.op= .makeSlice T x y) (hd:o.dst=some d) (hn:d<n) (hu:P.underlying T=some (.slice E)) (hf:lk σ.hs l= .free) (hk0:σ.k0≤l)
  (hz:Zero P E z) (h0:P.cellsOf E≠0) (hby:P.bytesOf E*cap.toNat≤140737488355328) (hi:P.underlying TI=some (.int k)) (hj:P.underlying TJ=some (.int k')) (hx:Ev P σ x (.dat TI (.int len))) (hy:Ev P σ y (.dat TJ (.int cap)))
  (hl0:0≤len) (hlc:len≤cap) (hlim:cap≤137438953472):bn P n o σ ((σ.lay l (.row T (List.replicate len.toNat z))).put d (.row l)):=by
 rintro ok0 w0 a w ⟨β,r⟩ K Q hK
 obtain⟨i,zv,hinf,hzv,hzs,hzrd⟩:=hz.ex
 obtain⟨_,e1,_⟩:=RV.int hi (hx _ _ _ _ _ _ r)
 obtain⟨_,e2,_⟩:=RV.int hj (hy _ _ _ _ _ _ r)
 simp only[Dt.toInt] at e1 e2
 have hsz:i.size=P.cellsOf E:=by simp[Program.cellsOf,hinf]
 have hbz:i.bytes=P.bytesOf E:=by simp[Program.bytesOf,hinf]
 have hb:(i.bytes:Int)*cap≤281474976710656:=by
  rw[hbz]
  have h2:((P.bytesOf E*cap.toNat:Nat):Int)≤140737488355328:=by omega
  rw[Int.natCast_mul,Int.toNat_of_nonneg (by omega)] at h2
  omega
 have hrun:=run_make (P:=P) w T E i zv hu hinf hzv k k' len cap hl0 hlc hb (by omega)
 unfold Oper.wp execOp
 simp only[ho,e1,e2,Sem.run_bind,hrun,Result.andThen_ok,Sem.run_pure]
 refine hK _ _ ?_
 rw[hd]
 have hrow:=Rel.newRow (l:=l) (E:=E) (es:=List.replicate len.toNat z) (cap:=cap.toNat) (c:=madeCells zv.cells (cap.toNat*i.size)) r hu hf hk0 (by rw[size_madeCells,hsz]) (by simp;omega) (by unfold maxLen;omega)
  (fun u hu2=>by
   obtain⟨j,hj2⟩:=List.getElem?_of_mem hu2
   have hone:=(hzrd (fun _=>True) w).oneCell
   simp only[madeCells,Array.getElem?_toList,Array.getElem?_map,Option.map_eq_some_iff] at hj2
   obtain⟨q,_,rfl⟩:=hj2
   have hlt:q%zv.cells.size<zv.cells.size:=Nat.mod_lt _ (by omega)
   have:zv.cells[q%zv.cells.size]! =zv.cells[q%zv.cells.size]:=by simp[hlt]
   rw[this]
   exact hone _ (by simp))
  (fun i' d' hd'=>by
   have hi':i'<len.toNat:=by have:=(List.getElem?_eq_some_iff.1 hd').1;simpa using this
   rw[List.getElem?_replicate,if_pos hi'] at hd'
   cases hd'
   have hmul:(i'+1)*P.cellsOf E≤cap.toNat*P.cellsOf E:=Nat.mul_le_mul_right _ (by omega)
   rw[Nat.add_mul,Nat.one_mul] at hmul
   have:=Ox (z:=zv.cells) (N:=cap.toNat*i.size) (i:=i') (by rw[hsz,hzs];omega)
   rw[hzs] at this
   rw[this]
   exact hzrd _ _)
 have hlen:(List.replicate len.toNat z).length=len.toNat:=by simp
 rw[hlen] at hrow
 exact Rel.put hrow hn (KR (dP _ _ _) rfl)
inductive EvL (P:Program) (σ:St) (E:TypeId):List Operand→List Dt→Prop where
 |nil:EvL P σ E [] []
 |cons {x:Operand} {d:Dt} {xs:List Operand} {ds:List Dt} (h:Ev P σ x (.dat E d)) (r:EvL P σ E xs ds):EvL P σ E (x::xs) (d::ds)
theorem EvL.len {E:TypeId} {xs:List Operand} {ds:List Dt} (h:EvL P σ E xs ds):xs.length=ds.length:=by
 induction h with
 |nil=>rfl
 |cons _ _ ih=>simp[ih]
theorem EvL.get {E:TypeId} {xs:List Operand} {ds:List Dt} (h:EvL P σ E xs ds):∀(i:Nat) (d:Dt),ds[i]? =some d→∃x,xs[i]? =some x∧Ev P σ x (.dat E d):=by
 induction h with
 |nil=>intro i d hd;simp at hd
 | @cons x d xs ds h _ ih=>
   intro i d' hd
   cases i with
   |zero=>simp only[List.getElem?_cons_zero,Option.some.injEq] at hd;subst hd;exact⟨x,rfl,h⟩
   |succ i=>simp only[List.getElem?_cons_succ] at hd;obtain⟨x',h1,h2⟩:=ih i d' hd;exact⟨x',by simpa using h1,h2⟩
theorem EvL.get' {E:TypeId} {xs:List Operand} {ds:List Dt} (h:EvL P σ E xs ds):∀x∈xs,∃d,Ev P σ x (.dat E d):=by
 induction h with
 |nil=>intro x hx;simp at hx
 | @cons x d xs ds h _ ih=>
   intro x' hx
   rcases List.mem_cons.1 hx with rfl|hx
   ·exact⟨d,h⟩
   ·exact ih x' hx
theorem Oy {d l len:Nat} {E:TypeId} {parts:Array (Nat×Operand)} {xs:List Operand} {ds:List Dt} {z:Dt} (ho:o.op= .buildSlice T len parts) (hd:o.dst=some d) (hn:d<n) (hu:P.underlying T=some (.slice E)) (hf:lk σ.hs l= .free) (hk0:σ.k0≤l)
  (hz:Zero P E z) (h0:P.cellsOf E≠0) (hp:parts.toList=(xs.zipIdx 0).map fun p=>(p.2,p.1)) (hlen:len=xs.length) (hpos:xs≠[]) (hsmall:len*P.cellsOf E≤16777216) (hev:EvL P σ E xs ds)
  (hs:∀(d':Dt) (ok:Nat→Prop) (w:World) (β:Nat→Option Value) (cs:List Value),RA P ok w β (.dat E d') cs→((AV.dat E d').isAgg P=false→cs.length=1)→cs.length=P.cellsOf E):
  bn P n o σ ((σ.lay l (.row T ds)).put d (.row l)):=by
 rintro ok0 w0 a w ⟨β,r⟩ K Q hK
 obtain⟨i,zv,hinf,hzv,hzs,hzrd⟩:=hz.ex
 have hsz:i.size=P.cellsOf E:=by simp[Program.cellsOf,hinf]
 have hvc:∀(x':Operand) (d':Dt),Ev P σ x' (.dat E d')→(a.eval x').cells.size=P.cellsOf E∧RA P (okOf ok0 w0 w σ.hs β) w β (.dat E d') (a.eval x').cells.toList:=by
  intro x' d' hx'
  have hv:=RV.to1 (by simp) (by simp) (hx' _ _ _ _ _ _ r)
  refine⟨?_,hv.cells⟩
  have:=hs d' _ _ _ _ hv.cells (fun hi=>by
   have hr:=hv.2 hi
   have h1':=hr.oneCell (a.eval x') (by simp)
   generalize a.eval x'=z at h1'
   cases z<;>simp_all [Value.cells,Value.oneCell'])
  simpa using this
 have hlx:0<xs.length:=List.length_pos_iff.2 hpos
 have hdx:=hev.len
 obtain⟨c,hfill,hcs,hck⟩:=Great.fill_dense (s:=P.cellsOf E) (by omega) (xs.map a.eval) 0 ((Array.range (len*P.cellsOf E)).map (zv.cells[· %zv.cells.size]!)) (fun u hu2=>by
   obtain⟨x',hx',rfl⟩:=List.mem_map.1 hu2
   obtain⟨d',hd'⟩:=hev.get' x' hx'
   exact(hvc x' d' hd').1) (by simp[hlen])
 have hparts:(parts.map fun(p:Nat×Operand)=>(p.1,a.eval p.2)).toList=((xs.map a.eval).zipIdx 0).map fun x=>(x.2,x.1):=by
  rw[Array.toList_map,hp,List.map_map,List.zipIdx_map,List.map_map]
  rfl
 have hrun:=run_buildSlice (P:=P) w T E len (parts.map fun(p:Nat×Operand)=>(p.1,a.eval p.2)) c i zv hu hinf hzv (by rw[hsz];omega) (by
   rw[hsz,hlen]
   have:=Nat.mul_pos hlx (Nat.pos_of_ne_zero h0)
   omega) (by rw[hparts,hsz];exact hfill)
 unfold Oper.wp execOp
 simp only[ho,Sem.run_bind]
 have hmap:(parts.map fun x=>match x with|(i,x)=>(i,a.eval x))=parts.map fun(p:Nat×Operand)=>(p.1,a.eval p.2):=by
  congr 1
 rw[hmap,hrun]
 simp only[Result.andThen_ok,Sem.run_pure]
 refine hK _ _ ?_
 rw[hd]
 have hcsz:c.size=len*P.cellsOf E:=by rw[hcs];simp
 have hseg:∀(j:Nat) (x':Operand),xs[j]? =some x'→(a.eval x').cells.size=P.cellsOf E→(c.toList.drop (j*P.cellsOf E)).take (P.cellsOf E)=(a.eval x').cells.toList:=by
  intro j x' hx' hsz'
  have hj:j<xs.length:=(List.getElem?_eq_some_iff.1 hx').1
  have hmul:(j+1)*P.cellsOf E≤xs.length*P.cellsOf E:=Nat.mul_le_mul_right _ hj
  rw[Nat.add_mul,Nat.one_mul] at hmul
  apply List.ext_getElem?
  intro k
  rw[jo]
  split
  ·have hk:k<P.cellsOf E:=by assumption
   have h1:(j*P.cellsOf E+k)/P.cellsOf E=j:=by rw[Nat.mul_comm,Nat.mul_add_div (by omega),Nat.div_eq_of_lt hk,Nat.add_zero]
   have h2:(j*P.cellsOf E+k)%P.cellsOf E=k:=by rw[Nat.mul_comm,Nat.mul_add_mod,Nat.mod_eq_of_lt hk]
   rw[Array.getElem?_toList,hck,if_pos (by simp;omega)]
   simp[h1,h2,hx']
  ·rw[List.getElem?_eq_none (by simp;omega)]
 have hrow:=Rel.newRow (l:=l) (E:=E) (es:=ds) (cap:=len) (c:=c) r hu hf hk0 hcsz (by omega) (by
   unfold maxLen
   have:len*1≤len*P.cellsOf E:=Nat.mul_le_mul_left _ (by omega)
   omega)
  (fun u hu2=>by
   obtain⟨j,hj⟩:=List.getElem?_of_mem hu2
   rw[Array.getElem?_toList,hck] at hj
   have hjlt:j<len*P.cellsOf E:=by
        rcases Nat.lt_or_ge j (len*P.cellsOf E) with h|h
        ·exact h
        ·rw[if_neg (by simp[←hlen];omega),Array.getElem?_eq_none (by simp;omega)] at hj
         cases hj
   rw[if_pos (by simp[←hlen];exact hjlt)] at hj
   simp only[Option.bind_eq_some_iff,List.getElem?_map,Option.map_eq_some_iff] at hj
   obtain⟨v1,⟨x',hx',rfl⟩,hv1⟩:=hj
   obtain⟨d',hd'⟩:=hev.get' x' (List.mem_of_getElem? hx')
   exact(hvc x' d' hd').2.oneCell u (by simpa using Array.mem_of_getElem? hv1))
  (fun j d' hd'=>by
   obtain⟨x',hx',hx2⟩:=hev.get j d' hd'
   obtain⟨q1,q2⟩:=hvc x' d' hx2
   rw[hseg j x' hx' q1]
   cases q2 with
   |dat q2=>exact q2)
 rw[show ds.length=len by omega] at hrow
 exact Rel.put hrow hn (KR (dP _ _ _) rfl)
theorem RO (w:World) {len:Nat} {E:TypeId} {zi ie:TypeInfo} {za:Value} {parts:Array (Nat×Value)} {c:Array Value} (hu:P.underlying T=some (.array len E)) (hzi:P.info? T=some zi) (hza:zi.zero=some za) (hie:P.info? E=some ie)
  (hf:Instr.fill (fun i=>some (i*ie.size,ie.size)) za.cells parts.toList=some c):(Instr.build T parts).run P w= .ok (.agg c) w:=by
 simp[Instr.build,zeroValue,typeInfo,hzi,hza,run_underlying hu,sizeOf,hie,hf]
theorem UK {d len:Nat} {E:TypeId} {parts:Array (Nat×Operand)} {xs:List Operand} {ds:List Dt} {zi:TypeInfo} {za:Value} (ho:o.op= .build T parts) (hd:o.dst=some d) (hn:d<n) (hu:P.underlying T=some (.array len E))
  (hzi:P.info? T=some zi) (hza:zi.zero=some za) (hzs:za.cells.size=len*P.cellsOf E) (hT:P.cellsOf T=len*P.cellsOf E) (h0:P.cellsOf E≠0) (hp:parts.toList=(xs.zipIdx 0).map fun p=>(p.2,p.1)) (hlen:len=xs.length) (hev:EvL P σ E xs ds)
  (hs:∀(d':Dt) (ok:Nat→Prop) (w:World) (β:Nat→Option Value) (cs:List Value),RA P ok w β (.dat E d') cs→((AV.dat E d').isAgg P=false→cs.length=1)→cs.length=P.cellsOf E):
  bn P n o σ (σ.put d (.dat T (.lst ds))):=
 aG hd hn fun ok0 w0 a w β r=>by
 obtain⟨ie,hie⟩:∃ie,P.info? E=some ie:=by
  cases hi:P.info? E with
  |none=>exact absurd (by simp[Program.cellsOf,hi]) h0
  |some ie=>exact⟨ie,rfl⟩
 have hsz:ie.size=P.cellsOf E:=by simp[Program.cellsOf,hie]
 have hvc:∀(x':Operand) (d':Dt),Ev P σ x' (.dat E d')→(a.eval x').cells.size=P.cellsOf E∧RA P (okOf ok0 w0 w σ.hs β) w β (.dat E d') (a.eval x').cells.toList:=by
  intro x' d' hx'
  have hv:=RV.to1 (by simp) (by simp) (hx' _ _ _ _ _ _ r)
  refine⟨?_,hv.cells⟩
  have:=hs d' _ _ _ _ hv.cells (fun hi=>by
   have hr:=hv.2 hi
   have h1':=hr.oneCell (a.eval x') (by simp)
   generalize a.eval x'=z at h1'
   cases z<;>simp_all [Value.cells,Value.oneCell'])
  simpa using this
 have hdx:=hev.len
 obtain⟨c,hfill,hcs,hck⟩:=Great.fill_dense (s:=P.cellsOf E) (by omega) (xs.map a.eval) 0 za.cells (fun u hu2=>by
   obtain⟨x',hx',rfl⟩:=List.mem_map.1 hu2
   obtain⟨d',hd'⟩:=hev.get' x' hx'
   exact(hvc x' d' hd').1) (by simp[hzs,hlen])
 have hparts:(parts.map fun(p:Nat×Operand)=>(p.1,a.eval p.2)).toList=((xs.map a.eval).zipIdx 0).map fun x=>(x.2,x.1):=by
  rw[Array.toList_map,hp,List.map_map,List.zipIdx_map,List.map_map]
  rfl
 have hrun:=RO (P:=P) w (parts:=parts.map fun(p:Nat×Operand)=>(p.1,a.eval p.2)) (c:=c) hu hzi hza hie (by rw[hparts,hsz];exact hfill)
 have hmap:(parts.map fun x=>match x with|(i,x)=>(i,a.eval x))=parts.map fun(p:Nat×Operand)=>(p.1,a.eval p.2):=by
  congr 1
 have hcsz:c.size=len*P.cellsOf E:=by rw[hcs];exact hzs
 have hseg:∀(j:Nat) (x':Operand),xs[j]? =some x'→(a.eval x').cells.size=P.cellsOf E→(c.toList.drop (j*P.cellsOf E)).take (P.cellsOf E)=(a.eval x').cells.toList:=by
  intro j x' hx' hsz'
  have hj:j<xs.length:=(List.getElem?_eq_some_iff.1 hx').1
  have hmul:(j+1)*P.cellsOf E≤xs.length*P.cellsOf E:=Nat.mul_le_mul_right _ hj
  rw[Nat.add_mul,Nat.one_mul] at hmul
  apply List.ext_getElem?
  intro k
  rw[jo]
  split
  ·have hk:k<P.cellsOf E:=by assumption
   have h1:(j*P.cellsOf E+k)/P.cellsOf E=j:=by rw[Nat.mul_comm,Nat.mul_add_div (by omega),Nat.div_eq_of_lt hk,Nat.add_zero]
   have h2:(j*P.cellsOf E+k)%P.cellsOf E=k:=by rw[Nat.mul_comm,Nat.mul_add_mod,Nat.mod_eq_of_lt hk]
   rw[Array.getElem?_toList,hck,if_pos (by simp;omega)]
   simp[h1,h2,hx']
  ·rw[List.getElem?_eq_none (by simp;omega)]
 refine⟨.agg c,by simp only[execOp,ho,Sem.run_bind,hrun,Result.andThen_ok,Sem.run_pure],(RV.dat_agg (ND hu)).2 ⟨c.toList,rfl,?_⟩⟩
 refine .arr hu (by omega) (by rw[Array.length_toList,hcsz,hT]) (fun u hu2=>?_) (fun j d' hd'=>?_)
 ·obtain⟨j,hj⟩:=List.getElem?_of_mem hu2
  rw[Array.getElem?_toList,hck] at hj
  have hjlt:j<len*P.cellsOf E:=by
   rcases Nat.lt_or_ge j (len*P.cellsOf E) with h|h
   ·exact h
   ·    rw[if_neg (by simp[←hlen];omega),Array.getElem?_eq_none (by omega)] at hj
        cases hj
  rw[if_pos (by simp[←hlen];exact hjlt)] at hj
  simp only[Option.bind_eq_some_iff,List.getElem?_map,Option.map_eq_some_iff] at hj
  obtain⟨v1,⟨x',hx',rfl⟩,hv1⟩:=hj
  obtain⟨d',hd'⟩:=hev.get' x' (List.mem_of_getElem? hx')
  exact(hvc x' d' hd').2.oneCell u (by simpa using Array.mem_of_getElem? hv1)
 ·obtain⟨x',hx',hx2⟩:=hev.get j d' hd'
  obtain⟨q1,q2⟩:=hvc x' d' hx2
  rw[hseg j x' hx' q1]
  cases q2 with
  |dat q2=>exact q2
end
end Go.Am
namespace Go.Am
open Go.RowKit
def idx (l:List Dt) (i:Int):Option Dt:=if 0≤i then l[i.toNat]? else none
def idxS (s:ByteArray) (i:Int):Option Int:=if 0≤i then(s[i.toNat]?).map fun c=>(c.toNat:Int) else none
def cutS (s:ByteArray) (i j:Int):Option ByteArray:=if 0≤i∧i≤j∧j≤s.size then some (s.extract i.toNat j.toNat) else none
def cutL (l:List Dt) (i j:Int):Option (List Dt):=if 0≤i∧i≤j∧j≤l.length then some ((l.drop i.toNat).take (j.toNat-i.toNat)) else none
def app (l r:List Dt):Option (List Dt):=if l.length+r.length≤137438953472 then some (l++r) else none
def acP (b:Nat) (l r:List Dt):Option (List Dt):=bif Nat.ble b 1024 then app l r else bif Nat.ble b 65536 then(if l.length+r.length≤2147483648 then some (l++r) else none) else none
def aiZ {R:Type} (b:Nat) (l r:List Dt) (k:List Dt→Option R):Option R:=bif Nat.ble b 1024 then(app l r).bind k else(acP b l r).bind k
def mkL (len cap:Int) (z:Dt):Option (List Dt):=if 0≤len∧len≤cap∧cap≤137438953472 then some (List.replicate len.toNat z) else none
def mkB (len cap:Int) (z:Dt):Option (List Dt):=if 0≤len∧len≤cap∧cap≤2147483648 then some (List.replicate len.toNat z) else none
def mkK {R:Type} (b:Nat) (len cap:Int) (z:Dt) (k:List Dt→Option R):Option R:=bif Nat.ble b 1024 then(mkL len cap z).bind k else bif Nat.ble b 65536 then(mkB len cap z).bind k else none
def inL (l:List Dt) (i:Int):Option Unit:=if 0≤i∧i<l.length then some () else none
def quo (k:IntKind) (a b:Int):Option Int:=if b≠0 then some (k.wrap (a.tdiv b)) else none
def rem (a b:Int):Option Int:=if b≠0 then some (a.tmod b) else none
theorem EJ {l:List Dt} {i:Int} {e:Dt} (h:idx l i=some e):0≤i∧l[i.toNat]? =some e:=by
 unfold idx at h
 split at h
 ·exact⟨by assumption,h⟩
 ·cases h
theorem acQ {s:ByteArray} {i c:Int} (h:idxS s i=some c):0≤i∧∃u:UInt8,s[i.toNat]? =some u∧(u.toNat:Int)=c:=by
 unfold idxS at h
 split at h
 ·refine⟨by assumption,?_⟩
  simp only[Option.map_eq_some_iff] at h
  exact h
 ·cases h
theorem acR {s r:ByteArray} {i j:Int} (h:cutS s i j=some r):0≤i∧i≤j∧j≤s.size∧s.extract i.toNat j.toNat=r:=by
 unfold cutS at h
 split at h
 ·rename_i hc;exact⟨hc.1,hc.2.1,hc.2.2,by simpa using h⟩
 ·cases h
theorem P8 {l r:List Dt} {i j:Int} (h:cutL l i j=some r):0≤i∧i≤j∧j≤l.length∧(l.drop i.toNat).take (j.toNat-i.toNat)=r:=by
 unfold cutL at h
 split at h
 ·rename_i hc;exact⟨hc.1,hc.2.1,hc.2.2,by simpa using h⟩
 ·cases h
theorem UL {l r s:List Dt} (h:app l r=some s):l.length+r.length≤137438953472∧l++r=s:=by
 unfold app at h
 split at h
 ·exact⟨by assumption,by simpa using h⟩
 ·cases h
theorem P9 {R:Type} {b:Nat} {l r:List Dt} {k:List Dt→Option R} {x:R} (h:aiZ b l r k=some x):∃rs,acP b l r=some rs∧k rs=some x:=by
 unfold aiZ at h
 cases h1:Nat.ble b 1024 with
 |true=>
  rw[h1,cond_true] at h
  have e:acP b l r=app l r:=by unfold acP;rw[h1];rfl
  rw[e]
  exact Option.bind_eq_some_iff.1 h
 |false=>
  rw[h1,cond_false] at h
  exact Option.bind_eq_some_iff.1 h
theorem Qa {b:Nat} {l r s:List Dt} (h:acP b l r=some s):l.length+r.length≤137438953472∧l++r=s∧(l.length+r.length)*b≤140737488355328:=by
 unfold acP at h
 cases h1:Nat.ble b 1024 with
 |true=>
  rw[h1,cond_true] at h
  obtain⟨p1,p2⟩:=UL h
  have:=Nat.mul_le_mul p1 (Nat.le_of_ble_eq_true h1)
  exact⟨p1,p2,by omega⟩
 |false=>
  rw[h1,cond_false] at h
  cases h2:Nat.ble b 65536 with
  |false=>rw[h2,cond_false] at h;cases h
  |true=>
   rw[h2,cond_true] at h
   split at h
   ·    next h3=>
        cases h
        have:=Nat.mul_le_mul h3 (Nat.le_of_ble_eq_true h2)
        exact⟨by omega,rfl,by omega⟩
   ·cases h
theorem ad7 {len cap:Int} {z:Dt} {s:List Dt} (h:mkL len cap z=some s):0≤len∧len≤cap∧cap≤137438953472∧List.replicate len.toNat z=s:=by
 unfold mkL at h
 split at h
 ·rename_i hc;exact⟨hc.1,hc.2.1,hc.2.2,by simpa using h⟩
 ·cases h
theorem ad8 {R:Type} {b:Nat} {len cap:Int} {z:Dt} {k:List Dt→Option R} {x:R} (h:mkK b len cap z k=some x):∃s,0≤len∧len≤cap∧cap≤137438953472∧List.replicate len.toNat z=s∧b*cap.toNat≤140737488355328∧k s=some x:=by
 unfold mkK at h
 cases h1:Nat.ble b 1024 with
 |true=>
  rw[h1,cond_true] at h
  obtain⟨s,h2,h3⟩:=Option.bind_eq_some_iff.1 h
  obtain⟨p1,p2,p3,p4⟩:=ad7 h2
  have hc:cap.toNat≤137438953472:=by omega
  have:=Nat.mul_le_mul (Nat.le_of_ble_eq_true h1) hc
  exact⟨s,p1,p2,p3,p4,by omega,h3⟩
 |false=>
  rw[h1,cond_false] at h
  cases h2:Nat.ble b 65536 with
  |false=>rw[h2,cond_false] at h;cases h
  |true=>
   rw[h2,cond_true] at h
   obtain⟨s,h4,h3⟩:=Option.bind_eq_some_iff.1 h
   unfold mkB at h4
   split at h4
   ·    next hc=>
        have hc':cap.toNat≤2147483648:=by omega
        have:=Nat.mul_le_mul (Nat.le_of_ble_eq_true h2) hc'
        exact⟨s,hc.1,hc.2.1,by omega,by simpa using h4,by omega,h3⟩
   ·cases h4
theorem ad9 {l:List Dt} {i:Int} {x:Unit} (h:inL l i=some x):0≤i∧i<l.length:=by
 unfold inL at h
 split at h
 ·assumption
 ·cases h
section
variable {P:Program} {n:Nat} {o:Oper} {σ σ':St} {x y:Operand} {v:AV} {T:TypeId}
def compat (P:Program) (T T':TypeId):Bool:=
 Nat.beq T T'||match P.underlying T,P.underlying T' with
 |some (.int k),some (.int k')=>decide (k=k')
 |some .bool,some .bool=>true
 |some .string,some .string=>true
 |some (.slice E),some (.slice E')=>Nat.beq E E'
 |_,_=>false
theorem RD.compat {ok:Nat→Prop} {w:World} {d:Dt} {cs:List Value} {T':TypeId} (h:RD P ok w T d cs) (hc:Am.compat P T T'=true):RD P ok w T' d cs:=by
 unfold Am.compat at hc
 rw[Bool.or_eq_true] at hc
 rcases hc with hc|hc
 ·have:=Nat.eq_of_beq_eq_true hc
  subst this
  exact h
 ·split at hc
  ·rename_i k k' h1 h2
   have e:k=k':=by simpa using hc
   subst e
   obtain⟨e1,e2,e3,e4⟩:=h.int_inv h1
   rw[e1,e2];exact .int h2 e3 e4
  ·rename_i h1 h2
   obtain⟨e1,e2⟩:=h.bool_inv h1
   rw[e1,e2];exact .bool h2
  ·rename_i h1 h2
   obtain⟨e1,e2,e3⟩:=h.str_inv h1
   rw[e1,e2];exact .str h2 e3
  ·rename_i E E' h1 h2
   have e:=Nat.eq_of_beq_eq_true hc
   subst e
   obtain⟨e1,a,cap,ad,g,e2,q1,q2,q3,q4,q5⟩:=h.lst_inv h1
   rw[e1,e2];exact .lst ad g h2 rfl q1 q2 q3 q4 q5
  ·cases hc
mutual
def pk (P:Program) (hs:List Ob):AV→Option (TypeId×Dt)
 | .dat T d=>some (T,d)
 |  .nils T=>match P.underlying T with
    |some (.slice _)=>some (T,.lst [])
    |_=>none
 |  .row l=>match lk hs l with
    | .frz T es=>some (T,.lst es)
    |_=>none
 |  .agg T vs=>match P.underlying T with
    |some (.struct fs)=>match pkL P hs fs.toList vs with
     |some ds=>some (T,.agg ds)
     |none=>none
    |_=>none
 |_=>none
def pkL (P:Program) (hs:List Ob):List Field→List AV→Option (List Dt)
 | [],[]=>some []
 |  f::fs,v::vs=>match pk P hs v with
    |some (T,d)=>bif compat P T f.type then(match pkL P hs fs vs with
     |some ds=>some (d::ds)
     |none=>none) else none
    |none=>none
 |_,_=>none
end
theorem aal {hs:List Ob}:∀{fs:List Field} {vs:List AV} {ds:List Dt},pkL P hs fs vs=some ds→ds.length=fs.length∧vs.length=fs.length∧∀(i:Nat) (f:Field) (d:Dt),fs[i]? =some f→ds[i]? =some d→∃v T,vs[i]? =some v∧pk P hs v=some (T,d)∧compat P T f.type=true
 | [],[],ds,h=>by
   simp only[pkL,Option.some.injEq] at h
   subst h
   exact⟨rfl,rfl,fun i f d hf=>by simp at hf⟩
 | [],_::_,ds,h=>by simp[pkL] at h
 |_::_,[],ds,h=>by simp[pkL] at h
 | f::fs,v::vs,ds,h=>by
   unfold pkL at h
   split at h
   ·rename_i T d hv
    cases hc:compat P T f.type with
    |false=>rw[hc] at h;cases h
    |   true=>
        rw[hc] at h
        simp only[cond_true] at h
        split at h
        ·rename_i ds' hr
         cases h
         obtain⟨h1,h2,h3⟩:=aal hr
         refine⟨by simp[h1],by simp[h2],fun i f' d' hf hd=>?_⟩
         cases i with
         |zero=>
          simp only[List.getElem?_cons_zero,Option.some.injEq] at hf hd
          subst hf hd
          exact⟨v,T,rfl,hv,hc⟩
         |succ i=>
          simp only[List.getElem?_cons_succ] at hf hd
          obtain⟨v',T',q1,q2,q3⟩:=h3 i f' d' hf hd
          exact⟨v',T',by simpa using q1,q2,q3⟩
        ·cases h
   ·cases h
def EK (P:Program) (ok:Nat→Prop) (w:World) (β:Nat→Option Value) (hs:List Ob):Prop:=∀l T es,lk hs l= .frz T es→∃z,β l=some z∧RD P ok w T (.lst es) [z]
theorem RelB.frzOK {K:OkX} {w0 w:World} {a:Act} {β:Nat→Option Value} (r:RelB P K w0 n σ a w β):EK P (okOf K w0 w σ.hs β) w β σ.hs:=fun l T es hl=>by
 have:=r.hs l
 rw[hl] at this
 obtain⟨z,h1,_,h2⟩:=this
 exact⟨z,h1,h2⟩
theorem jA {ok:Nat→Prop} {w:World} {β:Nat→Option Value} {cs:List Value} {hs:List Ob} (hf:EK P ok w β hs) (h:RA P ok w β v cs):∀{T:TypeId} {d:Dt},pk P hs v=some (T,d)→RD P ok w T d cs:=by
 induction h with
 |dat h=>intro T d hp;simp only[pk,Option.some.injEq,Prod.mk.injEq] at hp;obtain⟨rfl,rfl⟩:=hp;exact h
 | @agg T fs vs cs hu hl hc h1 _ ih=>
   intro T' d hp
   simp only[pk,hu] at hp
   split at hp
   ·rename_i ds hpl
    simp only[Option.some.injEq,Prod.mk.injEq] at hp
    obtain⟨rfl,rfl⟩:=hp
    obtain⟨q1,q2,q3⟩:=aal hpl
    refine .agg hu (by rw[q1];simp) hc h1 fun i f d hf hd=>?_
    obtain⟨u,T'',q4,q5,q6⟩:=q3 i f d (by simpa using hf) hd
    exact(ih i f u hf q4 q5).compat q6
   ·cases hp
 | @row l z h h1=>
   intro T d hp
   simp only[pk] at hp
   split at hp
   ·rename_i T' es hl
    simp only[Option.some.injEq,Prod.mk.injEq] at hp
    obtain⟨rfl,rfl⟩:=hp
    obtain⟨z',e,hr⟩:=hf l _ _ hl
    rw[h] at e;cases e
    exact hr
   ·cases hp
 | nils=>
   intro T d hp
   simp only[pk] at hp
   split at hp
   ·rename_i hu
    simp only[Option.some.injEq,Prod.mk.injEq] at hp
    obtain⟨rfl,rfl⟩:=hp
    exact RD.nil hu
   ·cases hp
 |_=>intro T d hp;simp[pk] at hp
theorem X7 {hs:List Ob} {d:Dt} (h:pk P hs v=some (T,d)) (hnr:∀l,v≠ .row l):v.isAgg P=bW P T∧v≠ .dead∧∀us,v≠ .tup us:=by
 cases v with
 |dat T' d'=>simp only[pk,Option.some.injEq,Prod.mk.injEq] at h;obtain⟨rfl,rfl⟩:=h;exact⟨rfl,by simp,by simp⟩
 |agg T' vs=>
  simp only[pk] at h
  split at h
  ·split at h
   ·simp only[Option.some.injEq,Prod.mk.injEq] at h;obtain⟨rfl,rfl⟩:=h;exact⟨rfl,by simp,by simp⟩
   ·cases h
  ·cases h
 |nils T'=>
  simp only[pk] at h
  split at h
  ·rename_i hu
   simp only[Option.some.injEq,Prod.mk.injEq] at h
   obtain⟨rfl,rfl⟩:=h
   exact⟨by simp[AV.isAgg,bW,hu],by simp,by simp⟩
  ·cases h
 |row l=>exact absurd rfl (hnr l)
 |_=>simp[pk] at h
theorem RV.pk {ok:Nat→Prop} {w:World} {β:Nat→Option Value} {hs:List Ob} {z:Value} {d:Dt} (hf:EK P ok w β hs) (hfs:∀l T es,lk hs l= .frz T es→bW P T=false) (h:RV P ok w β v z) (hp:Am.pk P hs v=some (T,d)):RV P ok w β (.dat T d) z:=by
 cases v with
 |row l=>
  simp only[Am.pk] at hp
  split at hp
  ·rename_i T' es hl
   simp only[Option.some.injEq,Prod.mk.injEq] at hp
   obtain⟨rfl,rfl⟩:=hp
   obtain⟨z',e,hr⟩:=hf l _ _ hl
   have e2:=mQ h
   rw[e2] at e;cases e
   exact(RV.dat_one (hfs l _ _ hl)).2 hr
  ·cases hp
 |dat T' d'=>
  obtain⟨h1,h2,h3⟩:=X7 hp (by simp)
  have hr:=RV.to1 h2 h3 h
  exact⟨fun hi=>let ⟨cs,e,q⟩:=hr.1 (by rw[h1];exact hi);⟨cs,e,.dat (jA hf q hp)⟩,fun hi=> .dat (jA hf (hr.2 (by rw[h1];exact hi)) hp)⟩
 |agg T' d'=>
  obtain⟨h1,h2,h3⟩:=X7 hp (by simp)
  have hr:=RV.to1 h2 h3 h
  exact⟨fun hi=>let ⟨cs,e,q⟩:=hr.1 (by rw[h1];exact hi);⟨cs,e,.dat (jA hf q hp)⟩,fun hi=> .dat (jA hf (hr.2 (by rw[h1];exact hi)) hp)⟩
 |nils T'=>
  obtain⟨h1,h2,h3⟩:=X7 hp (by simp)
  have hr:=RV.to1 h2 h3 h
  exact⟨fun hi=>let ⟨cs,e,q⟩:=hr.1 (by rw[h1];exact hi);⟨cs,e,.dat (jA hf q hp)⟩,fun hi=> .dat (jA hf (hr.2 (by rw[h1];exact hi)) hp)⟩
 |_=>simp[Am.pk] at hp
theorem RelB.frzAgg {K:OkX} {w0 w:World} {a:Act} {β:Nat→Option Value} (r:RelB P K w0 n σ a w β):∀l T es,lk σ.hs l= .frz T es→bW P T=false:=fun l T es hl=>by
 have:=r.hs l
 rw[hl] at this
 obtain⟨z,h1,hu,h2⟩:=this
 exact hu
theorem Ev.pk {d:Dt} (h:Ev P σ x v) (hp:Am.pk P σ.hs v=some (T,d)):Ev P σ x (.dat T d):=fun ok0 w0 n a w β r=>
 (h _ _ _ _ _ _ r).pk r.frzOK r.frzAgg hp
theorem RV.can {ok:Nat→Prop} {w:World} {β:Nat→Option Value} {z:Value} {d:Dt} (h:RV P ok w β (.dat T d) z):RV P ok w β (.dat T (canD P T d)) z:=by
 have h1:RV1 P ok w β (.dat T d) z:=h
 refine⟨fun hi=>?_,fun hi=>?_⟩
 ·obtain⟨cs,e,q⟩:=h1.1 hi
  cases q with
  |dat q=>exact⟨cs,e,.dat (by rw[F7 q];exact q)⟩
 ·have q:=h1.2 hi
  cases q with
  |dat q=>exact .dat (by rw[F7 q];exact q)
theorem Ev.can {d:Dt} (h:Ev P σ x (.dat T d)):Ev P σ x (.dat T (canD P T d)):=fun ok0 w0 n a w β r=>(h _ _ _ _ _ _ r).can
theorem bn.weak {d:Nat} {v':AV} {τ:St} (h:bn P n o σ (τ.put d v)) (hv:∀(ok:Nat→Prop) (w:World) (β:Nat→Option Value) (z:Value),RV P ok w β v z→RV P ok w β v' z):bn P n o σ (τ.put d v'):=by
 intro ok0 w0 a w r K Q hK
 refine h ok0 w0 a w r K Q fun a' w' r'=>hK a' w' ?_
 obtain⟨β,r'⟩:=r'
 refine⟨β,r'.size,r'.defers,r'.below,fun k=>?_,r'.hs,r'.sep,r'.own,r'.ext,r'.kk,r'.tab⟩
 have:=r'.ts k
 simp only[St.put,uU] at this ⊢
 by_cases hb:k=d
 ·rw[if_pos hb] at this ⊢;exact hv _ _ _ _ this
 ·rw[if_neg hb] at this ⊢;exact this
theorem bn.can {d:Nat} {e:Dt} {τ:St} (h:bn P n o σ (τ.put d (.dat T e))):bn P n o σ (τ.put d (.dat T (canD P T e))):=
 h.weak fun ok w β z hz=>hz.can
inductive BldL (P:Program) (σ:St) (fs:Array Field):List (Nat×Operand)→List AV→List AV→Prop where
 |nil {vs:List AV}:BldL P σ fs [] vs vs
 |cons {i:Nat} {f:Field} {x:Operand} {v:AV} {r:List (Nat×Operand)} {vs out:List AV} (hf:fs[i]? =some f) (hx:Ev P σ x v) (hv0:v≠ .dead) (hv1:∀us,v≠ .tup us)
  (hs:∀(ok:Nat→Prop) (w:World) (β:Nat→Option Value) (cs:List Value),RA P ok w β v cs→(v.isAgg P=false→cs.length=1)→cs.length=P.cellsOf f.type)
  (h:BldL P σ fs r (vs.set i v) out):BldL P σ fs ((i,x)::r) vs out
def UM (P:Program) (fs:Array Field):Bool:=fs.toList.all fun f=>P.cellsOf f.type !=0
theorem zG:∀fs:List Field,(fs.all fun f=>P.cellsOf f.type !=0)=true→fs.mapM (fun f=>(P.info? f.type).map fun i=>(f.offset,i.size))=some (fs.map fun f=>(f.offset,P.cellsOf f.type))
 | [],_=>rfl
 |f::r,h=>by
  simp only[List.all_cons,Bool.and_eq_true,bne_iff_ne,ne_eq] at h
  cases hi:P.info? f.type with
  |none=>simp[Program.cellsOf,hi] at h
  |some i=>
   simp[List.mapM_cons,hi,zG r h.2,Program.cellsOf]
theorem UN (off:Nat) (us cells:Array Value) (h:off+us.size≤cells.size):(us.zipIdx.foldl (fun cs (x:Value×Nat)=>cs.setIfInBounds (off+x.2) x.1) cells)=(splice cells.toList off us.toList).toArray:=by
 have hf:=Great.foldl_set off us.toList 0 cells
 rw[←Array.foldl_toList,Array.toList_zipIdx]
 apply Array.ext'
 apply List.ext_getElem?
 intro k
 rw[Array.getElem?_toList,hf.2 k,List.toList_toArray,jk (by simpa using h)]
 simp only[Nat.add_zero,Array.length_toList,Array.getElem?_toList]
 by_cases h1:off≤k∧k<off+us.size
 ·rw[if_pos ⟨h1.1,h1.2,by omega⟩,if_pos h1]
 ·rw[if_neg (by omega),if_neg h1]
theorem BldL.sound {fs:Array Field} (hu:P.underlying T=some (.struct fs)) (hlay:layB P T fs=true) {parts:List (Nat×Operand)} {vs out:List AV} (h:BldL P σ fs parts vs out) {ok0:OkX} {w0 w:World} {a:Act} {β:Nat→Option Value} (r:RelB P ok0 w0 n σ a w β):
   ∀(cells:Array Value),RA P (okOf ok0 w0 w σ.hs β) w β (.agg T vs) cells.toList→
    ∃c',Instr.fill ((fs.toList.map fun f=>(f.offset,P.cellsOf f.type)).toArray[·]?) cells (parts.map fun p=>(p.1,a.eval p.2))=some c'∧RA P (okOf ok0 w0 w σ.hs β) w β (.agg T out) c'.toList:=by
 induction h with
 |nil=>intro cells hc;exact⟨cells,rfl,hc⟩
 | @cons i f x v r' vs out hf hx hv0 hv1 hs _ ih=>
   intro cells hc
   have hv:=RV.to1 hv0 hv1 (hx _ _ _ _ _ _ r)
   have hvc:=hv.cells
   have hsz:(a.eval x).cells.size=P.cellsOf f.type:=by
    have:=hs _ _ _ _ hvc (fun hi=>by
        have hr:=hv.2 hi
        have h1':=hr.oneCell (a.eval x) (by simp)
        generalize a.eval x=z at h1'
        cases z<;>simp_all [Value.cells,Value.oneCell'])
    simpa using this
   have hlen:cells.size=P.cellsOf T:=by cases hc with|agg _ _ hc _ _=>simpa using hc
   have hold:∃old,vs[i]? =some old:=by
    cases hc with
    |   agg hu' hl _ _ _=>
        rw[hu] at hu';cases hu'
        have:i<vs.length:=by rw[hl];exact(Array.getElem?_eq_some_iff.1 hf).1
        exact⟨_,List.getElem?_eq_getElem this⟩
   obtain⟨old,hold⟩:=hold
   obtain⟨h2,h3⟩:=(SetAt.agg (v:=v) (T':=f.type) hu hlay hf hold (.nil (c:=old))).sound hvc (by simpa using hsz) hc (by simpa using hlen)
   rw[Nat.add_zero] at h2 h3
   obtain⟨c',h4,h5⟩:=ih (splice cells.toList f.offset (a.eval x).cells.toList).toArray (by simpa using h3)
   refine⟨c',?_,h5⟩
   simp only[List.map_cons]
   unfold Instr.fill
   have hpl:((fs.toList.map fun f=>(f.offset,P.cellsOf f.type)).toArray)[i]? =some (f.offset,P.cellsOf f.type):=by simp[hf]
   simp only[hpl]
   rw[if_neg (by simp[hsz];omega),UN f.offset _ _ (by omega)]
   exact h4
theorem aea {d:Nat} {fs:Array Field} {parts:Array (Nat×Operand)} {vs out:List AV} (ho:o.op= .build T parts) (hd:o.dst=some d) (hn:d<n) (hu:P.underlying T=some (.struct fs)) (hlay:layB P T fs=true) (hof:UM P fs=true)
  (hz:ZeroA P T (.agg T vs)) (hb:BldL P σ fs parts.toList vs out):bn P n o σ (σ.put d (.agg T out)):=
 aG hd hn fun ok0 w0 a w β r=>by
  obtain⟨i,zv,hinf,hzv,hzs,hzrd⟩:=hz.ex
  have hra:RA P (okOf ok0 w0 w σ.hs β) w β (.agg T vs) zv.cells.toList:=hzrd _ _ _
  obtain⟨c',h4,h5⟩:=hb.sound hu hlay r zv.cells hra
  have hbuilt:P.built T (parts.map fun(p:Nat×Operand)=>(p.1,a.eval p.2)).toList=some c':=by
   unfold Program.built
   simp only[hinf,hu,hzv,zG fs.toList hof]
   rw[Array.toList_map]
   exact h4
  have hrun:=run_build (P:=P) w T _ c' hbuilt
  refine⟨.agg c',?_,⟨fun _=>⟨c'.toList,by simp,h5⟩,fun hi=>by simp[AV.isAgg,tC hu] at hi⟩⟩
  simp only[execOp,ho,Sem.run_bind,hrun,Result.andThen_ok,Sem.run_pure]
theorem aeb {d i:Nat} {S:TypeId} {fs:Array Field} {f:Field} {e:Dt} {D:TypeDesc} (ho:o.op= .field S x i) (hd:o.dst=some d) (hn:d<n) (hu:P.underlying S=some (.struct fs)) (hf:fs[i]? =some f) (huf:P.underlying f.type=some D)
  (h1:bW P f.type=false→P.cellsOf f.type=1) (hb:f.offset+P.cellsOf f.type≤P.cellsOf S) (hx:Ev P σ x (.dat S e)):bn P n o σ (σ.put d (.dat f.type (e.fld i))):=
 aG hd hn fun ok0 w0 a w β r=>by
  obtain⟨cs,ex,hrd⟩:=(RV.dat_agg (tC hu)).1 (hx _ _ _ _ _ _ r)
  obtain⟨_,hlen,_,hfld⟩:=hrd.agg_inv hu
  have hfr:=hfld i f hf
  cases hT:bW P f.type with
  |true=>
   have hag:(isAgg f.type).run P w= .ok true w:=by
        unfold isAgg
        rw[Sem.run_bind,run_underlying huf w]
        unfold bW at hT
        rw[huf] at hT
        cases D<;>simp_all
   have hinf:∃i,P.info? f.type=some i:=by
        unfold Program.underlying at huf
        cases hi:P.info? f.type with
        |none=>simp[hi] at huf
        |some i=>exact⟨i,rfl⟩
   obtain⟨inf,hinf⟩:=hinf
   refine⟨.agg ((cs.drop f.offset).take (P.cellsOf f.type)).toArray,?_,(RV.dat_agg hT).2 ⟨_,rfl,hfr⟩⟩
   have hs:(sizeOf f.type).run P w= .ok (P.cellsOf f.type) w:=by simp[sizeOf,typeInfo,hinf,Program.cellsOf]
   have hext:cs.toArray.extract f.offset (f.offset+P.cellsOf f.type)=((cs.drop f.offset).take (P.cellsOf f.type)).toArray:=by
        apply Array.ext'
        simp
   simp only[execOp,ho,ex,Instr.field,Sem.run_bind,run_underlying hu,Result.andThen_ok,hf,asAgg,Sem.run_pure,part,hag,hs,if_true,hext]
  |false=>
   have hag:(isAgg f.type).run P w= .ok false w:=by
        unfold isAgg
        rw[Sem.run_bind,run_underlying huf w]
        unfold bW at hT
        rw[huf] at hT
        cases D<;>simp_all
   have h1':=h1 hT
   have hlt:f.offset<cs.length:=by omega
   have hone:(cs.drop f.offset).take (P.cellsOf f.type)=[cs[f.offset]]:=by
        rw[h1',List.drop_eq_getElem_cons hlt];rfl
   rw[hone] at hfr
   refine⟨cs[f.offset],?_,(RV.dat_one hT).2 hfr⟩
   simp[execOp,ho,ex,Instr.field,run_underlying hu,hf,asAgg,part,hag,hlt]
theorem Qb {D:TypeDesc} (w:World) (hu:P.underlying T=some D):(isAgg T).run P w= .ok (bW P T) w:=by
 unfold isAgg bW
 rw[Sem.run_bind,run_underlying hu w,hu]
 cases D<;>simp
theorem UO {d len:Nat} {E TI:TypeId} {k:IntKind} {i:Int} {e q:Dt} {D:TypeDesc} (ho:o.op= .index T x y) (hd:o.dst=some d) (hn:d<n) (hu:P.underlying T=some (.array len E)) (huE:P.underlying E=some D)
  (h1:bW P E=false→P.cellsOf E=1) (hT:P.cellsOf T=len*P.cellsOf E) (hi:P.underlying TI=some (.int k)) (hx:Ev P σ x (.dat T e)) (hy:Ev P σ y (.dat TI (.int i))) (h0:0≤i) (hq:e.toLst[i.toNat]? =some q):bn P n o σ (σ.put d (.dat E q)):=
 aG hd hn fun ok0 w0 a w β r=>by
  obtain⟨cs,ex,hrd⟩:=(RV.dat_agg (ND hu)).1 (hx _ _ _ _ _ _ r)
  obtain⟨_,hl,hlen,_,hel⟩:=hrd.arr_inv hu
  obtain⟨_,ey,_⟩:=RV.int hi (hy _ _ _ _ _ _ r)
  simp only[Dt.toInt] at ey
  have hfr:=hel i.toNat q hq
  have hlt:i.toNat<len:=by rw[←hl];exact(List.getElem?_eq_some_iff.1 hq).1
  have hb:0≤i∧i<(len:Int):=⟨h0,by omega⟩
  obtain⟨inf,hinf⟩:∃i,P.info? E=some i:=by
   unfold Program.underlying at huE
   cases hi:P.info? E with
   |none=>simp[hi] at huE
   |some i=>exact⟨i,rfl⟩
  have hs:(sizeOf E).run P w= .ok (P.cellsOf E) w:=by simp[sizeOf,typeInfo,hinf,Program.cellsOf]
  have hmul:(i.toNat+1)*P.cellsOf E≤len*P.cellsOf E:=Nat.mul_le_mul_right _ hlt
  rw[Nat.add_mul,Nat.one_mul] at hmul
  cases hTE:bW P E with
  |true=>
   have hag:(isAgg E).run P w= .ok true w:=by
        rw[Qb w huE,hTE]
   refine⟨.agg ((cs.drop (i.toNat*P.cellsOf E)).take (P.cellsOf E)).toArray,?_,(RV.dat_agg hTE).2 ⟨_,rfl,hfr⟩⟩
   have hext:cs.toArray.extract (i.toNat*P.cellsOf E) (i.toNat*P.cellsOf E+P.cellsOf E)=((cs.drop (i.toNat*P.cellsOf E)).take (P.cellsOf E)).toArray:=by
        apply Array.ext'
        simp
   simp only[execOp,ho,ex,ey,Instr.index,asIntOf,Sem.run_bind,Sem.run_pure,run_underlying hu,Result.andThen_ok,if_pos hb,hs,part,hag,if_true,hext]
  |false=>
   have hag:(isAgg E).run P w= .ok false w:=by
        rw[Qb w huE,hTE]
   have h1':=h1 hTE
   obtain⟨off,hoff⟩:∃off,i.toNat*P.cellsOf E=off:=⟨_,rfl⟩
   rw[hoff,h1'] at hfr
   have hlt2:off<cs.length:=by omega
   have hone:(cs.drop off).take 1=[cs[off]]:=by
        rw[List.drop_eq_getElem_cons hlt2];rfl
   rw[hone] at hfr
   refine⟨cs[off],?_,(RV.dat_one hTE).2 hfr⟩
   have hget:cs[off]? =some cs[off]:=List.getElem?_eq_getElem hlt2
   simp[execOp,ho,ex,ey,Instr.index,asIntOf,run_underlying hu,hb,hs,part,hag,hoff,hget]
def X8 (P:Program) (σ:St):Option Operand→Int→Prop
 |none,i=>i=0
 |some x,i=>∃TI k,P.underlying TI=some (.int k)∧Ev P σ x (.dat TI (.int i))
def aec (P:Program) (σ:St) (m:Nat):Option Operand→Int→Prop
 |none,i=>i=m
 |some x,i=>∃TI k,P.underlying TI=some (.int k)∧Ev P σ x (.dat TI (.int i))
theorem run_sliceBound (w:World) {k:IntKind} {i:Int} {m:Nat} (c:BoundsCode) (h0:0≤i) (h:i≤m):(Instr.sliceBound (.int k i) m c).run P w= .ok i.toNat w:=by
 simp only[Instr.sliceBound,asIntOf,Sem.run_bind,Sem.run_pure,Result.andThen_ok]
 rw[if_pos ⟨h0,h⟩]
 rfl
theorem Dm {ok0:OkX} {w0 w:World} {a:Act} {β:Nat→Option Value} (r:RelB P ok0 w0 n σ a w β) {lo hi:Option Operand} {i j:Int} {len cap:Nat} (s:Bool) (hlo:X8 P σ lo i) (hhi:aec P σ len hi j) (h0:0≤i) (hij:i≤j) (hj:j≤len) (hc:len≤cap):
  (Instr.sliceBounds s len cap (lo.map a.eval) (hi.map a.eval) none).run P w= .ok (i.toNat,j.toNat,cap) w:=by
 cases hi with
 |none=>
  have e:j=len:=hhi
  subst e
  cases lo with
  |none=>have e:i=0:=hlo;subst e;simp[Instr.sliceBounds]
  |some x=>
   obtain⟨TI,k,hu,hx⟩:=hlo
   obtain⟨_,e,_⟩:=RV.int hu (hx _ _ _ _ _ _ r)
   simp only[Dt.toInt] at e
   simp[Instr.sliceBounds,e,run_sliceBound w _ h0 hij]
 |some y=>
  obtain⟨TJ,k',hu',hy⟩:=hhi
  obtain⟨_,e',_⟩:=RV.int hu' (hy _ _ _ _ _ _ r)
  simp only[Dt.toInt] at e'
  have hjc:j≤(cap:Int):=by omega
  have hj0:0≤j:=by omega
  cases lo with
  |none=>have e:i=0:=hlo;subst e;simp[Instr.sliceBounds,e',run_sliceBound w _ hj0 hjc]
  |some x=>
   obtain⟨TI,k,hu,hx⟩:=hlo
   obtain⟨_,e,_⟩:=RV.int hu (hx _ _ _ _ _ _ r)
   simp only[Dt.toInt] at e
   have hij':i≤(j.toNat:Int):=by omega
   simp[Instr.sliceBounds,e,e',run_sliceBound w _ hj0 hjc,run_sliceBound w _ h0 hij']
theorem RP {d:Nat} {T3:TypeId} {lo hi:Option Operand} {i j:Int} {p:ByteArray} (ho:o.op= .slice T x lo hi none) (hd:o.dst=some d) (hn:d<n) (hu:P.underlying T=some .string) (hu3:P.underlying T3=some .string) (hx:Ev P σ x (.dat T3 (.str p)))
  (hlo:X8 P σ lo i) (hhi:aec P σ p.size hi j) (h0:0≤i) (hij:i≤j) (hj:j≤p.size):bn P n o σ (σ.put d (.dat T3 (.str (p.extract i.toNat j.toNat)))):=
 aG hd hn fun ok0 w0 a w β r=>by
  obtain⟨_,e1,b1⟩:=RV.str hu3 (hx _ _ _ _ _ _ r)
  simp only[Dt.toStr] at e1 b1
  have hb:=Dm (cap:=p.size) r false hlo hhi h0 hij hj (Nat.le_refl _)
  refine⟨.string (p.extract i.toNat j.toNat),?_,RV.mk_str hu3 (by rw[ByteArray.size_extract];omega)⟩
  simp[execOp,ho,e1,Instr.sliceAt,Instr.slice,run_underlying hu,hb]
theorem RQ {d:Nat} {T3 E:TypeId} {lo hi:Option Operand} {i j:Int} {es:List Dt} (ho:o.op= .slice T x lo hi none) (hd:o.dst=some d) (hn:d<n) (hu:P.underlying T=some (.slice E)) (hu3:P.underlying T3=some (.slice E)) (h0c:P.cellsOf E≠0)
  (hx:Ev P σ x (.dat T3 (.lst es))) (hlo:X8 P σ lo i) (hhi:aec P σ es.length hi j) (h0:0≤i) (hij:i≤j) (hj:j≤es.length):bn P n o σ (σ.put d (.dat T3 (.lst ((es.drop i.toNat).take (j.toNat-i.toNat))))):=
 aG hd hn fun ok0 w0 a w β r=>by
  have hrd:=(RV.dat_one (bJ hu3 rfl)).1 (hx _ _ _ _ _ _ r)
  obtain⟨_,ao,cap,ad,g,hcs,hlc,hm,ha,hg,hr⟩:=hrd.lst_inv hu3
  simp only[Dt.toLst] at hcs hlc ha hg hr
  have ex:a.eval x= .slice ao es.length cap:=by simpa using hcs
  have hb:=Dm (cap:=cap) r true hlo hhi h0 hij hj hlc
  cases hinf:P.info? E with
  |none=>simp[Program.cellsOf,hinf] at h0c
  |some inf=>
   have hs:inf.size=P.cellsOf E:=by simp[Program.cellsOf,hinf]
   refine⟨.slice (if cap=i.toNat then ao else ao.map (·.add (i.toNat*P.cellsOf E))) (j.toNat-i.toNat) (cap-i.toNat),?_,(RV.dat_one (bJ hu3 rfl)).2 ?_⟩
   ·simp[execOp,ho,ex,Instr.sliceAt,Instr.slice,run_underlying hu,hb,sizeOf,typeInfo,hinf,hs]
   ·    refine .lst (ad.add (i.toNat*P.cellsOf E)) (fun k=>g (i.toNat+k)) hu3 ?_ (by omega) (by omega) (fun hp=>?_) (fun k hk=>?_) (fun k d' hd'=>?_)
        ·simp only[List.length_take,List.length_drop];omega
        ·obtain⟨h1,h2⟩:=ha (by omega)
         rw[if_neg (by omega),h1,block_add]
         exact⟨rfl,h2⟩
        ·obtain⟨h1,h2,h3⟩:=hg (i.toNat+k) (by omega)
         refine⟨h1,h2,fun q u hq=>?_⟩
         rw[add_add]
         have:=h3 q u hq
         rw[Nat.add_mul] at this
         rw[←Nat.add_assoc]
         exact this
        ·rw[List.getElem?_take] at hd'
         split at hd'
         ·rw[List.getElem?_drop] at hd'
          exact hr _ _ hd'
         ·cases hd'
end
end Go.Am
namespace Go.Am
open Go.RowKit
def CW (P:Program) (n:Nat) (c:Code) (σ:St) (Ψ:Exit→St→Prop):Prop:=
 ∀(ok0:OkX) (w0:World) (a:Act) (w:World),Rel P ok0 w0 n σ a w→∀Q:Exit→Act→World→Prop,(∀e σ' a' w',Ψ e σ'→Rel P ok0 w0 n σ' a' w'→Q e a' w')→c.wp P Q a w
def CR (P:Program) (n:Nat) (c:Code) (k:Nat) (σ:St) (Ψ:Exit→St→Prop):Prop:=
 ∀(ok0:OkX) (w0:World) (a:Act) (w:World),Rel P ok0 w0 n σ a w→∀Q:Exit→Act→World→Prop,(∀e σ' a' w',Ψ e σ'→Rel P ok0 w0 n σ' a' w'→Q e a' w')→Code.rounds P c Q k a w
def Imp (P:Program) (n:Nat) (σ σ':St):Prop:=∀(ok0:OkX) (w0:World) (a:Act) (w:World),Rel P ok0 w0 n σ a w→Rel P ok0 w0 n σ' a w
def anE (K:St→Prop) (Ψ:Exit→St→Prop):Exit→St→Prop
 | .normal,τ=>K τ
 |e,τ=>Ψ e τ
def ai0 (id:Nat) (Ψ:Exit→St→Prop):Exit→St→Prop
 | .exit id',τ=>bif Nat.beq id' id then Ψ .normal τ else Ψ (.exit id') τ
 |e,τ=>Ψ e τ
section
variable {P:Program} {n:Nat} {c c1 c2:Code} {σ τ:St} {Ψ Ψ':Exit→St→Prop} {x y:Operand} {v:AV} {T:TypeId} {o:Oper}
theorem CW.skip (h:Ψ .normal σ):CW P n .skip σ Ψ:=fun _ _ _ _ r _ hQ=>wp_skip (hQ _ _ _ _ h r)
theorem CW.label {l:Nat} (h:Ψ .normal σ):CW P n (.label l) σ Ψ:=fun _ _ _ _ r _ hQ=>wp_label (hQ _ _ _ _ h r)
theorem CW.ret (h:Ψ .ret σ):CW P n .ret σ Ψ:=fun _ _ _ _ r _ hQ=>wp_ret (hQ _ _ _ _ h r)
theorem CW.exit {id:Nat} (h:Ψ (.exit id) σ):CW P n (.exit id) σ Ψ:=fun _ _ _ _ r _ hQ=>wp_exit (hQ _ _ _ _ h r)
theorem CW.mono (h:CW P n c σ Ψ) (hp:∀e τ,Ψ e τ→Ψ' e τ):CW P n c σ Ψ':=fun ok0 w0 a w r Q hQ=>h ok0 w0 a w r Q fun e s a' w' hs=>hQ e s a' w' (hp e s hs)
theorem CW.imp (hi:Imp P n σ τ) (h:CW P n c τ Ψ):CW P n c σ Ψ:=fun ok0 w0 a w r Q hQ=>h ok0 w0 a w (hi ok0 w0 a w r) Q hQ
theorem CW.seq (h:CW P n c1 σ (anE (fun τ=>CW P n c2 τ Ψ) Ψ)):CW P n (.seq c1 c2) σ Ψ:=fun ok0 w0 a w r Q hQ=>wp_seq (h ok0 w0 a w r _ fun e s a' w' hs r'=>by
 cases e with
 |normal=>exact hs ok0 w0 a' w' r' Q hQ
 |exit id=>exact hQ _ _ _ _ hs r'
 |goto l=>exact hQ _ _ _ _ hs r'
 |ret=>exact hQ _ _ _ _ hs r'
 |panic ch=>exact hQ _ _ _ _ hs r'
 |outgrown=>exact hQ _ _ _ _ hs r')
theorem CW.condT {TB:TypeId} {b:Bool} (hu:P.underlying TB=some .bool) (hx:Ev P σ x (.dat TB (.bool b))) (hb:b=true) (h:CW P n c1 σ Ψ):CW P n (.cond x c1 c2) σ Ψ:=fun ok0 w0 a w r Q hQ=>by
 obtain⟨β,r'⟩:=r
 have e:=(RV.bool hu (hx _ _ _ _ _ _ r')).2
 simp only[Dt.toBool,hb] at e
 exact wp_cond_true e (h ok0 w0 a w ⟨β,r'⟩ Q hQ)
theorem CW.condF {TB:TypeId} {b:Bool} (hu:P.underlying TB=some .bool) (hx:Ev P σ x (.dat TB (.bool b))) (hb:b=false) (h:CW P n c2 σ Ψ):CW P n (.cond x c1 c2) σ Ψ:=fun ok0 w0 a w r Q hQ=>by
 obtain⟨β,r'⟩:=r
 have e:=(RV.bool hu (hx _ _ _ _ _ _ r')).2
 simp only[Dt.toBool,hb] at e
 exact wp_cond_false e (h ok0 w0 a w ⟨β,r'⟩ Q hQ)
theorem CW.block {id:Nat} (h:CW P n c σ (ai0 id Ψ)):CW P n (.block id c) σ Ψ:=fun ok0 w0 a w r Q hQ=>wp_block (h ok0 w0 a w r _ fun e s a' w' hs r'=>by
 cases e with
 |normal=>exact hQ _ _ _ _ hs r'
 |exit id'=>
  simp only[ai0] at hs
  simp only[Exit.inBlock]
  cases hb:Nat.beq id' id with
  |true=>
   have:=Nat.eq_of_beq_eq_true hb
   rw[hb] at hs
   rw[if_pos this]
   exact hQ _ _ _ _ hs r'
  |false=>
   rw[hb] at hs
   rw[if_neg (fun e=>by subst e;simp at hb)]
   exact hQ _ _ _ _ hs r'
 |goto l=>exact hQ _ _ _ _ hs r'
 |ret=>exact hQ _ _ _ _ hs r'
 |panic ch=>exact hQ _ _ _ _ hs r'
 |outgrown=>exact hQ _ _ _ _ hs r')
theorem CR.step {k:Nat} (h:CW P n c σ (anE (fun τ=>CR P n c k τ Ψ) Ψ)):CR P n c (k+1) σ Ψ:=fun ok0 w0 a w r Q hQ=>by
 rw[rounds_succ]
 exact h ok0 w0 a w r _ fun e s a' w' hs r'=>by
  cases e with
  |normal=>exact hs ok0 w0 a' w' r' Q hQ
  |exit id=>exact hQ _ _ _ _ hs r'
  |goto l=>exact hQ _ _ _ _ hs r'
  |ret=>exact hQ _ _ _ _ hs r'
  |panic ch=>exact hQ _ _ _ _ hs r'
  |outgrown=>exact hQ _ _ _ _ hs r'
theorem CW.loop {k:Nat} (h:CR P n c k σ Ψ):CW P n (.loop c) σ Ψ:=fun ok0 w0 a w r Q hQ=>wp_loop_rounds k (h ok0 w0 a w r Q hQ)
theorem CW.scope (h:CW P n c σ Ψ) (hg:∀l τ,¬Ψ (.goto l) τ):CW P n (.scope c) σ Ψ:=fun ok0 w0 a w r Q hQ=>wp_scope_straight (h ok0 w0 a w r _ fun e s a' w' hs r'=>by
 cases e with
 |goto l=>exact absurd hs (hg l s)
 |normal=>exact hQ _ _ _ _ hs r'
 |exit id=>exact hQ _ _ _ _ hs r'
 |ret=>exact hQ _ _ _ _ hs r'
 |panic ch=>exact hQ _ _ _ _ hs r'
 |outgrown=>exact hQ _ _ _ _ hs r')
theorem UQ (hg:o.guard=none) (f:Nat→Option Bool):Region.wanted o f=true:=by simp[Region.wanted,hg]
theorem Ae {ops:Array Oper} {oj:Oper} {j dj:Nat} {want b:Bool} {TB:TypeId} (hg:o.guard=some (j,want)) (hj:ops[j]? =some oj) (hdj:oj.dst=some dj) (hu:P.underlying TB=some .bool) (ht:tk σ.ts dj= .dat TB (.bool b))
  {ok0:OkX} {w0 w:World} {a:Act} {β:Nat→Option Value} (r:RelB P ok0 w0 n σ a w β):Region.wanted o (yielded ops a.tmps)=(b==want):=by
 have h:=r.ts dj
 rw[ht] at h
 have e:=(RV.bool hu h).2
 simp only[Dt.toBool] at e
 have hlt:dj<a.tmps.size:=by
  rcases Nat.lt_or_ge dj a.tmps.size with h1|h1
  ·exact h1
  ·rw[Array.getD_eq_getD_getElem?,Array.getElem?_eq_none h1] at e
   simp[undef] at e
 have e2:a.tmps[dj]? =some (.bool b):=by
  rw[Array.getD_eq_getD_getElem?,Array.getElem?_eq_getElem hlt] at e
  rw[Array.getElem?_eq_getElem hlt]
  simpa using e
 simp only[Region.wanted,hg,yielded,hj,Option.bind_some,hdj,e2]
 cases b<;>cases want<;>rfl
def StepOK (P:Program) (n:Nat) (ops:Array Oper) (o:Oper) (σ σ':St):Prop:=
 ∀  (ok0:OkX) (w0:World) (a:Act) (w:World),Rel P ok0 w0 n σ a w→∀(K:Act→World→Prop) (Q:Exit→Act→World→Prop),
    (∀a' w',Rel P ok0 w0 n σ' a' w'→K a' w')→if Region.wanted o (yielded ops a.tmps) then o.wp P a w K Q else K (a.put o.dst undef) w
theorem StepOK.plain {ops:Array Oper} {σ':St} (hg:o.guard=none) (h:bn P n o σ σ'):StepOK P n ops o σ σ':=fun ok0 w0 a w r K Q hK=>by
 rw[if_pos (UQ hg _)]
 exact h ok0 w0 a w r K Q hK
theorem StepOK.run {ops:Array Oper} {σ':St} {oj:Oper} {j dj:Nat} {want b:Bool} {TB:TypeId} (hg:o.guard=some (j,want)) (hj:ops[j]? =some oj) (hdj:oj.dst=some dj) (hu:P.underlying TB=some .bool) (ht:tk σ.ts dj= .dat TB (.bool b)) (hb:b=want)
  (h:bn P n o σ σ'):StepOK P n ops o σ σ':=fun ok0 w0 a w r K Q hK=>by
 obtain⟨β,r'⟩:=r
 rw[if_pos (by rw[Ae hg hj hdj hu ht r'];simp[hb])]
 exact h ok0 w0 a w ⟨β,r'⟩ K Q hK
theorem StepOK.skip {ops:Array Oper} {oj:Oper} {d j dj:Nat} {want b:Bool} {TB:TypeId} (hg:o.guard=some (j,want)) (hj:ops[j]? =some oj) (hdj:oj.dst=some dj) (hu:P.underlying TB=some .bool) (ht:tk σ.ts dj= .dat TB (.bool b)) (hb:b=!want)
  (hd:o.dst=some d) (hn:d<n):StepOK P n ops o σ (σ.put d (.tup [])):=fun ok0 w0 a w r K Q hK=>by
 obtain⟨β,r'⟩:=r
 rw[if_neg (by rw[Ae hg hj hdj hu ht r'];cases want<;>simp[hb]),hd]
 exact hK _ _ ⟨β,r'.put hn ⟨#[],rfl,rfl,fun i av hv=>by simp at hv⟩⟩
theorem EL {ops:Array Oper} {oj:Oper} {j dj:Nat} {want:Bool} (hg:o.guard=some (j,want)) (hj:ops[j]? =some oj) (hdj:oj.dst=some dj) (ht:tk σ.ts dj= .tup [])
  {ok0:OkX} {w0 w:World} {a:Act} {β:Nat→Option Value} (r:RelB P ok0 w0 n σ a w β):Region.wanted o (yielded ops a.tmps)=false:=by
 have h:=r.ts dj
 rw[ht] at h
 obtain⟨arr,e,hs,_⟩:=h
 have e2:yielded ops a.tmps j=none:=by
  simp only[yielded,hj,Option.bind_some,hdj]
  rcases Nat.lt_or_ge dj a.tmps.size with h1|h1
  ·rw[Array.getD_eq_getD_getElem?,Array.getElem?_eq_getElem h1] at e
   rw[Array.getElem?_eq_getElem h1]
   simp only[Option.getD_some] at e
   rw[e]
  ·rw[Array.getElem?_eq_none h1]
 simp only[Region.wanted,hg,e2]
 rfl
theorem StepOK.skipU {ops:Array Oper} {oj:Oper} {d j dj:Nat} {want:Bool} (hg:o.guard=some (j,want)) (hj:ops[j]? =some oj) (hdj:oj.dst=some dj) (ht:tk σ.ts dj= .tup [])
  (hd:o.dst=some d) (hn:d<n):StepOK P n ops o σ (σ.put d (.tup [])):=fun ok0 w0 a w r K Q hK=>by
 obtain⟨β,r'⟩:=r
 rw[if_neg (by rw[EL hg hj hdj ht r'];simp),hd]
 exact hK _ _ ⟨β,r'.put hn ⟨#[],rfl,rfl,fun i av hv=>by simp at hv⟩⟩
theorem StepOK.skipU' {ops:Array Oper} {oj:Oper} {j dj:Nat} {want:Bool} (hg:o.guard=some (j,want)) (hj:ops[j]? =some oj) (hdj:oj.dst=some dj) (ht:tk σ.ts dj= .tup [])
  (hd:o.dst=none):StepOK P n ops o σ σ:=fun ok0 w0 a w r K Q hK=>by
 obtain⟨β,r'⟩:=r
 rw[if_neg (by rw[EL hg hj hdj ht r'];simp),hd]
 exact hK _ _ ⟨β,r'⟩
theorem StepOK.skip' {ops:Array Oper} {oj:Oper} {j dj:Nat} {want b:Bool} {TB:TypeId} (hg:o.guard=some (j,want)) (hj:ops[j]? =some oj) (hdj:oj.dst=some dj) (hu:P.underlying TB=some .bool) (ht:tk σ.ts dj= .dat TB (.bool b)) (hb:b=!want)
  (hd:o.dst=none):StepOK P n ops o σ σ:=fun ok0 w0 a w r K Q hK=>by
 obtain⟨β,r'⟩:=r
 rw[if_neg (by rw[Ae hg hj hdj hu ht r'];cases want<;>simp[hb]),hd]
 exact hK _ _ ⟨β,r'⟩
theorem Imp.refl:Imp P n σ σ:=fun _ _ _ _ r=>r
theorem Imp.trans {σ':St} (h:Imp P n σ τ) (k:Imp P n τ σ'):Imp P n σ σ':=fun _ _ _ _ r=>k _ _ _ _ (h _ _ _ _ r)
theorem bn.pre {σ':St} (hi:Imp P n σ τ) (h:bn P n o τ σ'):bn P n o σ σ':=fun ok0 w0 a w r K Q hK=>h ok0 w0 a w (hi _ _ _ _ r) K Q hK
theorem bn.post {σ':St} (h:bn P n o σ τ) (hi:Imp P n τ σ'):bn P n o σ σ':=fun ok0 w0 a w r K Q hK=>h ok0 w0 a w r K Q fun a' w' r'=>hK a' w' (hi _ _ _ _ r')
theorem StepOK.post {ops:Array Oper} {σ':St} (h:StepOK P n ops o σ τ) (hi:Imp P n τ σ'):StepOK P n ops o σ σ':=fun ok0 w0 a w r K Q hK=>h ok0 w0 a w r K Q fun a' w' r'=>hK a' w' (hi _ _ _ _ r')
theorem CR.imp {k:Nat} (hi:Imp P n σ τ) (h:CR P n c k τ Ψ):CR P n c k σ Ψ:=fun ok0 w0 a w r Q hQ=>h ok0 w0 a w (hi ok0 w0 a w r) Q hQ
theorem CR.mono {k:Nat} (h:CR P n c k σ Ψ) (hp:∀e τ,Ψ e τ→Ψ' e τ):CR P n c k σ Ψ':=fun ok0 w0 a w r Q hQ=>h ok0 w0 a w r Q fun e s a' w' hs=>hQ e s a' w' (hp e s hs)
def LW (P:Program) (n:Nat) (ops:Array Oper) (l:List Oper) (σ:St) (Ψ:St→Prop):Prop:=
 ∀(ok0:OkX) (w0:World) (a:Act) (w:World),Rel P ok0 w0 n σ a w→∀Q:Exit→Act→World→Prop,(∀τ a' w',Ψ τ→Rel P ok0 w0 n τ a' w'→Q .normal a' w')→wpList P ops Q l a w
theorem LW.nil {ops:Array Oper} {Φ:St→Prop} (h:Φ σ):LW P n ops [] σ Φ:=fun _ _ a w r Q hQ=>wpList_nil (hQ σ a w h r)
theorem LW.cons {ops:Array Oper} {l:List Oper} {Φ:St→Prop} (h:StepOK P n ops o σ τ) (r:LW P n ops l τ Φ):LW P n ops (o::l) σ Φ:=fun ok0 w0 a w r0 Q hQ=>
 wpList_step fun K hK=>h ok0 w0 a w r0 K Q fun a' w' r'=>hK a' w' (r ok0 w0 a' w' r' Q hQ)
theorem CW.region {id:Nat} {l:List Oper} {Φ:St→Prop} (h:LW P n l.toArray l σ Φ) (hp:∀τ,Φ τ→Ψ .normal τ):CW P n (.region id l.toArray false) σ Ψ:=fun ok0 w0 a w r Q hQ=>
 wp_region_lit (h ok0 w0 a w r Q fun τ a' w' h1 r'=>hQ _ _ _ _ (hp τ h1) r')
def DepsL (L:Nat→Bool):List Edge→Prop
 | []=>True
 |e::r=>(Region.binds .any e=true→L e.on=true)∧DepsL L r
def upL (L:Nat→Bool) (i:Nat):Nat→Bool:=fun k=>bif Nat.beq k i then true else L k
def Closed (ops:Array Oper) (L:Nat→Bool):Prop:=∀(j:Nat) (oj:Oper),ops[j]? =some oj→L j=true→DepsL L oj.after.toList
inductive DrawL (P:Program) (n:Nat) (ops:Array Oper) (S:(Nat→Bool)→St):Nat→List Oper→Prop where
 |nil {i:Nat}:DrawL P n ops S i []
 |cons {i:Nat} {o:Oper} {r:List Oper} (h:∀L:Nat→Bool,L i=false→DepsL L o.after.toList→Closed ops L→∃σ',StepOK P n ops o (S L) σ'∧Imp P n σ' (S (upL L i))) (hr:DrawL P n ops S (i+1) r):DrawL P n ops S i (o::r)
theorem DrawL.get {ops:Array Oper} {S:(Nat→Bool)→St} {k:Nat} {l:List Oper} (h:DrawL P n ops S k l):∀(j:Nat) (o:Oper),l[j]? =some o→∀L:Nat→Bool,L (k+j)=false→DepsL L o.after.toList→Closed ops L→∃σ',StepOK P n ops o (S L) σ'∧Imp P n σ' (S (upL L (k+j))):=by
 induction h with
 |nil=>intro j o h;simp at h
 | @cons i o r h _ ih=>
   intro j o' hj
   cases j with
   |zero=>simp only[List.getElem?_cons_zero,Option.some.injEq] at hj;subst hj;exact h
   |succ j=>
    simp only[List.getElem?_cons_succ] at hj
    have:=ih j o' hj
    rw[show i+1+j=i+(j+1) by omega] at this
    exact this
def tK:Nat→List Oper→Bool
 |_,[]=>true
 |i,o::r=>(o.after.toList.all fun e=>!Region.binds .any e||Nat.blt e.on i)&&tK (i+1) r
theorem Dn:∀{l:List Oper} {k:Nat},tK k l=true→∀(j:Nat) (o:Oper),l[j]? =some o→∀e∈o.after.toList,Region.binds .any e=true→e.on<k+j
 | [],_,_,_,_,h=>by simp at h
 |o::r,k,h,0,o',hj=>by
  simp only[List.getElem?_cons_zero,Option.some.injEq] at hj
  subst hj
  simp only[tK,Bool.and_eq_true,List.all_eq_true,Bool.or_eq_true,Bool.not_eq_true'] at h
  intro e he hb
  rcases h.1 e he with h1|h1
  ·rw[hb] at h1;cases h1
  ·have:e.on<k:=by simp[Nat.blt] at h1;omega
   omega
 |o::r,k,h,j+1,o',hj=>by
  simp only[List.getElem?_cons_succ] at hj
  simp only[tK,Bool.and_eq_true] at h
  intro e he hb
  have:=Dn h.2 j o' hj e he hb
  omega
theorem DepsL.of {L:Nat→Bool}:∀{l:List Edge},(∀e∈l,Region.binds .any e=true→L e.on=true)→DepsL L l
 | [],_=>trivial
 |e::r,h=>⟨h e (by simp),DepsL.of fun e' he'=>h e' (by simp[he'])⟩
theorem DepsL.mem {L:Nat→Bool}:∀{l:List Edge},DepsL L l→∀e∈l,Region.binds .any e=true→L e.on=true
 | [],_,e,he=>by simp at he
 |e::r,h,e',he'=>by
  rcases List.mem_cons.1 he' with rfl|he'
  ·exact h.1
  ·exact DepsL.mem h.2 e' he'
theorem mem_ready {ops:Array Oper} {listed:Array Bool} {i:Nat}:i∈Region.ready .any ops listed↔i<ops.size∧listed.getD i true=false∧∃o,ops[i]? =some o∧∀e∈o.after.toList,Region.binds .any e=true→listed.getD e.on false=true:=by
 unfold Region.ready
 simp only[List.mem_filter,List.mem_range,Bool.and_eq_true,Bool.not_eq_true']
 constructor
 ·rintro⟨h1,h2,h3⟩
  refine⟨h1,h2,ops[i],by simp[h1],?_⟩
  rw[Array.getElem?_eq_getElem h1] at h3
  simp only[Option.map_some,Option.getD_some,Array.all_eq_true_iff_forall_mem] at h3
  intro e he hb
  have:=h3 e (by simpa using he)
  simp only[Bool.or_eq_true,Bool.not_eq_true'] at this
  rcases this with h4|h4
  ·rw[hb] at h4;cases h4
  ·exact h4
 ·rintro⟨h1,h2,o,ho,h3⟩
  refine⟨h1,h2,?_⟩
  rw[ho]
  simp only[Option.map_some,Option.getD_some,Array.all_eq_true_iff_forall_mem]
  intro e he
  simp only[Bool.or_eq_true,Bool.not_eq_true']
  cases hb:Region.binds .any e with
  |false=>exact .inl rfl
  |true=>exact .inr (h3 e (by simpa using he) hb)
theorem aed {l:List Oper} {S:(Nat→Bool)→St} (hback:tK 0 l=true) (hd:DrawL P n l.toArray S 0 l) {ok0:OkX} {w0:World} {Q:Exit→Act→World→Prop}
  (hfin:∀(L:Nat→Bool),(∀i,i<l.length→L i=true)→∀a w,Rel P ok0 w0 n (S L) a w→Q .normal a w):
  ∀(fuel:Nat) (listed:Array Bool) (a:Act) (w:World),listed.size=l.length→listed.toList.count false≤fuel→Closed l.toArray (fun j=>listed.getD j false)→Rel P ok0 w0 n (S fun j=>listed.getD j false) a w→wpAny P .any l.toArray Q fuel listed a w:=by
 have hall :∀listed:Array Bool,listed.size=l.length→Region.ready .any l.toArray listed=[]→∀i,i<l.length→listed.getD i false=true:=by
  intro listed hsz hr
  intro i
  induction i using Nat.strongRecOn with
  |_    i ih=>
   intro hi
   cases hc:listed.getD i false with
   |true=>rfl
   |    false=>
        exfalso
        have hne:i∈Region.ready .any l.toArray listed:=by
          refine mem_ready.2 ⟨by simpa using hi,?_,l[i],by simp[hi],fun e he hb=>?_⟩
          ·have hlt:i<listed.size:=by omega
           simp only[Array.getD,hlt,dif_pos] at hc ⊢
           exact hc
          ·have:=Dn hback i l[i] (by simp[hi]) e he hb
           exact ih e.on (by omega) (by omega)
        rw[hr] at hne
        simp at hne
 intro fuel
 induction fuel with
 |zero=>
  intro listed a w hsz hcnt hcl r
  have hnil:Region.ready .any l.toArray listed=[]:=by
   rw[List.eq_nil_iff_forall_not_mem]
   intro i hi
   obtain⟨h1,h2,_⟩:=mem_ready.1 hi
   have hlt:i<listed.size:=by rw[hsz];simpa using h1
   have h3:listed[i]=false:=by simpa [Array.getD,hlt] using h2
   have h4:List.count false listed.toList=0:=by omega
   rw[List.count_eq_zero] at h4
   exact h4 (by rw[←h3];simp)
  exact⟨hnil,hfin _ (hall listed hsz hnil) a w r⟩
 |succ fuel ih=>
  intro listed a w hsz hcnt hcl r
  refine⟨fun hnil=>hfin _ (hall listed hsz hnil) a w r,fun i hi=>?_⟩
  obtain⟨h1,h2,o,ho,h3⟩:=mem_ready.1 hi
  have hil:i<l.length:=by simpa using h1
  have hlt:i<listed.size:=by omega
  have hLi:listed.getD i false=false:=by
   have h2':listed[i]=false:=by simpa [Array.getD,hlt] using h2
   simp[Array.getD,hlt,h2']
  have ho':l[i]? =some o:=by simpa using ho
  obtain⟨σ',hstep,himp⟩:=hd.get i o ho' (fun j=>listed.getD j false) (by rw[Nat.zero_add];exact hLi) (DepsL.of h3) hcl
  rw[Nat.zero_add] at himp
  have hL:(fun j=>(listed.setIfInBounds i true).getD j false)=upL (fun j=>listed.getD j false) i:=by
   funext j
   rw[K9 _ _ _ _ _ hlt]
   simp only[upL]
   by_cases hj:j=i
   ·subst hj;simp
   ·    have:Nat.beq j i=false:=by
          cases hb:Nat.beq j i with
          |true=>exact absurd (Nat.eq_of_beq_eq_true hb) hj
          |false=>rfl
        rw[if_neg hj,this]
        rfl
  have hcl':Closed l.toArray (fun j=>(listed.setIfInBounds i true).getD j false):=by
   rw[hL]
   intro j oj hoj hLj
   simp only[upL] at hLj
   refine DepsL.of fun e he hb=>?_
   have hold:listed.getD e.on false=true:=by
        cases hb2:Nat.beq j i with
        | true=>
          have:=Nat.eq_of_beq_eq_true hb2
          subst this
          have:oj=o:=by rw[ho] at hoj;cases hoj;rfl
          subst this
          exact h3 e he hb
        | false=>
          rw[hb2] at hLj
          exact(hcl j oj hoj hLj).mem e he hb
   simp only[upL]
   cases Nat.beq e.on i with
   |true=>rfl
   |false=>exact hold
  have hcnt':(listed.setIfInBounds i true).toList.count false≤fuel:=by
   have h5:listed.toList[i]? =some false:=by
        have h2':listed[i]=false:=by simpa [Array.getD,hlt] using h2
        simp[hlt,h2']
   have h6:(listed.setIfInBounds i true).toList=listed.toList.set i true:=by simp
   rw[h6]
   have h7:=List.count_set (a:=true) (b:=false) (l:=listed.toList) (i:=i) (by simpa using hlt)
   have h8:listed.toList[i]'(by simpa using hlt)=false:=by
        have:=List.getElem?_eq_some_iff.1 h5
        exact this.2
   have hpos:0<listed.toList.count false:=List.count_pos_iff.2 (List.mem_of_getElem? h5)
   rw[h7,h8]
   show (List.count false listed.toList-1)+0≤fuel
   omega
  have hK:=fun a' w' (r':Rel P ok0 w0 n σ' a' w')=>ih (listed.setIfInBounds i true) a' w' (by simpa using hsz) hcnt' hcl' (by rw[hL];exact himp _ _ _ _ r')
  have:=hstep ok0 w0 a w r _ Q hK
  unfold wpOp
  rw[ho]
  simp only
  split
  ·rename_i hw;rw[if_pos hw] at this;exact .inl this
  ·rename_i hw;rw[if_neg hw] at this;exact this
theorem Rel.drew {ok0:OkX} {w0 w:World} {a:Act} (r:Rel P ok0 w0 n σ a w):Rel P ok0 w0 n σ a {w with drawn:=w.drawn+1}:=by
 obtain⟨β,r⟩:=r
 exact⟨β,(r.grow (w':={w with drawn:=w.drawn+1}) ⟨rfl,rfl,rfl,Nat.le_refl _,fun _ _=>rfl⟩).1⟩
theorem CW.draw {id:Nat} {l:List Oper} (S:(Nat→Bool)→St) (hm:P.follows .mixedOrders=true) (hback:tK 0 l=true) (h0:Imp P n σ (S fun _=>false)) (hd:DrawL P n l.toArray S 0 l)
  (hfin:∀L:Nat→Bool,(∀i,i<l.length→L i=true)→Ψ .normal (S L)):CW P n (.region id l.toArray true) σ Ψ:=fun ok0 w0 a w r Q hQ=>by
 refine wp_region_any hm ?_
 have hrep:∀j,(Array.replicate l.toArray.size false).getD j false=false:=by
  intro j
  simp only[Array.getD]
  split
  ·simp
  ·rfl
 have hf:(fun j=>(Array.replicate l.toArray.size false).getD j false)=fun _=>false:=funext hrep
 refine aed hback hd (fun L hL a' w' r'=>hQ _ _ _ _ (hfin L hL) r') _ _ a _ (by simp) ?_ ?_ ?_
 ·refine Nat.le_trans (List.count_le_length) (by simp)
 ·rw[hf]
  intro j oj _ hc
  cases hc
 ·rw[hf]
  exact h0 _ _ _ _ r.drew
end
end Go.Am
