/- The abstract machine, part 18: THE SOUNDNESS OF THE MACHINE. -/
import Derived.Test.YtmecfjhdnbgfeaaGreatDoorAmC
set_option linter.unusedVariables false
set_option linter.unusedSimpArgs false
namespace Go.Am
open Go.RowKit
section
variable {P:Program} {n:Nat} {σ τ:St} {R:Type} {E:Env} {call:FuncId→List AV→List Ob→(Res→Option R)→Option R} {r:R} {K:OkX} {w0 w:World} {a:Act} {β:Nat→Option Value}
theorem adY {hs:List Ob} {l k b:Nat} (h:owns (frz1 hs l) β k b):owns hs β k b:=by
 unfold frz1 at h
 split at h
 ·rename_i T es hl
  obtain⟨h1,z,h2,h3⟩:=h
  by_cases hkl:k=l
  ·subst hkl;rw[j5] at h1;cases h1
  ·rw[bX _ _ _ _ hkl] at h1;exact⟨h1,z,h2,h3⟩
 ·exact h
theorem RB:∀{ls:List Nat} {hs:List Ob} {k b:Nat},owns (frzN hs ls) β k b→owns hs β k b
 | [],_,_,_,h=>h
 |l::r,hs,k,b,h=>adY (RB (ls:=r) h)
theorem RelB.frzN:∀{ls:List Nat} {σ:St},RelB P K w0 n σ a w β→RelB P K w0 n ⟨σ.ts,frzN σ.hs ls,σ.k0⟩ a w β
 | [],_,r=>r
 |l::ls,σ,r=>by
  have:RelB P K w0 n ⟨σ.ts,frz1 σ.hs l,σ.k0⟩ a w β:=by
   unfold frz1
   split
   ·rename_i T es hl;exact r.frz hl
   ·exact r
  exact RelB.frzN (ls:=ls) this
theorem aad {f:AV→AV} (hf:f .dead= .dead):∀(ts:List AV) (k:Nat),tk (ts.map f) k=f (tk ts k)
 | [],k=>by simp[tk,hf]
 |v::r,0=>rfl
 |v::r,k+1=>by simp[tk,aad hf r k]
theorem aiA {hs:List Ob}:pkC P hs .dead= .dead:=rfl
theorem RV.pkC {ok:Nat→Prop} {w:World} {β:Nat→Option Value} {hs:List Ob} {v:AV} {z:Value} (hf:EK P ok w β hs) (hfa:∀l T es,lk hs l= .frz T es→bW P T=false) (h:RV P ok w β v z):RV P ok w β (pkC P hs v) z:=by
 unfold Am.pkC
 split
 ·rename_i T d hp;exact(h.pk hf hfa hp).can
 ·exact h
theorem Ci {q:TypeId→Bool} {hs:List Ob}:∀{os:List Ob} {k l:Nat},lk (rR P q hs k os) l=lk os l∨∃T c d,lk os l= .box T c∧pk P hs c=some (T,d)∧lk (rR P q hs k os) l= .box T (.dat T (canD P T d))
 | [],k,l=>by cases k<;>exact .inl rfl
 |o::os,k+1,0=> .inl (by cases o<;>rfl)
 |o::os,k+1,l+1=>by
  have:=Ci (q:=q) (hs:=hs) (os:=os) (k:=k) (l:=l)
  cases o<;>simpa [rR,lk] using this
 |o::os,0,l+1=>by
  have:=Ci (q:=q) (hs:=hs) (os:=os) (k:=0) (l:=l)
  cases o<;>simpa [rR,lk] using this
 |o::os,0,0=>by
  cases o with
  |box   T c=>
   simp only[rR,lk]
   cases hq:q T with
   |true=>exact .inl rfl
   |false=>
   rw[cond_false]
   split
   ·    rename_i T' d hp
        cases hb:Nat.beq T' T with
        |true=>
         have e:=beq_eq hb
         subst e
         exact .inr ⟨T',c,d,rfl,hp,rfl⟩
        |false=>exact .inl rfl
   ·exact .inl rfl
  |row T es=>exact .inl rfl
  |rowA T vs=>exact .inl rfl
  |frz T es=>exact .inl rfl
  |map T es=>exact .inl rfl
  |gone=>exact .inl rfl
  |free=>exact .inl rfl
theorem RelB.packAll {q:TypeId→Bool} (r:RelB P K w0 n σ a w β) (k:Nat):RelB P K w0 n ⟨σ.ts.map (pkC P σ.hs),rR P q σ.hs k σ.hs,σ.k0⟩ a w β:=by
 have hown:∀l b,owns (rR P q σ.hs k σ.hs) β l b→owns σ.hs β l b:=by
  rintro l b ⟨h1,z,h2,h3⟩
  rcases Ci (P:=P) (q:=q) (hs:=σ.hs) (os:=σ.hs) (k:=k) (l:=l) with e| ⟨T,c,d,e1,_,e3⟩
  ·rw[e] at h1;exact⟨h1,z,h2,h3⟩
  ·exact⟨by rw[e1];rfl,z,h2,h3⟩
 have hk:∀b,okOf K w0 w σ.hs β b→okOf K w0 w (rR P q σ.hs k σ.hs) β b∧w.heap[b]? =w.heap[b]? :=fun b hb=>⟨⟨hb.1,hb.2.1,fun l hl=>hb.2.2 l (hown l b hl)⟩,rfl⟩
 refine⟨r.size,r.defers,r.below,fun t=>?_,fun l=>?_,fun l l' b h1 h2=>r.sep l l' b (hown _ _ h1) (hown _ _ h2),fun l b h1=>r.own l b (hown _ _ h1),r.ext,r.kk,r.tab.mono hk⟩
 ·show RV P _ w β (tk (σ.ts.map (pkC P σ.hs)) t) _
  rw[aad aiA]
  exact((r.ts t).pkC r.frzOK r.frzAgg).mono hk (Ext.refl _)
 ·show ObOK P _ w β (lk (rR P q σ.hs k σ.hs) l) _
  rcases Ci (P:=P) (q:=q) (hs:=σ.hs) (os:=σ.hs) (k:=k) (l:=l) with e| ⟨T,c,d,e1,e2,e3⟩
  ·rw[e];exact(r.hs l).mono hk (fun _ _ _ _ _=>rfl) (Ext.refl _)
  ·rw[e3]
   have hob:=r.hs l
   rw[e1] at hob
   obtain⟨b,cs,q1,q2,q3,q4⟩:=hob
   have hrd:=jA r.frzOK q4 e2
   exact⟨b,cs,q1,q2,q3,.dat (by rw[F7 hrd];exact hrd.mono hk)⟩
theorem XM:∀{m k i:Nat},i<m→(upto k m)[i]? =some (k+i)
 |0,k,i,h=>by omega
 |m+1,k,0,h=>rfl
 |m+1,k,i+1,h=>by
  simp only[upto,List.getElem?_cons_succ]
  rw[XM (by omega)]
  congr 1
  omega
theorem XP:∀{m k:Nat},(upto k m).length=m
 |0,_=>rfl
 |m+1,k=>by simp[upto,XP]
theorem Ji {hs:List Ob} {k0:Nat} {vs:List AV} {i:Nat} (h:i<k0):(Js hs k0 vs)[i]? =some i:=by
 unfold Js
 rw[List.getElem?_append_left (by rw[XP];exact h),XM h,Nat.zero_add]
theorem Imp.relab:Imp P n σ (relab σ):=by
 rintro K w0 a w ⟨β,r⟩
 unfold Am.relab
 simp only
 cases hb:nodupB (Js σ.hs σ.k0 σ.ts) with
 |false=>exact⟨β,r⟩
 |true=>exact⟨_,r.relabel _ (ou hb) (fun i hi=>Ji hi) _ fun k=> .inr (aam _ _ _)⟩
theorem Imp.nilAll:∀(ls:List Nat) (σ:St),Imp P n σ (nilAll P σ ls)
 | [],_=>Imp.refl
 |s::ls,σ=>by
  unfold Am.nilAll
  refine Imp.trans ?_ (Imp.nilAll ls _)
  split
  ·exact Imp.nilBox _
  ·exact Imp.nilSlot _
theorem aiB {f:Ob→Ob} (hf:f .free= .free):∀(hs:List Ob) (k:Nat),lk (hs.map f) k=f (lk hs k)
 | [],k=>by simp[lk,hf]
 |v::r,0=>rfl
 |v::r,k+1=>by simp[lk,aiB hf r k]
theorem akD (l nm:Nat) (o:Ob):(mvO l nm o).isOwn=o.isOwn:=by cases o<;>rfl
theorem RA.mv {ok:Nat→Prop} {w:World} {β:Nat→Option Value} {l nm:Nat} {z:Value} {c:AV} {cs:List Value} (h1:β l=some z) (h2:β nm=some z) (h:RA P ok w β c cs):RA P ok w β (mvV l nm c) cs:=by
 unfold mvV
 split
 ·rename_i k
  cases hb:Nat.beq k l with
  |false=>exact h
  |true=>
   have e:=beq_eq hb
   subst e
   cases h with
   |    row h3 h4=>
        rw[h1] at h3
        cases h3
        exact .row h2 h4
 ·exact h
theorem RV.mv {ok:Nat→Prop} {w:World} {β:Nat→Option Value} {l nm:Nat} {z:Value} {c:AV} {x:Value} (h1:β l=some z) (h2:β nm=some z) (h:RV P ok w β c x):RV P ok w β (mvV l nm c) x:=by
 have e:∀k,c= .row k→RV P ok w β (mvV l nm (.row k)) x:=fun k hk=>by
  subst hk
  have h':=RA.mv h1 h2 (h.2 rfl)
  cases hb:Nat.beq k l with
  |false=>simp only[mvV,hb,cond_false];exact h
  |true=>
   simp only[mvV,hb,cond_true] at h' ⊢
   exact⟨fun hi=>by simp[AV.isAgg] at hi,fun _=>h'⟩
 cases c with
 |row k=>exact e k rfl
 |_=>exact h
theorem RelB.mvAll (r:RelB P K w0 n σ a w β) {l nm:Nat} {z:Value} (h1:β l=some z) (h2:β nm=some z):RelB P K w0 n ⟨σ.ts.map (mvV l nm),σ.hs.map (mvO l nm),σ.k0⟩ a w β:=by
 have hlk:∀k,lk (σ.hs.map (mvO l nm)) k=mvO l nm (lk σ.hs k):=fun k=>aiB rfl _ _
 have hown:∀k b,owns (σ.hs.map (mvO l nm)) β k b↔owns σ.hs β k b:=fun k b=>by simp only[owns,hlk,akD]
 have hk:∀b,okOf K w0 w σ.hs β b→okOf K w0 w (σ.hs.map (mvO l nm)) β b∧w.heap[b]? =w.heap[b]? :=fun b hb=>⟨⟨hb.1,hb.2.1,fun k hk=>hb.2.2 k ((hown k b).1 hk)⟩,rfl⟩
 refine⟨r.size,r.defers,r.below,fun k=>?_,fun k=>?_,fun k k' b q1 q2=>r.sep k k' b ((hown _ _).1 q1) ((hown _ _).1 q2),fun k b q1=>r.own k b ((hown _ _).1 q1),r.ext,r.kk,r.tab.mono hk⟩
 ·show RV P _ w β (tk (σ.ts.map (mvV l nm)) k) _
  rw[aad rfl]
  exact RV.mv h1 h2 ((r.ts k).mono hk (Ext.refl _))
 ·show ObOK P _ w β (lk (σ.hs.map (mvO l nm)) k) _
  rw[hlk]
  have h3:=(r.hs k).mono hk (fun _ _ _ _ _=>rfl) (Ext.refl _)
  cases ho:lk σ.hs k with
  |box T c=>
   rw[ho] at h3
   obtain⟨b,cs,q1,q2,q3,q4⟩:=h3
   exact⟨b,cs,q1,q2,q3,RA.mv h1 h2 q4⟩
  |row T es=>rw[ho] at h3;exact h3
  |rowA T vs=>rw[ho] at h3;exact h3
  |frz T es=>rw[ho] at h3;exact h3
  |map T es=>rw[ho] at h3;exact h3
  |gone=>trivial
  |free=>rw[ho] at h3;exact h3
theorem Imp.mvAt (l:Nat):Imp P n σ (mvAt σ l):=by
 rintro K w0 a w ⟨β,r⟩
 unfold Am.mvAt
 cases hb:(Nat.blt l σ.k0&&Nat.ble σ.k0 σ.hs.length) with
 |false=>exact⟨β,r⟩
 |true=>
  simp only[cond_true]
  split
  ·rename_i T es hl
   have hk0:σ.k0≤σ.hs.length:=Nat.le_of_ble_eq_true (and_r hb)
   have hob:=r.hs l
   rw[hl] at hob
   have hob0:=hob
   obtain⟨E,z,xs,hz,_⟩:=hob0
   rw[hz] at hob
   have r2:=r.take l σ.hs.length (.row T es) z w (by rw[hl];simp) (pQ _ _ (Nat.le_refl _)) hk0 rfl rfl rfl (Nat.le_refl _) (fun _ _ _=>rfl) (fun b hb'=> .inr ⟨by rw[hl];rfl,z,hz,hb'⟩) (fun hext hk=>hob.mono hk (fun _ _ _ _ _=>rfl) hext)
   have hne:l≠σ.hs.length:=by
        have h5:l<σ.k0:=Nat.le_of_ble_eq_true (and_l hb)
        omega
   exact⟨_,r2.mvAll (l:=l) (nm:=σ.hs.length) (z:=z) (by rw[iQ _ _ _ _ hne];exact hz) (dP _ _ _)⟩
  ·exact⟨β,r⟩
theorem Imp.mvSlot (t:Nat):Imp P n σ (mvSlot σ t):=by
 unfold Am.mvSlot
 split
 ·exact Imp.mvAt _
 ·split
  ·exact Imp.mvAt _
  ·exact Imp.refl
 ·exact Imp.refl
theorem Imp.mvL:∀(ts:List Nat) (σ:St),Imp P n σ (mvL σ ts)
 | [],_=>Imp.refl
 |t::ts,σ=>(Imp.mvSlot t).trans (Imp.mvL ts _)
theorem Imp.norm (f:FuncId) (key:Nat):Imp P n σ (l9 P E f key σ):=by
 unfold l9
 split
 ·exact Imp.refl
 ·rename_i kp fz rw _
  simp only
  refine Imp.trans (Rel.congr (τ:=⟨Af kp (Oz kp) σ.ts 0,σ.hs,σ.k0⟩) (fun k=>aan kp (Oz kp) σ.ts 0 k) (fun _=>rfl) rfl) ?_
  refine Imp.trans (Imp.frzN (KF ⟨Af kp (Oz kp) σ.ts 0,σ.hs,σ.k0⟩ fz) ⟨Af kp (Oz kp) σ.ts 0,σ.hs,σ.k0⟩) ?_
  refine Imp.trans (Imp.gonN (Fe ⟨Af kp (Oz kp) σ.ts 0,σ.hs,σ.k0⟩ fz) ⟨Af kp (Oz kp) σ.ts 0,Am.frzN σ.hs (KF ⟨Af kp (Oz kp) σ.ts 0,σ.hs,σ.k0⟩ fz),σ.k0⟩) ?_
  refine Imp.trans (Imp.nilAll rw _) ?_
  refine Imp.trans (Imp.mvL rw _) ?_
  refine Imp.trans ?_ Imp.relab
  rintro K w0 a w ⟨β,r⟩
  exact⟨β,r.packAll _⟩
def Post (P:Program) (n:Nat) (k:Exit→St→Option R) (r:R):Exit→St→Prop:=fun e τ=>∃τ0,Imp P n τ τ0∧k e τ0=some r
def JOK (J:Nat→Nat→Nat→St→Option R→Option R):Prop:=∀a b c s x r,J a b c s x=some r→x=some r
theorem jn_ok:JOK (R:=R) jn:=fun _ _ _ _ _ _ h=>h
theorem EF {J:Nat→Nat→Nat→St→Option R→Option R} (hJ:JOK J) {c:Code} {key:Nat} {head:St→St} {body:St→(Exit→St→Option R)→Option R} (hh:∀σ,Imp P n σ (head σ)) (hb:∀σ k,body σ k=some r→CW P n c σ (Post P n k r)):∀{m:Nat} {σ:St} {k:Exit→St→Option R},Ju J key head body m σ k=some r→CR P n c m σ (Post P n k r)
 |0,_,_,h=>by simp[Ju] at h
 |m+1,σ,k,h=>by
  unfold Ju at h
  refine CR.step ((hb _ _ h).mono ?_)
  rintro e τ ⟨τ0,hi,hk⟩
  cases e with
  |normal=>exact(EF hJ hh hb (hJ _ _ _ _ _ _ hk)).imp (hi.trans (hh _))
  |exit id=>exact⟨τ0,hi,hk⟩
  |goto l=>exact⟨τ0,hi,hk⟩
  |ret=>exact⟨τ0,hi,hk⟩
  |panic ch=>exact⟨τ0,hi,hk⟩
  |outgrown=>exact⟨τ0,hi,hk⟩
theorem adZ {J:Nat→Nat→Nat→St→Option R→Option R} (hJ:JOK J) (hcall:CallOK P call) (hmix:P.follows .mixedOrders=true) (m:Nat) (f:FuncId):∀(c:Code) (σ:St) (k:Exit→St→Option R),ev0 P E call J m f n c σ k=some r→CW P n c σ (Post P n k r):=by
 intro c
 induction c with
 |skip=>intro σ k h;exact CW.skip ⟨σ,Imp.refl,by simpa [ev0] using h⟩
 |region id ops draw=>
  intro σ k h
  have ea:ops=ops.toList.toArray:=by simp
  cases draw with
  |false=>
   simp only[ev0] at h
   obtain⟨ds,τ,ht,hk⟩:=Bu hcall h
   rw[ea]
   exact CW.region ht.lw fun s e=>by rw[e];exact⟨τ,Imp.refl,hk⟩
  |true=>
   simp only[ev0] at h
   obtain⟨ds,τ,ht,hk⟩:=Bu hcall h
   obtain⟨hc,hk⟩:=bif_some hk
   rw[ea]
   refine NS hmix ht (and_l hc) (by simpa using and_r hc) fun τ' he=>⟨τ,?_,hk⟩
   exact StEq.imp ⟨fun t=>(he.ts t).symm,fun l=>(he.hs l).symm,he.k0.symm⟩
 |seq c1 c2 ih1 ih2=>
  intro σ k h
  simp only[ev0] at h
  refine CW.seq ((ih1 σ _ h).mono ?_)
  rintro e τ ⟨τ0,hi,hk⟩
  cases e with
  |normal=>
   have hk':nextK P E J f (nextId c2) τ0 (fun s=>ev0 P E call J m f n c2 s k)=some r:=hk
   unfold nextK at hk'
   split at hk'
   ·exact(ih2 _ _ hk').imp hi
   ·exact(ih2 _ _ (hJ _ _ _ _ _ _ hk')).imp (hi.trans (Imp.norm _ _))
  |exit id=>exact⟨τ0,hi,hk⟩
  |goto l=>exact⟨τ0,hi,hk⟩
  |ret=>exact⟨τ0,hi,hk⟩
  |panic ch=>exact⟨τ0,hi,hk⟩
  |outgrown=>exact⟨τ0,hi,hk⟩
 |cond x c1 c2 ih1 ih2=>
  intro σ k h
  simp only[ev0] at h
  split at h
  ·rename_i t ht
   obtain⟨T,d,e1,hu,rfl⟩:=uG ht
   have hev:=vW (P:=P) (σ:=σ) (x:=x) (T:=0) (D:=E.dt)
   rw[e1] at hev
   rcases dH h with⟨hb,h1⟩| ⟨hb,h1⟩
   ·exact CW.condT hu (hev.cbool hu) hb (ih1 σ k h1)
   ·exact CW.condF hu (hev.cbool hu) hb (ih2 σ k h1)
  ·cases h
 |block id c ih=>
  intro σ k h
  simp only[ev0] at h
  refine CW.block ((ih σ _ h).mono ?_)
  rintro e τ ⟨τ0,hi,hk⟩
  cases e with
  |exit id'=>
   simp only[ai0]
   replace hk:(bif Nat.beq id' id then k .normal τ0 else k (.exit id') τ0)=some r:=hk
   cases hb:Nat.beq id' id with
   |true=>rw[hb] at hk;exact⟨τ0,hi,hk⟩
   |false=>rw[hb] at hk;exact⟨τ0,hi,hk⟩
  |normal=>exact⟨τ0,hi,hk⟩
  |goto l=>exact⟨τ0,hi,hk⟩
  |ret=>exact⟨τ0,hi,hk⟩
  |panic ch=>exact⟨τ0,hi,hk⟩
  |outgrown=>exact⟨τ0,hi,hk⟩
 |loop c ih=>
  intro σ k h
  simp only[ev0] at h
  exact CW.loop ((EF hJ (fun σ=>Imp.norm f (firstId c)) (fun σ k h=>ih σ k h) (hJ _ _ _ _ _ _ h)).imp (Imp.norm f (firstId c)))
 |rangeFunc=>intro σ k h;simp[ev0] at h
 |exit id=>intro σ k h;exact CW.exit ⟨σ,Imp.refl,by simpa [ev0] using h⟩
 |scope c ih=>
  intro σ k h
  simp only[ev0] at h
  have h1:=ih σ _ h
  have h2:CW P n c σ (fun e τ=>(∀l,e≠ .goto l)∧Post P n k r e τ):=h1.mono (by
   rintro e τ ⟨τ0,hi,hk⟩
   cases e with
   |goto l=>cases hk
   |normal=>exact⟨(fun l e=>by cases e),τ0,hi,hk⟩
   |exit id=>exact⟨(fun l e=>by cases e),τ0,hi,hk⟩
   |ret=>exact⟨(fun l e=>by cases e),τ0,hi,hk⟩
   |panic ch=>exact⟨(fun l e=>by cases e),τ0,hi,hk⟩
   |outgrown=>exact⟨(fun l e=>by cases e),τ0,hi,hk⟩)
  exact(CW.scope h2 fun l τ hc=>hc.1 l rfl).mono fun e τ hc=>hc.2
 |label l=>intro σ k h;exact CW.label ⟨σ,Imp.refl,by simpa [ev0] using h⟩
 |goto l=>intro σ k h;simp[ev0] at h
 |ret=>intro σ k h;exact CW.ret ⟨σ,Imp.refl,by simpa [ev0] using h⟩
 |refuse w=>intro σ k h;simp[ev0] at h
theorem akE {c1 c2:Code} {q:Oper×Oper×Oper×Oper} (h:ajJ c1 c2=some q):(∃id,c1= .region id #[q.1,q.2.1,q.2.2.1,q.2.2.2] true)∧ajI q.1 q.2.1 q.2.2.1 q.2.2.2=true∧q.1.guard=none∧q.2.1.guard=none∧q.2.2.1.guard=none∧q.2.2.2.guard=none:=by
 have hg:∀o:Oper,noG o=true→o.guard=none:=fun o h=>by
  unfold noG at h
  split at h
  ·assumption
  ·cases h
 unfold ajJ at h
 split at h
 ·rename_i id ops _ _ _
  split at h
  ·rename_i o0 o1 o2 o3
   obtain⟨hb,h⟩:=bif_some h
   cases h
   simp only[Bool.and_eq_true] at hb
   obtain⟨_,_,_,h4,h5,h6,h7,h8⟩:=hb
   exact⟨⟨id,rfl⟩,h4,hg _ h5,hg _ h6,hg _ h7,hg _ h8⟩
  ·cases h
 ·cases h
theorem akF {a b:St} (h:afP a b=true):a=b:=by
 have hob:∀{x y:List Ob},aaU x y=true→x=y:=by
  intro x
  induction x with
  |nil=>intro y h;cases y with|nil=>rfl|cons=>cases h
  |cons o r ih=>
   intro y h
   cases y with
   |nil=>cases h
   |    cons p s=>
        rw[aaU,Bool.and_eq_true,Bool.or_eq_true] at h
        rw[ih h.2]
        rcases h.1 with h1|h1
        ·rw[aaK h1]
        ·cases o<;>cases p<;>first|rfl|(unfold apb at h1;cases h1)
 unfold afP at h
 simp only[Bool.and_eq_true] at h
 obtain⟨h1,h2,h3⟩:=h
 obtain⟨ts,hs,k0⟩:=a
 obtain⟨ts',hs',k0'⟩:=b
 have e1:ts=ts':=yE h1
 have e2:hs=hs':=hob h2
 have e3:k0=k0':=Nat.eq_of_beq_eq_true h3
 rw[e1,e2,e3]
theorem RF (hmix:P.follows .mixedOrders=true) {m:Nat} {f:FuncId} {c:Code} {e:Exit} {s:St} (h:inn P E m f n c σ=some (e,s)):CW P n c σ fun e' τ=>e'=e∧Imp P n τ s:=by
 have hJ:JOK (R:=Exit×St) fun _ _ _ _ x=>x:=fun _ _ _ _ _ _ h=>h
 have hcall:CallOK (R:=Exit×St) P fun _ _ _ _=>none:=by
  intro f args objs K r h
  cases h
 refine(adZ hJ hcall hmix m f c σ _ h).mono ?_
 rintro e' τ ⟨τ0,hi,hk⟩
 cases hk
 exact⟨rfl,hi⟩
theorem aiC (hcall:CallOK P call) (hmix:P.follows .mixedOrders=true) {m:Nat} {f:FuncId} {c1 c2:Code} {q:Oper×Oper×Oper×Oper} {k:Exit→St→Option R} (hq:ajJ c1 c2=some q)
  (h:(ama P E call n q.1 q.2.1 q.2.2.1 q.2.2.2 σ fun σA σB=>match inn P E m f n c2 σA,inn P E m f n c2 σB with
   |    some (.normal,s1),some (.normal,s2)=>(match mrg P E f q.1.dst s1 s2 with
        |some s=>k .normal s
        |none=>none)
   |_,_=>none)=some r):CW P n (.seq c1 c2) σ (Post P n k r):=by
 obtain⟨⟨id,rfl⟩,hc,g0,g1,g2,g3⟩:=akE hq
 obtain⟨o0,o1,o2,o3⟩:=q
 simp only at h hc g0 g1 g2 g3 ⊢
 unfold ama at h
 have refl:∀(o:Oper) (s:St) (rd:List Nat),Agr o s s rd:=fun o s rd=>⟨fun _ _=>rfl,fun _ _=>rfl,rfl⟩
 obtain⟨d0,h,t0⟩:=ny hcall h
 obtain⟨d1,h,t1⟩:=ny hcall h
 obtain⟨d2,h,t2⟩:=ny hcall h
 obtain⟨d3,h,t3⟩:=ny hcall h
 obtain⟨e2,h,u2⟩:=ny hcall h
 obtain⟨e1,h,u1⟩:=ny hcall h
 obtain⟨e3,h,u3⟩:=ny hcall h
 dsimp only at h
 split at h
 ·rename_i s1 s2 hA hB
  split at h
  ·rename_i s hs
   unfold mrg at hs
   obtain⟨hb,hs⟩:=bif_some hs
   have he:=akF hb
   cases hs
   have pA:=RF hmix hA
   have pB:=RF hmix hB
   refine CW.seq (Uz hmix (Ψ:=fun e τ=>_) hc (.plain g0 (t0 _ (refl _ _ _))) (.plain g1 (t1 _ (refl _ _ _))) (.plain g2 (t2 _ (refl _ _ _))) (.plain g3 (t3 _ (refl _ _ _))) (.plain g2 (u2 _ (refl _ _ _))) (.plain g1 (u1 _ (refl _ _ _))) (.plain g3 (u3 _ (refl _ _ _))) ?_ ?_)
   ·    refine pA.mono ?_
        rintro e' τ ⟨rfl,hi⟩
        exact⟨_,hi.trans (Imp.norm _ _),h⟩
   ·    refine pB.mono ?_
        rintro e' τ ⟨rfl,hi⟩
        refine⟨_,hi.trans (Imp.norm (E:={E with keep:=fun _ _=>some (rmD o0.dst (adf 0 s1.ts s2.ts),[],[])}) f 1),?_⟩
        rw[←he]
        exact h
  ·cases h
 ·cases h
theorem aiD {J:Nat→Nat→Nat→St→Option R→Option R} (hJ:JOK J) (hcall:CallOK P call) (hmix:P.follows .mixedOrders=true) (m:Nat) (f:FuncId):∀(c:Code) (σ:St) (k:Exit→St→Option R),ev P E call J m f n c σ k=some r→CW P n c σ (Post P n k r):=by
 intro c
 induction c with
 |skip=>intro σ k h;exact CW.skip ⟨σ,Imp.refl,by simpa [ev] using h⟩
 |region id ops draw=>
  intro σ k h
  have ea:ops=ops.toList.toArray:=by simp
  cases draw with
  |false=>
   simp only[ev] at h
   obtain⟨ds,τ,ht,hk⟩:=Bu hcall h
   rw[ea]
   exact CW.region ht.lw fun s e=>by rw[e];exact⟨τ,Imp.refl,hk⟩
  |true=>
   simp only[ev] at h
   obtain⟨ds,τ,ht,hk⟩:=Bu hcall h
   obtain⟨hc,hk⟩:=bif_some hk
   rw[ea]
   refine NS hmix ht (and_l hc) (by simpa using and_r hc) fun τ' he=>⟨τ,?_,hk⟩
   exact StEq.imp ⟨fun t=>(he.ts t).symm,fun l=>(he.hs l).symm,he.k0.symm⟩
 |seq c1 c2 ih1 ih2=>
  intro σ k h
  simp only[ev] at h
  split at h
  rotate_left
  ·rename_i q hq
   exact aiC hcall hmix hq h
  refine CW.seq ((ih1 σ _ h).mono ?_)
  rintro e τ ⟨τ0,hi,hk⟩
  cases e with
  |normal=>
   have hk':nextK P E J f (nextId c2) τ0 (fun s=>ev P E call J m f n c2 s k)=some r:=hk
   unfold nextK at hk'
   split at hk'
   ·exact(ih2 _ _ hk').imp hi
   ·exact(ih2 _ _ (hJ _ _ _ _ _ _ hk')).imp (hi.trans (Imp.norm _ _))
  |exit id=>exact⟨τ0,hi,hk⟩
  |goto l=>exact⟨τ0,hi,hk⟩
  |ret=>exact⟨τ0,hi,hk⟩
  |panic ch=>exact⟨τ0,hi,hk⟩
  |outgrown=>exact⟨τ0,hi,hk⟩
 |cond x c1 c2 ih1 ih2=>
  intro σ k h
  simp only[ev] at h
  split at h
  ·rename_i t ht
   obtain⟨T,d,e1,hu,rfl⟩:=uG ht
   have hev:=vW (P:=P) (σ:=σ) (x:=x) (T:=0) (D:=E.dt)
   rw[e1] at hev
   rcases dH h with⟨hb,h1⟩| ⟨hb,h1⟩
   ·exact CW.condT hu (hev.cbool hu) hb (ih1 σ k h1)
   ·exact CW.condF hu (hev.cbool hu) hb (ih2 σ k h1)
  ·cases h
 |block id c ih=>
  intro σ k h
  simp only[ev] at h
  refine CW.block ((ih σ _ h).mono ?_)
  rintro e τ ⟨τ0,hi,hk⟩
  cases e with
  |exit id'=>
   simp only[ai0]
   replace hk:(bif Nat.beq id' id then k .normal τ0 else k (.exit id') τ0)=some r:=hk
   cases hb:Nat.beq id' id with
   |true=>rw[hb] at hk;exact⟨τ0,hi,hk⟩
   |false=>rw[hb] at hk;exact⟨τ0,hi,hk⟩
  |normal=>exact⟨τ0,hi,hk⟩
  |goto l=>exact⟨τ0,hi,hk⟩
  |ret=>exact⟨τ0,hi,hk⟩
  |panic ch=>exact⟨τ0,hi,hk⟩
  |outgrown=>exact⟨τ0,hi,hk⟩
 |loop c ih=>
  intro σ k h
  simp only[ev] at h
  exact CW.loop ((EF hJ (fun σ=>Imp.norm f (firstId c)) (fun σ k h=>ih σ k h) (hJ _ _ _ _ _ _ h)).imp (Imp.norm f (firstId c)))
 |rangeFunc=>intro σ k h;simp[ev] at h
 |exit id=>intro σ k h;exact CW.exit ⟨σ,Imp.refl,by simpa [ev] using h⟩
 |scope c ih=>
  intro σ k h
  simp only[ev] at h
  have h1:=ih σ _ h
  have h2:CW P n c σ (fun e τ=>(∀l,e≠ .goto l)∧Post P n k r e τ):=h1.mono (by
   rintro e τ ⟨τ0,hi,hk⟩
   cases e with
   |goto l=>cases hk
   |normal=>exact⟨(fun l e=>by cases e),τ0,hi,hk⟩
   |exit id=>exact⟨(fun l e=>by cases e),τ0,hi,hk⟩
   |ret=>exact⟨(fun l e=>by cases e),τ0,hi,hk⟩
   |panic ch=>exact⟨(fun l e=>by cases e),τ0,hi,hk⟩
   |outgrown=>exact⟨(fun l e=>by cases e),τ0,hi,hk⟩)
  exact(CW.scope h2 fun l τ hc=>hc.1 l rfl).mono fun e τ hc=>hc.2
 |label l=>intro σ k h;exact CW.label ⟨σ,Imp.refl,by simpa [ev] using h⟩
 |goto l=>intro σ k h;simp[ev] at h
 |ret=>intro σ k h;exact CW.ret ⟨σ,Imp.refl,by simpa [ev] using h⟩
 |refuse w=>intro σ k h;simp[ev] at h
def zD (tmps:Array Value):ResultVar→Sem Value
 | .tmp t=>pure (tmps.getD t undef)
 | .cell a t=>do loadVar t (←asAddr (tmps.getD a undef))
theorem Oi (r:RelB P K w0 n σ a w β):∀{rs:List ResultVar} {vs:List AV},YM P σ rs=some vs→
   ∃zs:List Value,(rs.mapM (zD a.tmps)).run P w= .ok zs w∧RVsX P (okOf K w0 w σ.hs β) w β vs zs∧∀v∈vs,v≠ .dead∧∀us,v≠ .tup us
 | [],vs,h=>by
   have h':some []=some vs:=by simpa [YM] using h
   cases h'
   exact⟨[],rfl,.nil,by simp⟩
 | .tmp t::rs,vs,h=>by
   unfold YM at h
   split at h
   ·cases h
   ·cases h
   ·rename_i h3 h4
    split at h
    ·   rename_i us hus
        cases h
        obtain⟨zs,q1,q2,q3⟩:=Oi r hus
        refine⟨a.tmps.getD t undef::zs,by simp[List.mapM_cons,zD,q1],.cons (r.ts t) q2,fun v hv=>?_⟩
        rcases List.mem_cons.1 hv with e|hv
        ·subst e;exact⟨h3,fun us e=>h4 us e⟩
        ·exact q3 v hv
    ·cases h
 | .cell p T::rs,vs,h=>by
   unfold YM at h
   split at h
   ·rename_i l hp
    split at h
    ·   rename_i T' c hl
        obtain⟨hc,h2⟩:=bif_some h
        clear h
        have e:=beq_eq (and_l hc)
        subst e
        obtain⟨s1,s2,⟨D,hD⟩,s4,s5⟩:=lF (and_l (and_r hc))
        have hag:c.isAgg P=bW P T':=by simpa using and_r (and_r hc)
        split at h2
        ·rename_i us hus
         cases h2
         obtain⟨zs,q1,q2,q3⟩:=Oi r hus
         have hr:=r.ts p
         rw[hp] at hr
         have hr':=hr.2 rfl
         generalize hz:a.tmps.getD p undef=z at hr'
         cases hr' with
         | @ptr _ b _ _ hb=>
           have hob:=r.hs l
           rw[hl,hb] at hob
           obtain⟨b',cs,e,hblk,hsz,hra⟩:=hob
           cases e
           obtain⟨zv,hrun,hrv⟩:=F6 (P:=P) (T:=T') (v:=c) (ok:=okOf K w0 w σ.hs β) (w:=w) (β:=β) (ad:=⟨b,0,none⟩) (cs:=cs.toList) hD (by simpa using hsz)
            (fun j u hj=>by rw[qJ,Nat.zero_add,cell_of_row w b j cs T' (0,0) hblk];simpa using hj) (fun hf=>s4 (by rw[hag];exact hf)) hag hra s2
           refine⟨zv::zs,?_,.cons hrv q2,fun v hv=>?_⟩
           ·simp only[Instr.loadAt,Instr.sureAddr,Sem.run_bind,Sem.run_pure,Result.andThen_ok] at hrun
            simp[List.mapM_cons,zD,hz,asAddr,hrun,q1]
           ·rcases List.mem_cons.1 hv with e|hv
            ·subst e;exact⟨s1,s2⟩
            ·exact q3 v hv
        ·cases h2
    ·cases h
   ·cases h
theorem aae {fn:Func} {zs:List Value} (hm:(fn.results.toList.mapM (zD a.tmps)).run P w= .ok zs w):(results fn a.tmps).run P w= .ok (if h:zs.toArray.size=1 then zs.toArray[0] else .tuple zs.toArray) w:=by
 have hm:(fn.results.mapM (zD a.tmps)).run P w= .ok zs.toArray w:=by
  have:fn.results.mapM (zD a.tmps)=(fn.results.toList.mapM (zD a.tmps))>>=fun l=>pure l.toArray:=by
   rw[Array.mapM_eq_mapM_toList]
   rfl
  rw[this,Sem.run_bind,hm]
  rfl
 have:results fn a.tmps=(fn.results.mapM (zD a.tmps))>>=fun vs=>pure (if h:vs.size=1 then vs[0] else .tuple vs):=by
  unfold results
  have hf:(fun x=>match x with| .tmp t=>pure (a.tmps.getD t undef)| .cell a_1 t=>do loadVar t (←asAddr (a.tmps.getD a_1 undef)):ResultVar→Sem Value)=zD a.tmps:=by
   funext x
   cases x<;>rfl
  rw[←hf]
  rfl
 rw[this,Sem.run_bind,hm]
 rfl
theorem RVsX.pack {ok:Nat→Prop} {vs:List AV} {zs:List Value} (h:RVsX P ok w β vs zs) (hv:∀v∈vs,v≠ .dead∧∀us,v≠ .tup us):RV P ok w β (wK vs) (if h:zs.toArray.size=1 then zs.toArray[0] else .tuple zs.toArray):=by
 match vs,zs,h,hv with
 | [v],[z],.cons h .nil,_=>simpa [wK] using h
 | [],[],.nil,_=>exact⟨#[],by simp,rfl,fun i av hv=>by simp at hv⟩
 |v1::v2::vr,z1::z2::zr,h,hv=>
  refine⟨(z1::z2::zr).toArray,by simp,by simpa using h.len,fun i av hav=>?_⟩
  obtain⟨z,q1,q2⟩:=h.get i av hav
  obtain⟨q3,q4⟩:=hv av (List.mem_of_getElem? hav)
  have e:(z1::z2::zr).toArray.getD i undef=z:=by
   simp only[Array.getD_eq_getD_getElem?,List.getElem?_toArray,q1,Option.getD_some]
  rw[e]
  exact RV.to1 q3 q4 q2
theorem RVsX.mapC {ok:Nat→Prop} {hs:List Ob} {vs:List AV} {zs:List Value} (hf:EK P ok w β hs) (hfa:∀l T es,lk hs l= .frz T es→bW P T=false) (h:RVsX P ok w β vs zs):RVsX P ok w β (vs.map (pkC P hs)) zs:=by
 induction h with
 |nil=>exact .nil
 |cons h _ ih=>exact .cons (h.pkC hf hfa) ih
theorem Oj {src:List Nat} {ρ:Nat→Option Nat} {hs:List Ob}:∀b,okOf K w0 w hs β b→okOf K w0 w (sP ρ hs src) (sQ src β) b∧w.heap[b]? =w.heap[b]? :=by
 rintro b ⟨h1,h2,h3⟩
 refine⟨⟨h1,h2,fun k hk=>?_⟩,rfl⟩
 obtain⟨l,_,h5⟩:=yA hk
 exact h3 l h5
theorem JH {ρ:Nat→Option Nat}:∀vs:List AV,(wK vs).ren ρ=wK (AV.renL ρ vs)
 | []=>rfl
 | [v]=>rfl
 |_::_::_=>rfl
theorem ad1 {f:FuncId} {fn:Func} {q:Res} (r:RelB P K w0 n σ a w β) (h:fin P E f fn σ=some q):∃z β',(results fn a.tmps).run P w= .ok z w∧RelB P K w0 n ⟨[],q.2,σ.k0⟩ a w β'∧RV P (okOf K w0 w q.2 β') w β' q.1 z:=by
 unfold fin at h
 split at h
 ·rename_i vs hvs
  obtain⟨zs,q1,q2,q3⟩:=Oi r hvs
  have hres:=aae (fn:=fn) q1
  cases hraw:E.raw f with
  |true=>
   rw[hraw] at h
   simp only[cond_true] at h
   obtain⟨src,hsrc⟩:∃src,Js (zV σ.hs σ.hs.length (AV.n2rL P vs σ.hs.length).2) σ.k0 (AV.n2rL P vs σ.hs.length).1=src:=⟨_,rfl⟩
   rw[hsrc] at h
   obtain⟨hc,h3⟩:=bif_some h
   clear h
   obtain⟨hc2,h4⟩:=bif_some h3
   clear h3
   cases h4
   have hk0:σ.k0≤σ.hs.length:=Nat.le_of_ble_eq_true (and_r hc)
   obtain⟨β1,r1,ex1,nb1,ok1⟩:=NI (P:=P) (n:=n) _ σ K w0 w a β σ.hs.length r (Ug P vs σ.hs.length) (fun i h3 h4=>pQ _ _ h3) hk0
   have r2:=r1.relabel src (ou (and_l hc)) (fun i hi=>by rw[←hsrc];exact Ji hi) [] (fun k=> .inl rfl)
   have hv1:=(q2.mono (fun b hb=>⟨ok1 b hb,rfl⟩) ex1).n2r _ nb1
   have hv2:=(hv1.mono (Oj (src:=src) (ρ:=ix src)) (Ext.refl _)).ren (zl src β1)
   refine⟨_,_,hres,r2,?_⟩
   show RV P _ w _ ((wK _).ren _) _
   rw[JH]
   exact hv2.pack (noDead_get hc2)
  |false=>
   rw[hraw] at h
   simp only[cond_false] at h
   obtain⟨src,hsrc⟩:∃src,Js (frzN σ.hs (AV.rwsL vs)) σ.k0 (vs.map (pkC P (frzN σ.hs (AV.rwsL vs))))=src:=⟨_,rfl⟩
   rw[hsrc] at h
   obtain⟨hc,h3⟩:=bif_some h
   clear h
   obtain⟨hc2,h4⟩:=bif_some h3
   clear h3
   cases h4
   have r1:=r.frzN (ls:=AV.rwsL vs)
   have r2:=r1.relabel src (ou hc) (fun i hi=>by rw[←hsrc];exact Ji hi) [] (fun k=> .inl rfl)
   have hv1:=(q2.mono (fun b hb=>⟨⟨hb.1,hb.2.1,fun l hl=>hb.2.2 l (RB hl)⟩,rfl⟩) (Ext.refl _)).mapC r1.frzOK r1.frzAgg
   have hv2:=(hv1.mono (Oj (src:=src) (ρ:=ix src)) (Ext.refl _)).ren (zl src β)
   refine⟨_,_,hres,r2,?_⟩
   show RV P _ w _ ((wK _).ren _) _
   rw[JH]
   exact hv2.pack (noDead_get hc2)
 ·cases h
where noDead_get:∀{vs:List AV},LM vs=true→∀v∈vs,v≠ .dead∧∀us,v≠ .tup us
 | [],_,v,hv=>by simp at hv
 |u   ::r,h,v,hv=>by
  unfold LM at h
  rcases List.mem_cons.1 hv with e|hv
  ·   subst e
      have:=and_l h
      split at this
      ·cases this
      ·cases this
      ·rename_i h3 h4;exact⟨h3,fun us e=>h4 us e⟩
  ·exact noDead_get (and_r h) v hv
structure EnvOK (P:Program) (E:Env):Prop where
 fns:∀f fn,E.fns f=some fn→P.funcs[f]? =some fn∧(fn.name== "runtime.NumGoroutine")=false
 orc:∀f oc args objs (q:Res),E.orc f=some oc→oc args objs=some q→FX P f args objs q.1 q.2∧HasBody P f
 mix:P.follows .mixedOrders=true
theorem aiE:∀(vs:List AV) (k:Nat),vs.length≤k→tk vs k= .dead
 | [],_,_=>rfl
 |_::r,0,h=>by simp at h
 |_::r,k+1,h=>by simp only[tk];exact aiE r k (by simpa using h)
theorem Imp.mvAll:∀(rs:List ResultVar) (σ:St),Imp P n σ (mvAll σ rs)
 | [],_=>Imp.refl
 | .tmp t::rs,σ=>(Imp.mvSlot t).trans (Imp.mvAll rs _)
 | .cell _ _::rs,σ=>Imp.mvAll rs σ
theorem XQ:∀(ls:List Nat) (hs:List Ob) (l:Nat),(∀T es,lk hs l≠ .row T es)→lk (Am.frzN hs ls) l=lk hs l
 | [],_,_,_=>rfl
 |k::ls,hs,l,h=>by
  have h1:lk (frz1 hs k) l=lk hs l:=by
   unfold frz1
   split
   ·    rename_i T es hk
        refine bX _ _ _ _ fun e=>?_
        subst e
        exact h _ _ hk
   ·rfl
  show lk (Am.frzN (frz1 hs k) ls) l=lk hs l
  rw[XQ ls (frz1 hs k) l (by rw[h1];exact h),h1]
theorem Ol {Te:TypeId} {hs:List Ob} {ok:Nat→Prop} {w:World} {β:Nat→Option Value} (hf:EK P ok w β hs):∀{vs:List AV} {ds:List Dt},yD P hs Te vs=some ds→vs.length=ds.length∧∀(i:Nat) (d:Dt),ds[i]? =some d→∃v,vs[i]? =some v∧∀cs,RA P ok w β v cs→RD P ok w Te d cs
 | [],ds,h=>by
   have h':some []=some ds:=by simpa [yD] using h
   cases h'
   exact⟨rfl,fun i d hd=>by simp at hd⟩
 | v::vs,ds,h=>by
   unfold yD at h
   split at h
   ·rename_i T d hp
    obtain⟨hc,h2⟩:=bif_some h
    split at h2
    ·   rename_i ds' hds
        cases h2
        obtain⟨q1,q2⟩:=Ol hf hds
        refine⟨by simp[q1],fun i d' hd=>?_⟩
        cases i with
        |zero=>
         simp only[List.getElem?_cons_zero,Option.some.injEq] at hd
         subst hd
         exact⟨v,rfl,fun cs hr=>(jA hf hr hp).compat (and_l hc)⟩
        |succ i=>
         simp only[List.getElem?_cons_succ] at hd
         obtain⟨v',h1,h2⟩:=q2 i d' hd
         exact⟨v',by simpa using h1,h2⟩
    ·cases h2
   ·cases h
theorem Imp.flat1 (l:Nat):Imp P n σ (flat1 P σ l):=by
 unfold Am.flat1
 split
 ·rename_i T vs hl
  split
  ·rename_i Te hTe
   split
   ·    rename_i ds hds
        refine Imp.trans (Imp.frzN (AV.rwsL vs) σ) ?_
        rintro K w0 a w ⟨β,r⟩
        have hl2:lk (Am.frzN σ.hs (AV.rwsL vs)) l= .rowA T vs:=by
         rw[XQ _ _ _ (by intro T' es;rw[hl];simp)];exact hl
        have hob:=r.hs l
        have hl3:lk (St.mk σ.ts (Am.frzN σ.hs (AV.rwsL vs)) σ.k0).hs l= .rowA T vs:=hl2
        rw[hl3] at hob
        obtain⟨E',z,xs,hz,hu,hown,hone,hr⟩:=hob
        obtain rfl:Te=E':=by have:=dJ hTe;rw[this] at hu;cases hu;rfl
        obtain⟨q1,q2⟩:=Ol r.frzOK hds
        refine⟨_,r.upd l (.row T ds) (β l) w (.inl rfl) rfl rfl rfl (Nat.le_refl _) (fun _ _ _=>rfl) (fun z2 b2 _ hz2 hb2=> .inr ⟨by rw[hl3];rfl,z2,hz2,hb2⟩) fun hx hk=>?_⟩
        refine⟨Te,z,xs,hz,hu,by rw[←q1];exact hown,hone,fun i d hd=>?_⟩
        obtain⟨v,h1,h2⟩:=q2 i d hd
        exact(h2 _ (hr i v h1)).mono hk
   ·exact Imp.refl
  ·exact Imp.refl
 ·exact Imp.refl
theorem Imp.flatL:∀(ls:List Nat) (σ:St),Imp P n σ (flatL P σ ls)
 | [],_=>Imp.refl
 |l::ls,σ=>(Imp.flat1 l).trans (Imp.flatL ls _)
theorem Imp.exitSt (f:FuncId) (fn:Func):Imp P n σ (exitSt P E f fn σ):=by
 unfold Am.exitSt
 cases E.raw f with
 |true=>exact(Imp.norm f 1000000).trans (Imp.mvAll _ _)
 |false=>exact(Imp.norm f 1000000).trans (Imp.flatL _ _)
structure Sim (P:Program) (b q:Res):Prop where
 val:∀(ok:Nat→Prop) (w:World) (β:Nat→Option Value) (z:Value),RV P ok w β b.1 z→RV P ok w β q.1 z
 own:∀l,(lk q.2 l).isOwn=(lk b.2 l).isOwn
 obs:∀l (ok:Nat→Prop) (w:World) (β:Nat→Option Value) (v:Option Value),ObOK P ok w β (lk b.2 l) v→ObOK P ok w β (lk q.2 l) v
theorem Sim.refl (q:Res):Sim P q q:=⟨fun _ _ _ _ h=>h,fun _=>rfl,fun _ _ _ _ _ h=>h⟩
theorem FX_of {f:FuncId} {fn:Func} {c:Code} {args:List AV} {objs:List Ob} {m:Nat} {q:Res} {J:Nat→Nat→Nat→St→Option R→Option R} (hJ:JOK J) (hcall:CallOK P call) (hmix:P.follows .mixedOrders=true) (hf:P.funcs[f]? =some fn) (hc:fn.body=some c) (hlen':args.length≤fn.ntmps) {dec:Res→Option R}
  (hd:∀(b:Res),dec b=some r→Sim P b q)
  (h:ev P E call J m f fn.ntmps c ⟨args,objs,objs.length⟩ (fun e σ=>(Tf P E f fn e σ).bind dec)=some r):FX P f args objs q.1 q.2:=by
 have hcw:=aiD hJ hcall hmix m f c _ _ h
 intro ok w β xs hok hobs hsep hxs htab
 refine calls_of_wp hf hc ?_
 have hxl:=hxs.len
 have hkk:∀b,ok b→okOf ⟨ok,XO objs β,β,objs.length⟩ w w objs β b∧w.heap[b]? =w.heap[b]? :=fun b hb'=>⟨⟨(hok b hb').1,fun _=> .inl hb',fun l ho=>(hok b hb').2 ⟨l,ho⟩⟩,rfl⟩
 have hrel:Rel P ⟨ok,XO objs β,β,objs.length⟩ w fn.ntmps ⟨args,objs,objs.length⟩ {tmps:=xs.toArray++Array.replicate (fn.ntmps-xs.toArray.size) undef,defers:=[]} w:=by
  refine⟨β,⟨by simp;omega,rfl,BelowX.refl _ _,fun k=>?_,fun l=>(hobs l).mono hkk (fun _ _ _ _ _=>rfl) (Ext.refl _),hsep,fun l b ho=> .inr ⟨l,ho⟩,fun l _=>rfl,rfl,htab.mono hkk⟩⟩
  rcases Nat.lt_or_ge k xs.length with hlt|hge
  ·have e:(xs.toArray++Array.replicate (fn.ntmps-xs.toArray.size) undef).getD k undef=xs.getD k undef:=by
        rw[Array.getD_eq_getD_getElem?,Array.getElem?_append_left (by simpa using hlt)]
        simp[List.getD]
   rw[e]
   exact(hxs.tk k).mono hkk (Ext.refl _)
  ·have e:tk args k= .dead:=aiE _ _ (by omega)
   show RV P _ w β (tk args k) _
   rw[e]
   trivial
 refine hcw _ w _ w hrel _ ?_
 rintro e τ a' w' ⟨τ0,himp,hfin⟩ rr
 obtain⟨β',r'⟩:=(himp.trans (Imp.exitSt (E:=E) f fn)) _ _ _ _ rr
 obtain⟨b,hfin,hdec⟩:=Option.bind_eq_some_iff.1 hfin
 have hsim:=hd b hdec
 have key:(e= .ret∨e= .normal)∧fin P E f fn (exitSt P E f fn τ0)=some b:=by
  unfold Tf at hfin
  split at hfin
  ·exact⟨.inl rfl,hfin⟩
  ·exact⟨.inr rfl,hfin⟩
  ·cases hfin
 obtain⟨hek,hfin⟩:=key
 obtain⟨z,β2,hrun,r2,hz⟩:=ad1 r' hfin
 have hown:∀l b2,owns q.2 β2 l b2↔owns b.2 β2 l b2:=fun l b2=>by simp only[owns,hsim.own]
 have hoks:∀b2,okOf ⟨ok,XO objs β,β,objs.length⟩ w w' b.2 β2 b2→okOf ⟨ok,XO objs β,β,objs.length⟩ w w' q.2 β2 b2∧w'.heap[b2]? =w'.heap[b2]? :=fun b2 hb=>⟨⟨hb.1,hb.2.1,fun l hl=>hb.2.2 l ((hown l b2).1 hl)⟩,rfl⟩
 have hF:FinX P ok w w' β β2 objs q.2:=⟨r2.below,fun l=>hsim.obs l _ _ _ _ ((r2.hs l).mono hoks (fun _ _ _ _ _=>rfl) (Ext.refl _)),fun l l' b2 h1 h2=>r2.sep l l' b2 ((hown _ _).1 h1) ((hown _ _).1 h2),fun l b2 h1=>r2.own l b2 ((hown _ _).1 h1),fun l hl=>r2.ext l hl⟩
 have hz2:=hsim.val _ _ _ _ (hz.mono hoks (Ext.refl _))
 rcases hek with rfl|rfl
 ·exact⟨r'.defers,z,hrun,z,β2,rfl,hF,hz2⟩
 ·exact⟨r'.defers,z,hrun,z,β2,rfl,hF,hz2⟩
theorem Jj (he:EnvOK P E):∀(m:Nat) (f:FuncId) (args:List AV) (objs:List Ob) (q:Res),run P E m f args objs=some q→FX P f args objs q.1 q.2∧HasBody P f
 |0,_,_,_,_,h=>by simp[run] at h
 |m+    1,f,args,objs,q,h=>by
  unfold run at h
  split at h
  ·rename_i oc hoc
   exact he.orc f oc args objs q hoc h
  ·split  at h
   ·    rename_i fn hfn
        obtain⟨hf,hname⟩:=he.fns f fn hfn
        split at h
        ·rename_i c hc
         obtain⟨hlen,h⟩:=bif_some h
         refine⟨?_,⟨fn,hf,by rw[hc];rfl,hname⟩⟩
         refine FX_of (r:=q) (dec:=some) jn_ok (fun f args objs K r hr=>by
          obtain⟨q',h1,h2⟩:=Option.bind_eq_some_iff.1 hr
          exact⟨q',h2,Jj he m f args objs q' h1⟩) he.mix hf hc (Nat.le_of_ble_eq_true hlen) (fun b hb=>by cases hb;exact Sim.refl _) (E:=E) (m:=m+1) ?_
         have e:(fun e σ=>(Tf P E f fn e σ).bind some)=Tf P E f fn:=by funext e σ;cases Tf P E f fn e σ<;>rfl
         rw[e]
         exact h
        ·cases h
   ·cases h
end
end Go.Am
