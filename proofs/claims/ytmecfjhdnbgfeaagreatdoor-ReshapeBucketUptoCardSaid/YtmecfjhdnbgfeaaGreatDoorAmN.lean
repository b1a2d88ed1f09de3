/- The abstract machine, part 15: slice literals, append, calls.
The abstract machine,part 16:calls. -/
import Derived.Test.YtmecfjhdnbgfeaaGreatDoorAm14
set_option linter.unusedVariables false
set_option linter.unusedSimpArgs false
namespace Go.Am
open Go.RowKit
section
variable {P:Program} {n:Nat} {o:Oper} {σ τ:St} {x y:Operand} {v:AV} {T:TypeId} {R:Type} {E:Env} {k:Dl→Option R} {r:R}
theorem ZJ {T T':TypeId} (h:compat P T T'=true):bW P T=bW P T':=by
 unfold compat at h
 rw[Bool.or_eq_true] at h
 rcases h with h|h
 ·rw[beq_eq h]
 ·unfold bW
  split at h
  ·rename_i h1 h2;rw[h1,h2]
  ·rename_i h1 h2;rw[h1,h2]
  ·rename_i h1 h2;rw[h1,h2]
  ·rename_i h1 h2;rw[h1,h2]
  ·cases h
theorem RV.compat {ok:Nat→Prop} {w:World} {β:Nat→Option Value} {z:Value} {d:Dt} {T':TypeId} (h:RV P ok w β (.dat T d) z) (hc:Am.compat P T T'=true):RV P ok w β (.dat T' d) z:=by
 have he:=ZJ hc
 cases ha:bW P T with
 |true=>
  obtain⟨cs,e,q⟩:=(RV.dat_agg ha).1 h
  exact(RV.dat_agg (by rw[←he];exact ha)).2 ⟨cs,e,q.compat hc⟩
 |false=>exact(RV.dat_one (by rw[←he];exact ha)).2 (((RV.dat_one ha).1 h).compat hc)
theorem Ud {D:List TypeId} {Te:TypeId} {τ:St}:∀{xs:List Operand} {ds:List Dt},(∀z∈xs,Ev P τ z (opd P D σ Te z))→yD P τ.hs Te (xs.map (opd P D σ Te))=some ds→EvL P τ Te xs ds
 | [],ds,_,h=>by
   have h':some []=some ds:=by simpa [yD] using h
   cases h'
   exact .nil
 | z::xs,ds,hev,h=>by
   simp only[List.map_cons] at h
   unfold yD at h
   split at h
   ·rename_i T' d hp
    obtain⟨hc,h2⟩:=bif_some h
    split at h2
    ·   rename_i ds' hds
        cases h2
        refine .cons ?_ (Ud (fun u hu=>hev u (by simp[hu])) hds)
        have:=Ev.pk (hev z (by simp)) hp
        exact fun ok0 w0 n a w β r=>(this _ _ _ _ _ _ r).compat (and_l hc)
    ·cases h2
   ·cases h
theorem ab1 {hs:List Ob} {Te:TypeId} {vs:List AV} {ds:List Dt} (h:yD P hs Te vs=some ds) (hne:vs≠[]):∀d',szB P Te (.dat Te d')=true:=by
 cases vs with
 |nil=>exact absurd rfl hne
 |cons v r=>
  unfold yD at h
  split at h
  ·rename_i T' d hp
   obtain⟨hc,h2⟩:=bif_some h
   intro d'
   exact and_r hc
  ·cases h
theorem WO {hs hs':List Ob} {Te:TypeId}:∀{vs:List AV},(∀l∈AV.rwsL vs,lk hs' l=lk hs l)→yD P hs' Te vs=yD P hs Te vs
 | [],_=>rfl
 |v::r,h=>by
  unfold yD
  rw[BH (hs:=hs) (hs':=hs') v fun l hl=>h l (by simp[AV.rwsL,hl]),WO (vs:=r) fun l hl=>h l (by simp[AV.rwsL,hl])]
theorem BX:∀{j:Nat} {parts:List (Nat×Operand)},dense j parts=true→parts=((parts.map (·.2)).zipIdx j).map fun p=>(p.2,p.1)
 |_,[],_=>rfl
 |j,(i,x)::r,h=>by
  simp only[dense] at h
  have e:=beq_eq (and_l h)
  subst e
  have ih:=BX (and_r h)
  simp only[List.map_cons,List.zipIdx_cons]
  rw[←ih]
theorem WQ {hs:List Ob} {Te:TypeId}:∀{vs:List AV} {ds:List Dt},yD P [] Te vs=some ds→yD P hs Te vs=some ds
 | [],_,h=>h
 |v::r,ds,h=>by
  unfold yD at h ⊢
  split at h
  ·rename_i T d hp
   rw[Oh v hp]
   obtain⟨hc,h2⟩:=bif_some h
   split at h2
   ·    rename_i ds' hds
        cases h2
        simp only[hc,cond_true,WQ hds]
   ·cases h2
  ·cases h
theorem ZK {parts:Array (Nat×Operand)} {len:Nat} {Te:TypeId} {zi:TypeInfo} {za:Value} {ds:List Dt} (ho:o.op= .build T parts) (hu:P.underlying T=some (.array len Te)) (hzi:P.info? T=some zi) (hza:zi.zero=some za)
  (hds:yD P [] Te ((parts.toList.map (·.2)).map (opd P E.dt σ Te))=some ds) (hc:(dense 0 parts.toList&&(Nat.beq len parts.toList.length&&(!Nat.beq len 0&&(!Nat.beq (P.cellsOf Te) 0&&(Nat.beq za.cells.size (len*P.cellsOf Te)&&Nat.beq (P.cellsOf T) (len*P.cellsOf Te))))))=true)
  (h:out n o (.dat T (.lst ds)) [] [] k=some r):OpS P n o σ k r:=by
 have hmem:∀z∈parts.toList.map (·.2),z∈o.op.operands.toList:=by
  intro z hz
  rw[ho]
  simpa [Op.operands] using hz
 have hlen:len=(parts.toList.map (·.2)).length:=by rw[List.length_map];exact beq_eq (and_l (and_r hc))
 have hpos:parts.toList.map (·.2)≠[]:=by
  intro e
  rw[e] at hlen
  exact BD (and_l (and_r (and_r hc))) hlen
 have hsz:=ab1 hds (by simpa using hpos)
 refine aU h fun σ' ag d hd hn=>UK ho hd hn hu hzi hza (beq_eq (and_l (and_r (and_r (and_r (and_r hc)))))) (beq_eq (and_r (and_r (and_r (and_r (and_r hc)))))) (BD (and_l (and_r (and_r (and_r hc))))) (BX (and_l hc)) hlen
  (Ud (fun z hz=>ru ag (hmem z hz)) (WQ hds)) (fun d'=>(lF (hsz d')).2.2.2.2)
theorem ahO {parts:Array (Nat×Operand)} (ho:o.op= .build T parts) (h:Lr P E n o σ T parts.toList k=some r):OpS P n o σ k r:=by
 unfold Lr at h
 split at h
 ·exact akB ho h
 ·unfold Vu at h
  split at h
  ·rename_i len Te hu
   split at h
   ·    rename_i zi hzi
        split at h
        ·rename_i za hza
         split at h
         ·rename_i ds hds
          have hh_:=bif_some h
          clear h
          obtain⟨hc,h⟩:=hh_
          exact ZK ho hu hzi hza hds hc h
         ·cases h
        ·cases h
   ·cases h
  ·cases h
theorem Ue {len:Nat} {parts:Array (Nat×Operand)} (ho:o.op= .buildSlice T len parts) (h:zw P E n o σ T len parts.toList k=some r):OpS P n o σ k r:=by
 unfold zw at h
 split at h
 ·rename_i Te hTe
  split at h
  ·rename_i z hz
   split at h
   ·    rename_i ds hds
        have hh_:=bif_some h
        clear h
        obtain⟨hc,h⟩:=hh_
        have hh_:=pz h
        clear h
        obtain⟨hk0,h⟩:=hh_
        obtain⟨d,hd,hn,hk⟩:=oq h
        refine⟨_,hk,fun σ' ag=>?_⟩
        have hmap:(parts.toList.map fun p=>opd P E.dt σ Te p.2)=(parts.toList.map (·.2)).map (opd P E.dt σ Te):=by rw[List.map_map];rfl
        rw[hmap] at hds hk ⊢
        rw[hmap] at ag
        have hagr:∀l∈AV.rwsL ((parts.toList.map (·.2)).map (opd P E.dt σ Te)),lk σ'.hs l=lk σ.hs l:=fun l hl=>ag.hs l (List.mem_cons_of_mem _ hl)
        have hfw:=oo hagr
        have hmem:∀z∈parts.toList.map (·.2),z∈o.op.operands.toList:=by
         intro z hz
         rw[ho]
         simpa [Op.operands] using hz
        have hds':yD P (wrO σ'.hs (frzW σ'.hs (AV.rwsL ((parts.toList.map (·.2)).map (opd P E.dt σ Te))))) Te ((parts.toList.map (·.2)).map (opd P E.dt σ Te))=some ds:=by
         rw[←hds,hfw]
         exact WO fun l hl=>pO hagr l hl
        have hlen:len=(parts.toList.map (·.2)).length:=by rw[List.length_map];exact beq_eq (and_l (and_r hc))
        have hpos:parts.toList.map (·.2)≠[]:=by
         intro e
         rw[e] at hlen
         exact BD (and_l (and_r (and_r hc))) hlen
        have hsz:=ab1 hds (by simpa using hpos)
        have key:=(Oy (σ:=St.mk σ'.ts (wrO σ'.hs (frzW σ'.hs (AV.rwsL ((parts.toList.map (·.2)).map (opd P E.dt σ Te))))) σ'.k0) (l:=σ.hs.length) (ds:=ds) ho hd hn (dJ hTe) (by
          refine uI ?_
          rw[ag.hs _ (by simp)]
          exact pF σ) (by show σ'.k0≤_;rw[ag.k0];exact hk0) (om hz) (BD (and_l (and_r (and_r (and_r hc))))) (BX (and_l hc)) hlen hpos
          (Nat.le_of_ble_eq_true (and_r (and_r (and_r (and_r hc))))) (Ud (fun z hz=>LA ag (hmem z hz)) hds') (fun d'=>(lF (hsz d')).2.2.2.2)).pre (Imp.frzW (σ:=σ') (AV.rwsL ((parts.toList.map (·.2)).map (opd P E.dt σ Te))))
        rw[hd]
        have hfin:St.mk (aeZ σ'.ts (some d) (some (.row σ.hs.length))) (wrO σ'.hs (frzW σ.hs (AV.rwsL ((parts.toList.map (·.2)).map (opd P E.dt σ Te)))++[(σ.hs.length,.row T ds)])) σ'.k0=
          ((St.mk σ'.ts (wrO σ'.hs (frzW σ'.hs (AV.rwsL ((parts.toList.map (·.2)).map (opd P E.dt σ Te))))) σ'.k0).lay σ.hs.length (.row T ds)).put d (.row σ.hs.length):=by
         rw[sO,hfw];rfl
        show bn P n o σ' (St.mk _ _ _)
        rw[hfin]
        exact key
   ·cases h
  ·cases h
 ·cases h
theorem ZL {Te:TypeId} {vy:AV} {rd:List Nat} {ds:List Dt} (h:(match vy with
   |    .row l=>match lk σ.hs l with
        | .row T5 ds=>bif lu P T5 Te then some ([l],ds) else none
        | .frz T5 ds=>bif lu P T5 Te then some ([l],ds) else none
        |_=>none
   |    v=>match lval P [] v with
        |some (_,Te',ds)=>bif Nat.beq Te' Te then some ([],ds) else none
        |none=>none:Option (List Nat×List Dt))=some (rd,ds)) (τ:St) (hev:Ev P τ y vy) (hag:∀l∈rd,lk τ.hs l=lk σ.hs l):Jl P τ y Te ds:=by
 split at h
 ·rename_i l
  split at h
  ·rename_i T5 ds' hl
   obtain⟨hc,h2⟩:=bif_some h
   cases h2
   exact .row hev (by rw[hag l (by simp)];exact hl) (fE hc).1
  ·rename_i T5 ds' hl
   obtain⟨hc,h2⟩:=bif_some h
   cases h2
   exact .lst (fE hc).1 (hev.frz (by rw[hag l (by simp)];exact hl))
  ·cases h
 ·split at h
  ·rename_i Tx Te' ds' hl
   obtain⟨hc,h2⟩:=bif_some h
   cases h2
   obtain⟨d1,hp,u1,rfl⟩:=Cg hl
   have e:=beq_eq hc
   subst e
   exact .lst u1 ((Ev.pk hev (Oh _ hp)).clst u1)
  ·cases h
theorem append_nil {d l l':Nat} {Te T5 T0:TypeId} {ds:List Dt} {z:Dt} (ho:o.op= .call {callee:= .builtin .append,args:= #[x,y],argTypes:= #[T,T]}) (hd:o.dst=some d) (hn:d<n) (hu:P.underlying T=some (.slice Te)) (hu5:P.underlying T5=some (.slice Te))
  (hz:Zero P Te z) (h0:P.cellsOf Te≠0) (hbd:ds.length*P.bytesOf Te≤140737488355328) (hx:Ev P σ x (.nils T0)) (hfl:lk σ.hs l= .free) (hkl:σ.k0≤l) (hf:lk σ.hs l'= .free) (hll:l'≠l) (hk0:σ.k0≤l') (hy:Jl P σ y Te ds) (hlim:ds.length≤137438953472):
  bn P n o σ (((σ.lay l .gone).lay l' (.row T5 ds)).put d (.row l')):=by
 rintro ok0 w0 a w ⟨β,r⟩ K Q hK
 have ex:a.eval x= .slice none 0 0:=by
  have h1:=(hx _ _ _ _ _ _ r).2 rfl
  generalize a.eval x=q at h1
  cases h1 with
  |nils=>rfl
 have r1:=r.nilrow hu5 hfl hkl
 have hy1:=hy _ _ _ _ _ _ r
 obtain⟨A,c,ys,ey,hyl,hyone,hyc,hynone,hyrd⟩:=hy1
 have hob0:=r1.hs l
 have hl1:lk (σ.lay l (.row T5 [])).hs l= .row T5 []:=j5 _ _ _
 rw[hl1,dP] at hob0
 have key:=Jm (σ:=σ.lay l (.row T5 [])) (l:=l) (l':=l') (E:=Te) (T5:=T5) (es:=[]) (ds:=ds) ho hd hn hu hu5 hz h0 (by simpa using hbd) r1 (by rw[ex];exact dP _ _ _) hl1
  (by show lk (dX σ.hs l _) l'=_;rw[bX _ _ _ _ hll];exact hf) hk0 ey hyl hyone hyc hynone (fun i d' hd'=>(hyrd i d' hd').mono (fun b hb=>⟨⟨hb.1,hb.2.1,fun j hj=>?_⟩,rfl⟩)) (by simpa using hlim) K Q (fun a' w' r'=>hK a' w' ?_)
 ·exact key
 ·obtain⟨q1,z',q2,q3⟩:=hj
  by_cases hjl:j=l
  ·subst hjl
   rw[dP] at q2
   cases q2
   simp[blk] at q3
  ·rw[iQ _ _ _ _ hjl] at q2
   have q1':(lk (dX σ.hs l (.row T5 [])) j).isOwn=true:=q1
   rw[bX _ _ _ _ hjl] at q1'
   exact hb.2.2 j ⟨q1',z',q2,q3⟩
 ·have hcongr:Imp P n ((((σ.lay l (.row T5 [])).lay l .gone).lay l' (.row T5 ([]++ds))).put d (.row l')) (((σ.lay l .gone).lay l' (.row T5 ds)).put d (.row l')):=by
   refine Rel.congr (fun j=> .inr rfl) (fun j=>?_) rfl
   show lk (dX (dX σ.hs l .gone) l' _) j=lk (dX (dX (dX σ.hs l (.row T5 [])) l .gone) l' _) j
   rw[jq,jq,jq,jq,jq]
   simp only[List.nil_append]
   split
   ·rfl
   ·split<;>rfl
  exact hcongr _ _ _ _ r'
theorem WR {xs:Array Operand} {Ts:Array TypeId} {T':TypeId} (ho:o.op= .call ⟨.builtin .append,xs,Ts⟩) (hxs:xs.toList=[x,y]) (hTs:Ts.toList=[T,T']) (h:ES P n o σ T T' (opd P E.dt σ T x) (opd P E.dt σ T' y) k=some r):OpS P n o σ k r:=by
 have hxs':=two hxs
 have hTs':=two hTs
 subst hxs' hTs'
 have hx:x∈o.op.operands.toList:=by rw[ho];simp[Op.operands,Call.operands]
 have hy:y∈o.op.operands.toList:=by rw[ho];simp[Op.operands,Call.operands]
 unfold ES at h
 split at h
 ·rename_i Te z hTe hz
  rw[hTe] at hz
  have hh_:=bif_some h
  clear h
  obtain⟨hc,h⟩:=hh_
  have e:=beq_eq (and_l hc)
  subst e
  have h0:=BD (and_r hc)
  split at h
  ·rename_i rd ds hsrc
   split at h
   ·    rename_i l e1
        split at h
        ·rename_i T5 es hl
         have hh_:=bif_some h
         clear h
         obtain⟨hc5,h⟩:=hh_
         have hh_:=pz h
         clear h
         obtain⟨hk0,h⟩:=hh_
         have hh_:=P9 h
         clear h
         obtain⟨rs,hrs,h⟩:=hh_
         obtain⟨p1,p2,p3⟩:=Qa hrs
         subst p2
         obtain⟨d,hd,hn,hk⟩:=oq h
         refine⟨_,hk,fun σ' ag=>?_⟩
         have key:=acO (σ:=σ') (l:=l) (l':=σ.hs.length) ho hd hn (dJ hTe) (fE hc5).1 (om hz) h0 p3 (aY ag hx e1) (by rw[ag.hs l (by simp)];exact hl) (by rw[ag.hs _ (by simp)];exact pF σ) (by rw[ag.k0];exact hk0)
          (ZL hsrc σ' (ru ag hy) fun l2 hl2=>ag.hs l2 (by simp[hl2])) p1
         rw[hd]
         exact key
        ·cases h
   ·    rename_i T5 e1
        have hh_:=bif_some h
        clear h
        obtain⟨hc5,h⟩:=hh_
        have hh_:=pz h
        clear h
        obtain⟨hk0,h⟩:=hh_
        have hh_:=P9 h
        clear h
        obtain⟨rs,hrs,h⟩:=hh_
        obtain⟨p1,p2,p3⟩:=Qa hrs
        simp only[List.nil_append] at p2
        subst p2
        obtain⟨d,hd,hn,hk⟩:=oq h
        refine⟨_,hk,fun σ' ag=>?_⟩
        have key:=append_nil (σ:=σ') (l:=σ.hs.length) (l':=σ.hs.length+1) ho hd hn (dJ hTe) (fE hc5).1 (om hz) h0 (by simpa using p3) (aY ag hx e1) (by rw[ag.hs _ (by simp)];exact pF σ) (by rw[ag.k0];exact hk0)
         (by rw[ag.hs _ (by simp)];exact pQ _ _ (by omega)) (by omega) (by rw[ag.k0];omega) (ZL hsrc σ' (ru ag hy) fun l2 hl2=>ag.hs l2 (by simp[hl2])) (by simpa using p1)
        rw[hd]
        exact key
   ·cases h
  ·cases h
 ·cases h
theorem Ra {Te:TypeId} {ob:Ob} {vs:List AV} (h:alM P Te ob=some vs):Gm P Te ob vs:=by
 cases ob with
 |row T es=>
  obtain⟨h1,h2⟩:=bif_some (show (bif lu P T Te then some (es.map (.dat Te)) else none)=some vs from h)
  cases h2
  exact .inl ⟨T,es,rfl,(fE h1).1,rfl⟩
 |rowA T us=>
  obtain⟨h1,h2⟩:=bif_some (show (bif lu P T Te then some us else none)=some vs from h)
  cases h2
  exact .inr ⟨T,rfl,(fE h1).1⟩
 |_=>cases h
theorem adz {xs:Array Operand} {Ts:Array TypeId} {T':TypeId} (ho:o.op= .call ⟨.builtin .append,xs,Ts⟩) (hxs:xs.toList=[x,y]) (hTs:Ts.toList=[T,T']) (h:Gy P n o σ T T' (opd P E.dt σ T x) (opd P E.dt σ T' y) k=some r):OpS P n o σ k r:=by
 unfold Gy at h
 split at h
 ·rename_i l l2 e1 e2
  cases hb:(ajs (lk σ.hs l2)||ajs (lk σ.hs l)) with
  |false=>
   rw[hb,cond_false] at h
   exact WR ho hxs hTs (by rw[e1,e2];exact h)
  |true=>
   rw[hb,cond_true] at h
   have hxs':=two hxs
   have hTs':=two hTs
   subst hxs' hTs'
   have hx:x∈o.op.operands.toList:=by rw[ho];simp[Op.operands,Call.operands]
   have hy:y∈o.op.operands.toList:=by rw[ho];simp[Op.operands,Call.operands]
   unfold Qm at h
   split at h
   ·    rename_i Te z hTe hz
        rw[hTe] at hz
        have hh_:=bif_some h
        clear h
        obtain⟨hc,h⟩:=hh_
        have e:=beq_eq (and_l hc)
        subst e
        split at h
        ·rename_i es ds h1 h2
         have hh_:=bif_some h
         clear h
         obtain⟨hl,h⟩:=hh_
         have hh_:=pz h
         clear h
         obtain⟨hk0,h⟩:=hh_
         obtain⟨d,hd,hn,hk⟩:=oq h
         refine⟨_,hk,fun σ' ag=>?_⟩
         have key:=aah (σ:=σ') (l:=l) (l2:=l2) (l':=σ.hs.length) ho hd hn (dJ hTe) (om hz) (BD (and_l (and_r hc))) (Nat.le_of_ble_eq_true (and_r (and_r hc))) (aY ag hx e1) (ag.hs l (by simp)) (Ra h1) (by rw[ag.hs _ (by simp)];exact pF σ) (by rw[ag.k0];exact hk0) (aY ag hy e2) (ag.hs l2 (by simp)) (Ra h2) (Nat.le_of_ble_eq_true hl)
         rw[hd]
         exact key
        ·cases h
   ·cases h
 ·exact WR ho hxs hTs h
theorem ab2 {D:List TypeId} {Te:TypeId} {τ:St}:∀{xs:List Operand},(∀z∈xs,Ev P τ z (opd P D σ Te z))→(xs.all fun z=>szB P Te (opd P D σ Te z))=true→EvLA P τ Te xs (xs.map (opd P D σ Te))
 | [],_,_=> .nil
 |z::xs,hev,h=>by
  simp only[List.all_cons,Bool.and_eq_true] at h
  obtain⟨q1,q2,_,_,q5⟩:=lF h.1
  exact .cons (hev z (by simp)) q1 q2 q5 (ab2 (fun u hu=>hev u (by simp[hu])) h.2)
theorem adA {len:Nat} {parts:Array (Nat×Operand)} (ho:o.op= .buildSlice T len parts) (h:GA P E n o σ T len parts.toList k=some r):OpS P n o σ k r:=by
 unfold GA at h
 cases hb:E.nest o with
 |false=>rw[hb,cond_false] at h;exact Ue ho h
 |true=>
  rw[hb,cond_true] at h
  unfold Qn at h
  split at h
  ·rename_i Te hTe
   split at h
   ·    rename_i z hz
        have hh_:=bif_some h
        clear h
        obtain⟨hc0,h⟩:=hh_
        have hc:=and_r hc0
        have hh_:=pz h
        clear h
        obtain⟨hk0,h⟩:=hh_
        obtain⟨d,hd,hn,hk⟩:=oq h
        refine⟨_,hk,fun σ' ag=>?_⟩
        have hmem:∀z∈parts.toList.map (·.2),z∈o.op.operands.toList:=by
         intro z hz
         rw[ho]
         simpa [Op.operands] using hz
        have hlen:len=(parts.toList.map (·.2)).length:=by rw[List.length_map];exact beq_eq (and_l (and_r hc))
        have hpos:parts.toList.map (·.2)≠[]:=by
         intro e
         rw[e] at hlen
         exact BD (and_l (and_r (and_r hc))) hlen
        have key:=aag (σ:=σ') (l:=σ.hs.length) ho hd hn (dJ hTe) (by rw[ag.hs _ (by simp)];exact pF σ) (by rw[ag.k0];exact hk0) (om hz) (BD (and_l (and_r (and_r (and_r hc))))) (BX (and_l hc)) hlen hpos
         (Nat.le_of_ble_eq_true (and_r (and_r (and_r (and_r hc))))) (ab2 (D:=E.dt) (σ:=σ) (fun z hz=>ru ag (hmem z hz)) (and_l hc0))
        rw[hd]
        exact key
   ·cases h
  ·cases h
theorem aj7 {A:Type} {b:Bool} {u v:Option A} {q:A} (h:(bif b then u else v)=some q):(b=true∧u=some q)∨(b=false∧v=some q):=by
 cases b
 ·exact .inr ⟨rfl,h⟩
 ·exact .inl ⟨rfl,h⟩
theorem adB {xs:Array Operand} {Ts:Array TypeId} {T':TypeId} (ho:o.op= .call ⟨.builtin .append,xs,Ts⟩) (hxs:xs.toList=[x,y]) (hTs:Ts.toList=[T,T']) (h:Gz P n o σ T T' (opd P E.dt σ T x) (opd P E.dt σ T' y) k=some r):OpS P n o σ k r:=by
 have hxs':=two hxs
 have hTs':=two hTs
 subst hxs' hTs'
 have hx:x∈o.op.operands.toList:=by rw[ho];simp[Op.operands,Call.operands]
 have hy:y∈o.op.operands.toList:=by rw[ho];simp[Op.operands,Call.operands]
 unfold Gz at h
 split at h
 ·rename_i Te hTe
  obtain⟨hc,h⟩:=bif_some h
  have hu8:=and_l hc
  have hS:=tH (and_r hc)
  unfold u8B at hu8
  have he:=qP (and_l hu8)
  have hinf:=and_r hu8
  split at hinf
  ·rename_i i hi
   have h1:=beq_eq (and_l hinf)
   have h2:=beq_eq (and_l (and_r hinf))
   have h3:=and_r (and_r hinf)
   split at h3
   ·    rename_i m hm
        have hm0:m=0:=of_decide_eq_true h3
        subst hm0
        split at h
        ·rename_i T2 s e2
         obtain⟨d1,e3,u2,rfl⟩:=oO e2
         split at h
         ·rename_i l e1
          split at h
          ·rename_i T5 es hl
           obtain⟨hc5,h⟩:=bif_some h
           obtain⟨hk0,h⟩:=pz h
           obtain⟨rs,hrs,h⟩:=Option.bind_eq_some_iff.1 h
           obtain⟨p1,p2⟩:=UL hrs
           subst p2
           obtain⟨d,hd,hn,hk⟩:=oq h
           refine⟨_,hk,fun σ' ag=>?_⟩
           have key:=OP (σ:=σ') (l:=l) (l':=σ.hs.length) ho hd hn (dJ hTe) (fE hc5).1 hS u2 he hi hm h1 h2 (aY ag hx e1) (by rw[ag.hs l (by simp)];exact hl) (by rw[ag.hs _ (by simp)];exact pF σ) (by rw[ag.k0];exact hk0) ((aY ag hy e3).cstr u2) p1
           rw[hd]
           exact key
          ·cases h
         ·cases h
        ·cases h
   ·cases h3
  ·cases hinf
 ·cases h
theorem aj8 {S1 S2 Te:TypeId} (ho:o.op= .convert S1 S2 x) (hTe:slE P S1=some Te) (h:Sj P n o σ Te S2 (opd P E.dt σ S1 x) k=some r):OpS P n o σ k r:=by
 have hx:x∈o.op.operands.toList:=by rw[ho];simp[Op.operands]
 unfold Sj at h
 obtain⟨hc,h⟩:=bif_some h
 have he:=qP (and_l hc)
 have hc1:=beq_eq (and_l (and_r hc))
 have hS:=tH (and_r (and_r hc))
 split at h
 ·rename_i rd ds hsrc
  obtain⟨s,hs,h⟩:=Option.bind_eq_some_iff.1 h
  unfold apK at hs
  obtain⟨hb,hs⟩:=bif_some hs
  have hlen:=Nat.le_of_ble_eq_true hb
  cases hs
  obtain⟨d,hd,hn,hk⟩:=oq h
  refine⟨_,hk,fun σ' ag=>?_⟩
  have key:=OQ (σ:=σ') ho hd hn (dJ hTe) hS he hc1 (ZL hsrc σ' (ru ag hx) fun l2 hl2=>ag.hs l2 (by simp[hl2])) hlen
  rw[hd]
  exact key
 ·cases h
end
end Go.Am
namespace Go.Am
open Go.RowKit
def CallOK {R:Type} (P:Program) (call:FuncId→List AV→List Ob→(Res→Option R)→Option R):Prop:=∀f args objs K r,call f args objs K=some r→∃q:Res,K q=some r∧FX P f args objs q.1 q.2∧HasBody P f
theorem vQ {ρ:Nat→Option Nat} {c:Nat}:∀{os:List Ob} {src:List Nat} {nm:Nat} {hs:List Ob},c∉src→¬(nm≤c∧c<nm+(os.length-src.length))→lk (wrO hs (wG ρ nm src os)) c=lk hs c
 | [],src,nm,hs,_,_=>by cases src<;>rfl
 |o::os,[],nm,hs,h1,h2=>by
  simp only[wG,wrO]
  rw[vQ (by simp) (by simp only[List.length_cons,List.length_nil] at h2 ⊢;omega),bX]
  intro e;subst e;simp only[List.length_cons,List.length_nil] at h2;omega
 |o::os,l::src,nm,hs,h1,h2=>by
  simp only[List.mem_cons,not_or] at h1
  simp only[wG,wrO]
  rw[vQ h1.2 (by simp only[List.length_cons] at h2 ⊢;omega),bX _ _ _ _ h1.1]
theorem Rb {ρ:Nat→Option Nat}:∀{os:List Ob} {src:List Nat} {nm:Nat} {hs:List Ob} {i l:Nat},src.Nodup→(∀l∈src,¬(nm≤l∧l<nm+(os.length-src.length)))→src.length≤os.length→src[i]? =some l→lk (wrO hs (wG ρ nm src os)) l=(lk os i).ren ρ
 | [],src,nm,hs,i,l,_,_,h3,h4=>by
   have:src=[]:=List.eq_nil_of_length_eq_zero (by simpa using h3)
   subst this
   simp at h4
 |o::os,[],nm,hs,i,l,_,_,_,h4=>by simp at h4
 | o::os,m::src,nm,hs,i,l,h1,h2,h3,h4=>by
   obtain⟨hm,hnd⟩:=List.nodup_cons.1 h1
   simp only[wG,wrO]
   cases i with
   |zero=>
    simp only[List.getElem?_cons_zero,Option.some.injEq] at h4
    subst h4
    rw[vQ hm (by have:=h2 m (by simp);simp only[List.length_cons] at this ⊢;omega),j5]
    rfl
   |succ i=>
    simp only[List.getElem?_cons_succ] at h4
    rw[Rb hnd (fun l hl=>by have:=h2 l (by simp[hl]);simp only[List.length_cons] at this ⊢;omega) (by simpa using h3) h4]
    rfl
theorem I9 {ρ:Nat→Option Nat}:∀{os:List Ob} {src:List Nat} {nm:Nat} {hs:List Ob} {j:Nat},(∀l∈src,¬(nm≤l∧l<nm+(os.length-src.length)))→src.length≤j→j<os.length→lk (wrO hs (wG ρ nm src os)) (nm+(j-src.length))=(lk os j).ren ρ
 | [],src,nm,hs,j,_,_,h3=>by simp at h3
 |o::os,[],nm,hs,j,h1,h2,h3=>by
  simp only[wG,wrO]
  cases j with
  |zero=>
   simp only[List.length_nil,Nat.sub_zero,Nat.add_zero]
   rw[vQ (by simp) (by simp only[List.length_nil];omega),j5]
   rfl
  |succ j=>
   have:=I9 (ρ:=ρ) (os:=os) (src:=[]) (nm:=nm+1) (hs:=dX hs nm (o.ren ρ)) (j:=j) (by simp) (by simp) (by simpa using h3)
   simp only[List.length_nil,Nat.sub_zero] at this ⊢
   rw[show nm+(j+1)=nm+1+j by omega,this]
   rfl
 |o::os,m::src,nm,hs,j,h1,h2,h3=>by
  simp only[wG,wrO]
  cases j with
  |zero=>simp at h2
  |succ j=>
   have:=I9 (ρ:=ρ) (os:=os) (src:=src) (nm:=nm) (hs:=dX hs m (o.ren ρ)) (j:=j) (fun l hl=>by have:=h1 l (by simp[hl]);simp only[List.length_cons] at this ⊢;omega) (by simpa using h2) (by simpa using h3)
   simp only[List.length_cons] at this ⊢
   rw[show nm+(j+1-(src.length+1))=nm+(j-src.length) by omega,this]
   rfl
theorem ahP {src:List Nat} {nm:Nat} {hs os:List Ob} (h1:src.Nodup) (h2:∀l∈src,¬(nm≤l∧l<nm+(os.length-src.length))) (h3:src.length≤os.length):BackH src nm hs os (wrO hs (wG (bkN src nm) nm src os)):=
 ⟨fun i l h=>Rb h1 h2 h3 h,fun j h4 h5=>I9 h2 h4 h5,fun c h4 h5=>vQ h4 h5⟩
theorem F9 {hs:List Ob}:∀{src:List Nat},allNames hs src=true→∀l∈src,lk hs l≠ .free
 | [],_,l,hl=>by simp at hl
 |m::r,h,l,hl=>by
  unfold allNames at h
  rcases List.mem_cons.1 hl with e|hl
  ·subst e
   intro e
   have:=and_l h
   rw[e] at this
   cases this
  ·exact F9 (and_r h) l hl
theorem NH {l:Nat}:∀{m k:Nat},k≤l→l<k+m→l∈upto k m
 |0,k,h1,h2=>by omega
 |m+1,k,h1,h2=>by
  simp only[upto,List.mem_cons]
  by_cases h:l=k
  ·exact .inl h
  ·exact .inr (NH (by omega) (by omega))
theorem ZM:∀(Ts:List TypeId) (hs:List Ob) (k:Nat),wrO hs (ae0 k Ts)=zV hs k Ts
 | [],_,_=>rfl
 |T::r,hs,k=>by simp only[ae0,wrO,zV];exact ZM r _ _
theorem Rf:∀{Ts:List TypeId} {hs:List Ob} {k l:Nat},k+Ts.length≤l→lk hs l= .free→lk (zV hs k Ts) l= .free
 | [],_,_,_,_,h=>h
 |T::r,hs,k,l,h1,h2=>by
  simp only[List.length_cons] at h1
  simp only[zV]
  refine Rf (by omega) ?_
  rw[bX _ _ _ _ (by omega)]
  exact h2
theorem WS (ρ:Nat→Option Nat) (hs:List Ob):∀src:List Nat,(sP ρ hs src).length=src.length
 | []=>rfl
 |_::r=>by simp[sP,WS ρ hs r]
section
variable {P:Program} {n:Nat} {o:Oper} {σ τ:St} {x y:Operand} {v:AV} {T:TypeId} {R:Type} {E:Env} {k:Dl→Option R} {r:R} {call:FuncId→List AV→List Ob→(Res→Option R)→Option R}
theorem adC (o:Ob):(CZ P o).isOwn=o.isOwn:=by
 unfold CZ
 split
 ·split
  ·cases Nat.beq _ _<;>rfl
  ·rfl
 ·rfl
theorem adD {ok:Nat→Prop} {w:World} {β:Nat→Option Value} {v:Option Value} {o:Ob} (h:ObOK P ok w β o v):ObOK P ok w β (CZ P o) v:=by
 unfold CZ
 split
 ·rename_i T c
  split
  ·rename_i T' d hp
   cases hb:Nat.beq T' T
   ·exact h
   ·    have e:=beq_eq hb
        subst e
        obtain⟨b,cs,h1,h2,h3,h4⟩:=h
        have hrd:=jA (hs:=[]) (fun l T es hl=>by cases l<;>cases hl) h4 hp
        exact⟨b,cs,h1,h2,h3,.dat (by rw[F7 hrd];exact hrd)⟩
  ·exact h
 ·exact h
theorem JE (os:List Ob) (l:Nat):lk (os.map (CZ P)) l=CZ P (lk os l):=by
 induction os generalizing l with
 |nil=>rfl
 |cons o r ih=>cases l with
  |zero=>rfl
  |succ l=>exact ih l
theorem ahQ {f:FuncId} {args:List AV} {b:Bool} {os hs':List Ob} {res:AV} (h:FX P f args (akV P b os) res hs'):FX P f args os res hs':=by
 cases b
 ·exact h
 replace h:FX P f args (os.map (CZ P)) res hs':=h
 intro ok w β zs h1 h2 h3 h4 h5
 have hown:∀l b,owns (os.map (CZ P)) β l b↔owns os β l b:=fun l b=>by simp only[owns,JE,adC]
 have hX:XO (os.map (CZ P)) β=XO os β:=by
  funext b
  apply propext
  exact⟨fun⟨l,hl⟩=>⟨l,(hown l b).1 hl⟩,fun⟨l,hl⟩=>⟨l,(hown l b).2 hl⟩⟩
 have hc:=h ok w β zs (fun b hb=>by rw[hX];exact h1 b hb) (fun l=>by rw[JE];exact adD (h2 l)) (fun l l' b q1 q2=>h3 l l' b ((hown _ _).1 q1) ((hown _ _).1 q2)) h4 h5
 refine hc.mono ?_
 rintro e w' ⟨v,β',rfl,hf,hr⟩
 obtain⟨f1,f2,f3,f4,f5⟩:=hf
 rw[hX,List.length_map] at f2 hr
 rw[hX] at f1
 exact⟨v,β',rfl,⟨f1,f2,f3,fun l b q=>by have:=f4 l b q;rwa [hX] at this,fun l hl=>f5 l (by rw[List.length_map];exact hl)⟩,hr⟩
theorem Uf {src:List Nat} {hs:List Ob}:∀(ws:List (Nat×Ob)) (hs':List Ob),(ws.map (·.1)).Nodup→(∀l∈src,l∈ws.map (·.1)→lk hs' l=lk hs l)→∀l,lk (wrO hs' (ae4 hs src ws)) l=lk (wrO hs' ws) l
 | [],_,_,_,_=>rfl
 |(k,o)::r,hs',hn,ha,l=>by
  simp only[List.map_cons,List.nodup_cons] at hn
  unfold ae4
  cases hb:nL k src&&ae3 o (lk hs k) with
  |true=>
   simp only[cond_true]
   rw[Uf r hs' hn.2 (fun l h1 h2=>ha l h1 (List.mem_cons_of_mem _ h2)) l]
   have e1:lk hs' k=o:=by rw[ha k (yx.1 (and_l hb)) (by simp),aaK (and_r hb)]
   simp only[wrO]
   refine(pO (ls:=[l]) (fun c hc=>?_) l (by simp)).symm
   rw[jq]
   split
   ·next h=>rw[h,e1]
   ·rfl
  |false=>
   simp only[cond_false,wrO]
   refine Uf r _ hn.2 (fun c h1 h2=>?_) l
   rw[bX _ _ _ _ (fun e=>hn.1 (by rw[←e];exact h2))]
   exact ha c h1 (List.mem_cons_of_mem _ h2)
theorem ahR {b:Bool} {src:List Nat} {hs hs':List Ob} {ws:List (Nat×Ob)} (ha:∀l∈src,lk hs' l=lk hs l) (l:Nat):lk (wrO hs' (keepW b hs src ws)) l=lk (wrO hs' ws) l:=by
 unfold keepW
 cases hb:b&&nodupB (ws.map (·.1)) with
 |true=>exact Uf ws hs' (ou (and_r hb)) (fun c hc _=>ha c hc) l
 |false=>rfl
theorem ab3 (hcall:CallOK P call) {f:FuncId} {as:List AV} {hs1:List Ob} {rd0:List Nat} {wr0:List (Nat×Ob)} {nm:Nat} {src:List Nat}
  (h1:hs1=wrO σ.hs wr0) (hnm:σ.hs.length≤nm) (hfree:∀l,nm≤l→lk hs1 l= .free)
  (hpre:∀σ' rd,Agr o σ σ' (rd0++rd)→(∀l,σ.hs.length≤l→l<nm→l∈rd)→∀(K:OkX) (w0:World) (a:Act) (w:World),Rel P K w0 n σ' a w→σ.k0≤σ.hs.length→∃(β1:Nat→Option Value) (zs:List Value),RelB P K w0 n ⟨σ'.ts,wrO σ'.hs wr0,σ'.k0⟩ a w β1∧(HasBody P f→(execOp a.eval o).run P w= .ok (.enter f zs.toArray) w)∧RVsX P (okOf K w0 w (wrO σ'.hs wr0) β1) w β1 as zs)
  (h:uZ P E call n o σ f as hs1 rd0 wr0 nm src k=some r):OpS P n o σ k r:=by
 unfold uZ at h
 have hh_:=bif_some h
 clear h
 obtain⟨hc,h⟩:=hh_
 have hh_:=hcall _ _ _ _ _ h
 clear h
 obtain⟨q,h,hfx,hbody⟩:=hh_
 replace hfx:=ahQ hfx
 have hh_:=bif_some h
 clear h
 obtain⟨hc2,h⟩:=hh_
 have hnd:=ou (and_l hc)
 have hsf:=F9 (and_l (and_r hc))
 have hk0:σ.k0≤σ.hs.length:=Nat.le_of_ble_eq_true (and_r (and_r hc))
 have hlen:=Nat.le_of_ble_eq_true (and_l hc2)
 have hsrcnew:∀l∈src,¬(nm≤l∧l<nm+(q.2.length-src.length)):=fun l hl hc=>hsf l hl (hfree l hc.1)
 refine⟨_,h,fun σ' ag=>?_⟩
 have hagr1:∀l∈src++upto σ.hs.length ((nm-σ.hs.length)+(q.2.length-src.length)),lk (wrO σ'.hs wr0) l=lk hs1 l:=by
  intro l hl
  rw[h1]
  exact pO (ls:=src++upto σ.hs.length ((nm-σ.hs.length)+(q.2.length-src.length))) (fun l hl=>ag.hs l (List.mem_append_right _ hl)) l hl
 have hobj:∀i l,src[i]? =some l→lk (sP (ix src) hs1 src) i=(lk (wrO σ'.hs wr0) l).ren (ix src):=by
  intro i l hi
  rw[Kv,hi]
  simp only[KV]
  rw[hagr1 l (List.mem_append_left _ (List.mem_of_getElem? hi))]
 have hfr:∀j,j<q.2.length-src.length→lk (wrO σ'.hs wr0) (nm+j)= .free:=by
  intro j hj
  rw[hagr1 _ (List.mem_append_right _ (NH (by omega) (by omega)))]
  exact hfree _ (by omega)
 have hsf':∀l∈src,lk (wrO σ'.hs wr0) l≠ .free:=fun l hl=>by rw[hagr1 l (List.mem_append_left _ hl)];exact hsf l hl
 intro K w0 a w rr Kt Q hK
 obtain⟨β1,zs,r1,hrun,ha⟩:=hpre σ' _ ag (fun l h3 h4=>List.mem_append_right _ (NH h3 (by omega))) K w0 a w rr hk0
 have hback:=ahP (hs:=wrO σ'.hs wr0) hnd hsrcnew hlen
 refine aeg (σ:=St.mk σ'.ts (wrO σ'.hs wr0) σ'.k0) (as:=as) (res:=q.1) (hrun hbody) hnd (WS _ _ _) hobj hfx hfr (by show σ'.k0≤nm;rw[ag.k0];omega) hsf' hback r1 ha Kt Q fun z w' β'' h3 h4=>hK _ _ ?_
 have hI:Imp P n (σ'.app o.dst ⟨o.dst.map fun _=>q.1.ren (bkN src nm),rd0++(src++upto σ.hs.length ((nm-σ.hs.length)+(q.2.length-src.length))),wr0++wG (bkN src nm) nm src q.2⟩) (σ'.app o.dst ⟨o.dst.map fun _=>q.1.ren (bkN src nm),rd0++(src++upto σ.hs.length ((nm-σ.hs.length)+(q.2.length-src.length))),wr0++keepW (E.rdo f) hs1 src (wG (bkN src nm) nm src q.2)⟩):=by
  refine Rel.congr (fun k=> .inr rfl) (fun l=>?_) rfl
  unfold St.app
  simp only
  rw[sO,sO]
  exact ahR (fun c hc=>hagr1 c (List.mem_append_left _ hc)) l
 refine hI _ _ _ _ ?_
 unfold St.app
 simp only
 rw[sO]
 cases hd:o.dst with
 |none=>exact⟨β'',h3⟩
 |some d=>
  have hn:d<n:=by
   have:=and_r hc2
   unfold ac3 at this
   rw[hd] at this
   exact Nat.le_of_ble_eq_true this
  exact Rel.put h3 hn h4
theorem ZN (hcall:CallOK P call) {g:Operand} {xs:Array Operand} {Ts:Array TypeId} {f:FuncId} {as caps:List AV} {hs1:List Ob} {rd0:List Nat} {wr0:List (Nat×Ob)} {nm:Nat} {src:List Nat} (ho:o.op= .call ⟨.value g,xs,Ts⟩) (hcap:∀v∈caps,v.isAgg P=false∧∀us,v≠ .tup us)
  (h1:hs1=wrO σ.hs wr0) (hnm:σ.hs.length≤nm) (hfree:∀l,nm≤l→lk hs1 l= .free)
  (hpre:∀σ' rd,Agr o σ σ' (rd0++rd)→(∀l,σ.hs.length≤l→l<nm→l∈rd)→∀(K:OkX) (w0:World) (a:Act) (w:World),Rel P K w0 n σ' a w→σ.k0≤σ.hs.length→∃β1,RelB P K w0 n ⟨σ'.ts,wrO σ'.hs wr0,σ'.k0⟩ a w β1∧RV P (okOf K w0 w (wrO σ'.hs wr0) β1) w β1 (.fn f caps) (a.eval g)∧RVsX P (okOf K w0 w (wrO σ'.hs wr0) β1) w β1 as (xs.toList.map a.eval))
  (h:uZ P E call n o σ f (as++caps) hs1 rd0 wr0 nm src k=some r):OpS P n o σ k r:=by
 refine ab3 hcall h1 hnm hfree (fun σ' rd ag hin K w0 a w rr hk0=>?_) h
 obtain⟨β1,r1,hg,ha⟩:=hpre σ' rd ag hin K w0 a w rr hk0
 obtain⟨cv,ecv,hcv⟩:=UW hg hcap
 exact⟨β1,_,r1,fun hb=>Qd (xs:=xs.toList) (by rw[ho]) hb a w ecv,ha.app hcv⟩
theorem RVsX.map_pk {b:Bool} {ok:Nat→Prop} {w:World} {β:Nat→Option Value} {hs:List Ob} {vs:List AV} {zs:List Value} (hf:EK P ok w β hs) (hfa:∀l T es,lk hs l= .frz T es→bW P T=false) (h:RVsX P ok w β vs zs):RVsX P ok w β (vs.map (pkA P b hs)) zs:=by
 induction h with
 |nil=>exact .nil
 |cons h _ ih=>
  refine .cons ?_ ih
  unfold pkA
  cases (b&&Sg _) with
  |true=>exact h
  |false=>
  simp only[cond_false]
  split
  ·rename_i T d hp;exact h.pk hf hfa hp
  ·exact h
theorem RVsX.n2r {ok:Nat→Prop} {w:World} {β:Nat→Option Value} {vs:List AV} {zs:List Value} (h:RVsX P ok w β vs zs):∀k,Gq β k (AV.n2rL P vs k).2.length→RVsX P ok w β (AV.n2rL P vs k).1 zs:=by
 induction h with
 |nil=>intro k _;exact .nil
 |cons h _ ih=>
  intro k hb
  simp only[AV.n2rL,List.length_append] at hb ⊢
  exact .cons (h.n2r k hb.left) (ih _ hb.right)
theorem RV.dn {ok:Nat→Prop} {w:World} {β:Nat→Option Value} {v:AV} {z:Value} (h:RV P ok w β v z):RV P ok w β (dn1 P v) z:=by
 unfold dn1
 split
 ·split
  ·rename_i hu
   have h1:=h.2 rfl
   cases h1 with
   |nils=>exact(RV.dat_one (bJ hu rfl)).2 (RD.nil hu)
  ·exact h
 ·exact h
theorem RVsX.dn {ok:Nat→Prop} {w:World} {β:Nat→Option Value} {vs:List AV} {zs:List Value} (ps:List Nat) (h:RVsX P ok w β vs zs):∀k,RVsX P ok w β (dnL P ps k vs) zs:=by
 induction h with
 |nil=>intro k;exact .nil
 |cons h _ ih=>
  intro k
  refine .cons ?_ (ih _)
  cases nL k ps
  ·exact h
  ·exact h.dn
theorem RVsX.mono {ok ok':Nat→Prop} {w w':World} {β β':Nat→Option Value} {vs:List AV} {zs:List Value} (h:RVsX P ok w β vs zs) (hk:∀b,ok b→ok' b∧w'.heap[b]? =w.heap[b]?) (hβ:Ext β β'):RVsX P ok' w' β' vs zs:=by
 induction h with
 |nil=>exact .nil
 |cons h _ ih=>exact .cons (h.mono hk hβ) ih
theorem Ug (P:Program):∀(vs:List AV) (k:Nat),∀T∈(AV.n2rL P vs k).2,∃E,P.underlying T=some (.slice E)
 | [],k,T,h=>by simp[AV.n2rL] at h
 |v::vs,k,T,h=>by
  simp only[AV.n2rL,List.mem_append] at h
  rcases h with h|h
  ·exact X9 P v k T h
  ·exact Ug P vs _ T h
theorem Uh {b:Bool} {hs hs':List Ob}:∀{vs:List AV},(∀l∈AV.rwsL vs,lk hs' l=lk hs l)→vs.map (pkA P b hs')=vs.map (pkA P b hs)
 | [],_=>rfl
 |v::r,h=>by
  simp only[List.map_cons]
  rw[Uh (vs:=r) fun l hl=>h l (by simp[AV.rwsL,hl])]
  congr 1
  unfold pkA
  rw[BH (hs:=hs) (hs':=hs') v fun l hl=>h l (by simp[AV.rwsL,hl])]
theorem NI:∀(Ts:List TypeId) (σ:St) (K:OkX) (w0 w:World) (a:Act) (β:Nat→Option Value) (k:Nat),RelB P K w0 n σ a w β→(∀T∈Ts,∃E,P.underlying T=some (.slice E))→(∀i,k≤i→i<k+Ts.length→lk σ.hs i= .free)→σ.k0≤k→
  ∃β',RelB P K w0 n ⟨σ.ts,zV σ.hs k Ts,σ.k0⟩ a w β'∧Ext β β'∧Gq β' k Ts.length∧∀b,okOf K w0 w σ.hs β b→okOf K w0 w (zV σ.hs k Ts) β' b
 | [],σ,K,w0,w,a,β,k,r,_,_,_=>⟨β,r,Ext.refl _,fun i h1 h2=>by simp at h2;omega,fun b hb=>hb⟩
 |T::Ts,σ,K,w0,w,a,β,k,r,hT,hf,hk=>by
  obtain⟨E,hu⟩:=hT T (by simp)
  have hfk:=hf k (Nat.le_refl _) (by simp)
  have r1:=r.nilrow hu hfk hk
  obtain⟨β',r2,e2,n2,o2⟩:=NI Ts (σ.lay k (.row T [])) K w0 w a _ (k+1) r1 (fun T' h=>hT T' (by simp[h])) (fun i hi hi2=>by
   show lk (dX σ.hs k _) i= .free
   rw[bX _ _ _ _ (by omega)];exact hf i (by omega) (by simp;omega)) (by show σ.k0≤k+1;omega)
  have hb:β k=none:=by have:=r.hs k;rw[hfk] at this;exact this
  have e1:Ext β (upB β k (some (.slice none 0 0))):=fun i z hz=>by
   by_cases hik:i=k
   ·subst hik;rw[hb] at hz;cases hz
   ·rw[iQ _ _ _ _ hik];exact hz
  refine⟨β',r2,e1.trans e2,fun i h1 h2=>?_,fun b hb2=>o2 b ⟨hb2.1,hb2.2.1,fun j hj=>?_⟩⟩
  ·by_cases hik:i=k
   ·subst hik;exact e2 _ _ (dP _ _ _)
   ·exact n2 i (by omega) (by simp at h2 ⊢;omega)
  ·obtain⟨q1,z',q2,q3⟩:=hj
   by_cases hjk:j=k
   ·    subst hjk
        rw[dP] at q2
        cases q2
        simp[blk] at q3
   ·    rw[iQ _ _ _ _ hjk] at q2
        have q1':(lk (dX σ.hs k (.row T [])) j).isOwn=true:=q1
        rw[bX _ _ _ _ hjk] at q1'
        exact hb2.2.2 j ⟨q1',z',q2,q3⟩
theorem ab4 {ok ok':Nat→Prop} {w w':World} {β β':Nat→Option Value} {v:AV} {z:Value} (hs:scV P v=true) (h:RV1 P ok w β v z):RV1 P ok' w' β' v z:=by
 cases v with
 |dat   T d=>
  simp only[scV,scT] at hs
  have hag:bW P T=false:=by
   unfold bW
   split at hs<;>simp_all
  have h1:=h.2 hag
  refine⟨fun e=>(by rw[show AV.isAgg P (.dat T d)=false from hag] at e;cases e),fun _=>?_⟩
  cases h1 with
  |dat h1=>
   refine .dat ?_
   split at hs
   ·    rename_i hu
        obtain⟨e1,e2,e3,e4⟩:=h1.int_inv hu
        rw[e1,e2];exact .int hu e3 e4
   ·    rename_i hu
        obtain⟨e1,e2⟩:=h1.bool_inv hu
        rw[e1,e2];exact .bool hu
   ·    rename_i hu
        obtain⟨e1,e2,e3⟩:=h1.str_inv hu
        rw[e1,e2];exact .str hu e3
   ·cases hs
 |_=>cases hs
theorem aj9 {ok ok':Nat→Prop} {w w':World} {β β':Nat→Option Value} {v:AV} {z:Value} (hs:scR P v=true) (h:RV P ok w β v z):RV P ok' w' β' v z:=by
 cases v with
 |tup vs=>
  obtain⟨arr,e,hl,h⟩:=h
  exact⟨arr,e,hl,fun i av hv=>ab4 (List.all_eq_true.1 hs av (List.mem_of_getElem? hv)) (h i av hv)⟩
 |dat T d=>exact ab4 hs h
 |_=>cases hs
theorem ahS (hcall:CallOK P call) {g:Operand} {xs:Array Operand} {Ts:Array TypeId} {f:FuncId} {as caps:List AV} {rd:List Nat} (ho:o.op= .call ⟨.value g,xs,Ts⟩) (hcap:∀v∈caps,v.isAgg P=false∧∀us,v≠ .tup us)
  (hpre:∀σ',Agr o σ σ' rd→∀(K:OkX) (w0:World) (a:Act) (w:World),Rel P K w0 n σ' a w→∃hs1 β1,RelB P K w0 n ⟨σ'.ts,hs1,σ'.k0⟩ a w β1∧RV P (fun b=>b<w.heap.size) w β1 (.fn f caps) (a.eval g)∧RVsX P (fun b=>b<w.heap.size) w β1 as (xs.toList.map a.eval))
  (h:(call f (AV.renL (ix []) (as++caps)) [] fun q=>bif (scR P q.1&&(isNil q.2&&ac3 n o)) then k ⟨o.dst.map fun _=>q.1,rd,[]⟩ else none)=some r):OpS P n o σ k r:=by
 have hh_:=hcall _ _ _ _ _ h
 clear h
 obtain⟨q,h,hfx,hbody⟩:=hh_
 have hh_:=bif_some h
 clear h
 obtain⟨hc2,h⟩:=hh_
 have hsc:=and_l hc2
 have hnil:q.2=[]:=by
  have:=and_l (and_r hc2)
  cases hq:q.2 with
  |nil=>rfl
  |cons a b=>rw[hq] at this;cases this
 refine⟨_,h,fun σ' ag=>?_⟩
 intro K w0 a w rr Kt Q hK
 obtain⟨hs1,β1,r1,hg,ha⟩:=hpre σ' ag K w0 a w rr
 obtain⟨β,rb⟩:=rr
 obtain⟨cv,ecv,hcv⟩:=UW hg hcap
 have hargs:=(ha.app hcv).ren (zl [] β1)
 have no:∀(β:Nat→Option Value) l b,¬owns [] β l b:=fun β l b h=>by obtain⟨h1,_⟩:=h;cases l<;>cases h1
 have hc:=hfx (fun b=>b<w.heap.size) w (sQ [] β1) _ (fun b hb=>⟨hb,fun⟨l,hx⟩=>no _ _ _ hx⟩) (fun i=>by cases i<;>rfl) (fun l l' b h1=>(no _ _ _ h1).elim) hargs (r1.tab.mono fun b hb=>⟨hb.1,rfl⟩)
 rw[hnil] at hc
 have ho':o.op= .call {callee:= .value g,args:=xs.toList.toArray,argTypes:=Ts}:=by rw[ho]
 unfold Oper.wp
 rw[Qd ho' hbody a w ecv,Oper.upon_enter]
 refine hc.mono ?_
 rintro e w' ⟨z,β',rfl,fin,hz⟩
 have hbel:Below w.heap.size w w':=⟨fin.below.os,fin.below.tape,fin.below.output,fin.below.size,fun b hb=>fin.below.block b hb (fun⟨l,hx⟩=>no _ _ _ hx)⟩
 obtain⟨rg,_⟩:=rb.grow hbel
 refine hK _ _ ?_
 unfold St.app
 simp only
 cases hd:o.dst with
 |none=>exact⟨β,rg⟩
 |some d=>
  have hn:d<n:=by
   have:=and_r (and_r hc2)
   unfold ac3 at this
   rw[hd] at this
   exact Nat.le_of_ble_eq_true this
  exact Rel.put rg hn (aj9 hsc hz)
theorem aqr {A:Type} {b:Bool} {x y z:A} (h:(bif b then x else y)=z):(b=true∧x=z)∨(b=false∧y=z):=by cases b<;>simp_all
theorem WT:∀us vs:List AV,AV.nmsL (us++vs)=AV.nmsL us++AV.nmsL vs
 | [],vs=>by simp[AV.nmsL]
 |u::us,vs=>by simp[AV.nmsL,WT us vs]
theorem NJ {v:AV} {l:Nat}:∀{vs:List AV},v∈vs→l∈v.rws→l∈AV.rwsL vs
 |u::us,h,hl=>by
  simp only[AV.rwsL,List.mem_append]
  rcases List.mem_cons.1 h with e|h
  ·subst e;exact .inl hl
  ·exact .inr (NJ h hl)
theorem WU {hs:List Ob} {ts:List AV} {k0:Nat} {K:OkX} {w0 w:World} {a:Act} {β:Nat→Option Value} {cs:List Value} (rb:RelB P K w0 n ⟨ts,hs,k0⟩ a w β) (h:RA P (fun b=>b<w.heap.size) w β v cs):RA P (fun b=>b<w.heap.size) w β (qR P hs v) cs:=by
 unfold qR
 split
 ·rename_i l
  split
  ·rename_i T c hl
   split
   ·    rename_i T' d hp
        cases hb:Nat.beq T' T
        ·exact h
        ·have e:=beq_eq hb
         subst e
         simp only[cond_true]
         have ho:=rb.hs l
         rw[show lk (St.mk ts hs k0).hs l=lk hs l from rfl,hl] at ho
         obtain⟨b,cc,e1,e2,e3,e4⟩:=ho
         cases h with
         | @ptr _ b' off path hβ=>
           rw[e1] at hβ
           simp only[Option.some.injEq,Value.pointer.injEq,Addr.mk.injEq,and_true] at hβ
           subst hβ
           have hrd:=jA rb.frzOK e4 hp
           have hlt:b<w.heap.size:=(Array.getElem?_eq_some_iff.1 e2).1
           refine .rptr (ad:=⟨b,0,none⟩) (cs:=cc.toList) hlt (by rw[Array.length_toList];exact e3) (fun j u hu=>?_) (hrd.mono fun b hb=>⟨hb.1,rfl⟩)
           rw[qJ,Nat.zero_add]
           simp only[World.cell?,e2]
           rw[Array.getElem?_toList] at hu
           simpa using hu
   ·exact h
  ·exact h
 ·exact h
theorem JF {hs:List Ob} (hv:v.isAgg P=false∧∀us,v≠ .tup us):(qR P hs v).isAgg P=false∧∀us,qR P hs v≠ .tup us:=by
 unfold qR
 split
 ·split
  ·split
   ·    cases Nat.beq _ _
        ·exact hv
        ·exact⟨rfl,fun us h=>by cases h⟩
   ·exact hv
  ·exact hv
 ·exact hv
theorem WW {hs:List Ob} {ts:List AV} {k0:Nat} {K:OkX} {w0 w:World} {a:Act} {β:Nat→Option Value} {z:Value} (rb:RelB P K w0 n ⟨ts,hs,k0⟩ a w β) (h:RV P (fun b=>b<w.heap.size) w β v z):RV P (fun b=>b<w.heap.size) w β (Aq P hs v) z:=by
 cases v with
 |fn f caps=>
  have h1:=h.2 rfl
  refine⟨fun hi=>(by cases hi),fun _=>?_⟩
  show RA P _ w β (.fn f (caps.map (qR P hs))) [z]
  cases h1 with
  | @fn _ _ cv hl hh=>
    refine .fn (by rw[List.length_map];exact hl) fun i av hav=>?_
    rw[List.getElem?_map] at hav
    obtain⟨u,hu,rfl⟩:=Option.map_eq_some_iff.1 hav
    exact WU rb (hh i u hu)
 |ptr l path off=>
  have h1:=h.2 rfl
  have h2:=WU rb h1
  have hp:(AV.ptr l path off).isAgg P=false∧∀us,AV.ptr l path off≠ .tup us:=⟨rfl,fun us h=>by cases h⟩
  have h3:=JF (hs:=hs) hp
  show RV P _ w β (qR P hs (.ptr l path off)) z
  have h4:RV1 P (fun b=>b<w.heap.size) w β (qR P hs (.ptr l path off)) z:=⟨fun hi=>(by rw[h3.1] at hi;cases hi),fun _=>h2⟩
  exact h4.toRV h3.2
 |_=>exact h
theorem Ga {T:TypeId} {c:AV}:∀{ls:List Nat} {hs:List Ob} {l:Nat},lk (wrO hs (Am.frzW hs ls)) l= .box T c→lk hs l= .box T c
 | [],hs,l,h=>h
 |k::r,hs,l,h=>by
  unfold Am.frzW at h
  split at h
  ·rename_i T' es hk
   have h2:=Ga (ls:=r) (hs:=dX hs k (.frz T' es)) h
   by_cases e:l=k
   ·subst e;rw[j5] at h2;cases h2
   ·rwa [bX _ _ _ _ e] at h2
  ·exact Ga h
theorem Br {hs:List Ob} {T:TypeId} {c:AV} {l q:Nat}:∀{ls:List Nat},l∈ls→lk hs l= .box T c→q∈c.rws→q∈bG hs ls
 |k::r,h,hl,hq=>by
  simp only[bG,List.mem_append]
  rcases List.mem_cons.1 h with e|h
  ·subst e;left;rw[hl];exact hq
  ·exact .inr (Br h hl hq)
theorem Rh {hs hs':List Ob} (h1:∀l∈v.nms,lk hs' l=lk hs l) (h2:∀l∈v.nms,∀T c,lk hs l= .box T c→∀q∈c.rws,lk hs' q=lk hs q):qR P hs' v=qR P hs v:=by
 cases v with
 |ptr   l path off=>
  have hl:l∈(AV.ptr l path off).nms:=by simp[AV.nms]
  cases path with
  |nil    =>
   cases off with
   |    zero=>
        simp only[qR,h1 l hl]
        cases hk:lk hs l with
        | box T c=>
          simp only
          rw[BH (P:=P) (hs:=hs) (hs':=hs') c (h2 l hl T c hk)]
        |_=>rfl
   |succ _=>rfl
  |cons _ _=>rfl
 |_=>rfl
theorem yh {hs hs':List Ob}:∀{vs:List AV},(∀l∈AV.nmsL vs,lk hs' l=lk hs l)→(∀l∈AV.nmsL vs,∀T c,lk hs l= .box T c→∀q∈c.rws,lk hs' q=lk hs q)→vs.map (qR P hs')=vs.map (qR P hs)
 | [],_,_=>rfl
 |v::r,h1,h2=>by
  simp only[List.map_cons]
  rw[Rh (fun l hl=>h1 l (by simp[AV.nmsL,hl])) (fun l hl=>h2 l (by simp[AV.nmsL,hl])),yh (vs:=r) (fun l hl=>h1 l (by simp[AV.nmsL,hl])) (fun l hl=>h2 l (by simp[AV.nmsL,hl]))]
theorem adE {hs hs':List Ob} (h1:∀l∈v.nms,lk hs' l=lk hs l) (h2:∀l∈v.nms,∀T c,lk hs l= .box T c→∀q∈c.rws,lk hs' q=lk hs q):Aq P hs' v=Aq P hs v:=by
 cases v with
 |fn f caps=>
  show AV.fn f (caps.map (qR P hs'))=AV.fn f (caps.map (qR P hs))
  rw[yh h1 h2]
 |ptr l path off=>exact Rh h1 h2
 |_=>rfl
theorem ab5 {b:Bool} {hs:List Ob}:∀l∈(pkA P b hs v).nms,l∈v.nms:=by
 intro l hl
 unfold pkA at hl
 cases hb:(b&&Sg v)
 ·rw[hb,cond_false] at hl
  split at hl
  ·simp[AV.nms] at hl
  ·exact hl
 ·rw[hb,cond_true] at hl;exact hl
theorem NK {b:Bool} {hs hs':List Ob} (h:∀l∈v.rws,lk hs' l=lk hs l):pkA P b hs' v=pkA P b hs v:=by
 unfold pkA
 rw[BH (hs:=hs) (hs':=hs') v h]
theorem Dk {b:Bool} {hs hs':List Ob}:∀{vs:List AV},(∀l∈AV.rwsL vs,lk hs' l=lk hs l)→(∀l∈AV.nmsL vs,lk hs' l=lk hs l)→(∀l∈AV.nmsL vs,∀T c,lk hs l= .box T c→∀q∈c.rws,lk hs' q=lk hs q)→(vs.map fun v=>Aq P hs' (pkA P b hs' v))=vs.map fun v=>Aq P hs (pkA P b hs v)
 | [],_,_,_=>rfl
 |v::r,h0,h1,h2=>by
  simp only[List.map_cons]
  rw[NK (hs:=hs) fun l hl=>h0 l (by simp[AV.rwsL,hl]),adE (fun l hl=>h1 l (by simp[AV.nmsL,ab5 l hl])) (fun l hl=>h2 l (by simp[AV.nmsL,ab5 l hl])),
   Dk (vs:=r) (fun l hl=>h0 l (by simp[AV.rwsL,hl])) (fun l hl=>h1 l (by simp[AV.nmsL,hl])) (fun l hl=>h2 l (by simp[AV.nmsL,hl]))]
theorem RVsX.map_lend {hs:List Ob} {ts:List AV} {k0:Nat} {K:OkX} {w0 w:World} {a:Act} {β:Nat→Option Value} {vs:List AV} {zs:List Value} (rb:RelB P K w0 n ⟨ts,hs,k0⟩ a w β) (h:RVsX P (fun b=>b<w.heap.size) w β vs zs):RVsX P (fun b=>b<w.heap.size) w β (vs.map (Aq P hs)) zs:=by
 induction h with
 |nil=>exact .nil
 |cons h _ ih=>exact .cons (WW rb h) ih
theorem Ja {pty:TypeId→Option TypeId} {hs:List Ob} {l:Nat} {ob:Ob} (h:ac1 P pty hs l=some ob):∃T c PT d,lk hs l= .box T c∧P.underlying PT=some (.pointer T)∧pk P hs c=some (T,d)∧ob= .frz PT [d]:=by
 unfold ac1 at h
 split at h
 ·rename_i T c hl
  split at h
  ·rename_i PT hPT
   split at h
   ·    rename_i T2 hT2
        split at h
        ·rename_i T' d hp
         obtain⟨hc,h⟩:=bif_some h
         cases h
         have e1:=beq_eq (and_l hc)
         have e2:=beq_eq (and_r hc)
         subst e1 e2
         exact⟨_,c,PT,d,hl,BJ hT2,hp,rfl⟩
        ·cases h
   ·cases h
  ·cases h
 ·cases h
theorem RelB.fzbW {K:OkX} {w0 w:World} {a:Act} {β:Nat→Option Value} {pty:TypeId→Option TypeId}:∀{bs:List Nat} {σ:St},RelB P K w0 n σ a w β→RelB P K w0 n ⟨σ.ts,wrO σ.hs (Am.fzbW P pty σ.hs bs),σ.k0⟩ a w β
 | [],σ,r=>r
 |l::bs,σ,r=>by
  unfold Am.fzbW
  split
  ·rename_i ob h1
   obtain⟨T,c,PT,d,h2,h3,h4,rfl⟩:=Ja h1
   exact RelB.fzbW (bs:=bs) (σ:=⟨σ.ts,dX σ.hs l (.frz PT [d]),σ.k0⟩) (r.frzBox h2 h4 h3)
  ·exact RelB.fzbW (bs:=bs) r
theorem ahT {pty:TypeId→Option TypeId} {hs hs':List Ob} {l:Nat} (h1:lk hs' l=lk hs l) (h2:∀T c,lk hs l= .box T c→∀q∈c.rws,lk hs' q=lk hs q):ac1 P pty hs' l=ac1 P pty hs l:=by
 unfold ac1
 rw[h1]
 split
 ·rename_i T c hl
  rw[BH (P:=P) (hs:=hs) (hs':=hs') c (h2 T c hl)]
 ·rfl
theorem NM {pty:TypeId→Option TypeId}:∀{bs:List Nat} {hs hs':List Ob},(∀l∈bs,lk hs' l=lk hs l)→(∀l∈bs,∀T c,lk hs l= .box T c→∀q∈c.rws,lk hs' q=lk hs q)→fzbW P pty hs' bs=fzbW P pty hs bs
 | [],_,_,_,_=>rfl
 |l::bs,hs,hs',h1,h2=>by
  unfold fzbW
  rw[ahT (h1 l (by simp)) (h2 l (by simp))]
  split
  ·rename_i ob hob
   obtain⟨T0,c0,PT,d,_,_,_,rfl⟩:=Ja hob
   rw[NM (bs:=bs) (hs:=dX hs l (.frz PT [d])) (hs':=dX hs' l (.frz PT [d])) (fun k hk=>?_) (fun k hk T c hkc q hq=>?_)]
   ·    rw[jq,jq]
        split
        ·rfl
        ·exact h1 k (by simp[hk])
   ·    rw[jq] at hkc
        rw[jq,jq]
        split
        ·rfl
        ·split at hkc
         ·cases hkc
         ·exact h2 k (by simp[hk]) T c hkc q hq
  ·exact NM (fun k hk=>h1 k (by simp[hk])) (fun k hk=>h2 k (by simp[hk]))
theorem Jb {pty:TypeId→Option TypeId}:∀{bs:List Nat} {hs:List Ob} {l:Nat},lk hs l= .free→lk (wrO hs (fzbW P pty hs bs)) l= .free
 | [],hs,l,h=>h
 |k::r,hs,l,h=>by
  unfold fzbW
  split
  ·rename_i ob hob
   obtain⟨T0,c0,PT,d,h2,_,_,rfl⟩:=Ja hob
   simp only[wrO]
   refine Jb ?_
   rw[jq]
   split
   ·rename_i e;subst e;rw[h] at h2;cases h2
   ·exact h
  ·exact Jb h
theorem ang {ok:Nat→Prop} {w:World} {β:Nat→Option Value} {hs:List Ob} {z:Value} (hf:EK P ok w β hs) (hfa:∀l T es,lk hs l= .frz T es→bW P T=false) (h:RV P ok w β v z):RV P ok w β (pkZ hs v) z:=by
 unfold pkZ
 split
 ·rename_i l
  split
  ·rename_i T es hl
   have h1:=h.2 rfl
   obtain⟨z',e,hr⟩:=hf l T es hl
   cases h1 with
   |    ptr hβ=>
        rw[hβ] at e
        cases e
        exact(RV.dat_one (hfa l T es hl)).2 hr
  ·exact h
 ·exact h
theorem RVsX.map_pkZ {b:Bool} {ok:Nat→Prop} {w:World} {β:Nat→Option Value} {hs:List Ob} {vs:List AV} {zs:List Value} (hf:EK P ok w β hs) (hfa:∀l T es,lk hs l= .frz T es→bW P T=false) (h:RVsX P ok w β vs zs):RVsX P ok w β (vs.map fun v=>pkZ hs (pkA P b hs v)) zs:=by
 have h2:=h.map_pk (b:=b) hf hfa
 generalize hus:vs.map (pkA P b hs)=us at h2
 have e:(vs.map fun v=>pkZ hs (pkA P b hs v))=us.map (pkZ hs):=by rw[←hus,List.map_map];rfl
 rw[e]
 clear e hus h
 induction h2 with
 |nil=>exact .nil
 |cons h _ ih=>exact .cons (ang hf hfa h) ih
theorem Ri {l:Nat}:∀{vs:List AV},.ptr l [] 0∈vs→l∈gJ vs
 |u::us,h=>by
  simp only[gJ,List.mem_append]
  rcases List.mem_cons.1 h with e|h
  ·subst e;left;simp
  ·exact .inr (Ri h)
theorem WX {b:Bool} {hs hs':List Ob} {vs:List AV} (h0:∀l∈AV.rwsL vs,lk hs' l=lk hs l) (h1:∀l∈gJ vs,lk hs' l=lk hs l):(vs.map fun v=>pkZ hs' (pkA P b hs' v))=vs.map fun v=>pkZ hs (pkA P b hs v):=by
 refine List.map_congr_left fun v hv=>?_
 rw[NK (hs:=hs) (hs':=hs') fun l hl=>h0 l (NJ hv hl)]
 cases v with
 |ptr l p q=>
  have e:pkA P b hs (.ptr l p q)= .ptr l p q:=by
   unfold pkA
   cases b<;>rfl
  rw[e]
  match p,q with
  | [],0=>simp only[pkZ];rw[h1 l (Ri hv)]
  | [],_+1=>rfl
  |_::_,_=>rfl
 |_=>
  unfold pkA
  cases b<;>simp only[Sg,Bool.and_false,Bool.and_true,cond_false,cond_true]<;>first|rfl|(split<;>rfl)
theorem s_call (hcall:CallOK P call) {g:Operand} {xs:Array Operand} {Ts:Array TypeId} (ho:o.op= .call ⟨.value g,xs,Ts⟩) (h:Yo P E call n o σ g xs.toList Ts.toList k=some r):OpS P n o σ k r:=by
 have hg:g∈o.op.operands.toList:=by rw[ho];simp[Op.operands,Call.operands]
 have hxs:∀z∈xs.toList,z∈o.op.operands.toList:=by intro z hz;rw[ho];simp[Op.operands,Call.operands];right;simpa using hz
 unfold Yo at h
 split at h
 ·rename_i f caps e1
  have hh_:=bif_some h
  clear h
  obtain⟨hc,h⟩:=hh_
  have hlen:=beq_eq (and_l hc)
  have hcap:=DC (and_r hc)
  cases how:E.own f with
  |true=>
   rw[how] at h
   simp only[cond_true] at h
   refine ZN hcall ho (fun v hv=>⟨(hcap v hv).1,(hcap v hv).2.2⟩) (ZM _ _ _).symm (by omega) (fun l hl=>Rf hl (pQ _ _ (by omega))) ?_ h
   intro σ' rd ag hin K w0 a w rr hk0
   obtain⟨β,rb⟩:=rr
   obtain⟨β1,r1,ex1,nb1,ok1⟩:=NI (P:=P) (n:=n) _ σ' K w0 w a β σ.hs.length rb (Ug P (dnL P (E.nd f) 0 (aV P E.dt σ Ts.toList xs.toList)) σ.hs.length) (fun i h3 h4=>by
        rw[ag.hs i (hin i h3 h4)]
        exact pQ _ _ h3) (by rw[ag.k0];exact hk0)
   rw[←ZM] at r1 ok1
   have hk:∀b,okOf K w0 w σ'.hs β b→okOf K w0 w (wrO σ'.hs (ae0 σ.hs.length (AV.n2rL P (dnL P (E.nd f) 0 (aV P E.dt σ Ts.toList xs.toList)) σ.hs.length).2)) β1 b∧w.heap[b]? =w.heap[b]? :=fun b hb=>⟨ok1 b hb,rfl⟩
   have hopds:=(Gl (P:=P) (σ:=σ') (D:=E.dt) hlen).rvs rb
   rw[BF ag.ts hxs] at hopds
   exact⟨β1,r1,(aY ag hg e1 _ _ _ _ _ _ rb).mono hk ex1,((hopds.mono hk ex1).dn _ 0).n2r _ nb1⟩
  |false    =>
   rw[how] at h
   simp only[cond_false] at h
   have    main:∀(L:List Nat),(∀l∈AV.rwsL (aV P E.dt σ Ts.toList xs.toList),l∈L)→∀σ' rd,Agr o σ σ' (L++rd)→∀(K:OkX) (w0:World) (a:Act) (w:World),Rel P K w0 n σ' a w→∃β1,RelB P K w0 n ⟨σ'.ts,wrO σ'.hs (frzW σ.hs L),σ'.k0⟩ a w β1∧RV P (okOf K w0 w (wrO σ'.hs (frzW σ.hs L)) β1) w β1 (.fn f caps) (a.eval g)∧RVsX P (okOf K w0 w (wrO σ'.hs (frzW σ.hs L)) β1) w β1 ((aV P E.dt σ Ts.toList xs.toList).map (pkA P (E.raw f) (wrO σ.hs (frzW σ.hs L)))) (xs.toList.map a.eval):=by
    intro L hL σ' rd ag K w0 a w rr
    obtain⟨β,rb⟩:=rr
    have hagr:∀l∈L,lk σ'.hs l=lk σ.hs l:=fun l hl=>ag.hs l (List.mem_append_left _ hl)
    have hfw:=oo hagr
    obtain⟨β1,r1⟩:=Imp.frzW (P:=P) (n:=n) (σ:=σ') L K w0 a w ⟨β,rb⟩
    rw[hfw] at r1
    refine⟨β1,r1,?_,?_⟩
    ·    have:=LA (P:=P) (T:=0) (D:=E.dt) (hs:=wrO σ'.hs (frzW σ.hs L)) (k0:=σ'.k0) ag hg
         rw[e1] at this
         exact this _ _ _ _ _ _ r1
    ·    have hopds:=(Gl (P:=P) (σ:=St.mk σ'.ts (wrO σ'.hs (frzW σ.hs L)) σ'.k0) (D:=E.dt) hlen).rvs r1
         rw[BF (σ:=σ) (σ':=St.mk σ'.ts (wrO σ'.hs (frzW σ.hs L)) σ'.k0) (xs:=o.op.operands.toList) (fun t ht=>ag.ts t ht) hxs] at hopds
         have:=hopds.map_pk (b:=E.raw f) r1.frzOK r1.frzAgg
         have e3:(aV P E.dt σ Ts.toList xs.toList).map (pkA P (E.raw f) (wrO σ'.hs (frzW σ.hs L)))=(aV P E.dt σ Ts.toList xs.toList).map (pkA P (E.raw f) (wrO σ.hs (frzW σ.hs L))):=
           Uh fun l hl=>pO hagr l (hL l hl)
         rw[e3] at this
         exact this
   cases hfz:E.fzc f with
   |    true=>
        rw[hfz] at h
        simp only[cond_true] at h
        rw[←sO] at h
        refine ZN hcall ho (fun v hv=>⟨(hcap v hv).1,(hcap v hv).2.2⟩) rfl (Nat.le_refl _) (fun l hl=>(by rw[sO];exact Jb (uI (pQ _ _ hl)))) (fun σ' rd ag _ K w0 a w rr _=>?_) h
        obtain⟨β,rb⟩:=rr
        have hagL:∀l∈AV.rwsL (aV P E.dt σ Ts.toList xs.toList)++bG σ.hs (gJ (aV P E.dt σ Ts.toList xs.toList)),lk σ'.hs l=lk σ.hs l:=fun l hl=>ag.hs l (List.mem_append_left _ (List.mem_append_left _ hl))
        have hagB:∀l∈gJ (aV P E.dt σ Ts.toList xs.toList),lk σ'.hs l=lk σ.hs l:=fun l hl=>ag.hs l (List.mem_append_left _ (List.mem_append_right _ hl))
        have hfw:=oo hagL
        obtain⟨β1,r1⟩:=Imp.frzW (P:=P) (n:=n) (σ:=σ') (AV.rwsL (aV P E.dt σ Ts.toList xs.toList)++bG σ.hs (gJ (aV P E.dt σ Ts.toList xs.toList))) K w0 a w ⟨β,rb⟩
        rw[hfw] at r1
        have hwB:∀l,l∈AV.rwsL (aV P E.dt σ Ts.toList xs.toList)++bG σ.hs (gJ (aV P E.dt σ Ts.toList xs.toList))++gJ (aV P E.dt σ Ts.toList xs.toList)→lk (wrO σ'.hs (frzW σ.hs (AV.rwsL (aV P E.dt σ Ts.toList xs.toList)++bG σ.hs (gJ (aV P E.dt σ Ts.toList xs.toList))))) l=lk (wrO σ.hs (frzW σ.hs (AV.rwsL (aV P E.dt σ Ts.toList xs.toList)++bG σ.hs (gJ (aV P E.dt σ Ts.toList xs.toList))))) l:=fun l hl=>
          pO (ls:=AV.rwsL (aV P E.dt σ Ts.toList xs.toList)++bG σ.hs (gJ (aV P E.dt σ Ts.toList xs.toList))++gJ (aV P E.dt σ Ts.toList xs.toList)) (fun k hk=>ag.hs k (List.mem_append_left _ hk)) l hl
        have hfb:=NM (P:=P) (pty:=E.pty) (bs:=gJ (aV P E.dt σ Ts.toList xs.toList)) (fun l hl=>hwB l (List.mem_append_right _ hl)) (fun l hl T c hk q hq=>hwB q (List.mem_append_left _ (List.mem_append_right _ (Br hl (Ga hk) hq))))
        have r2:=RelB.fzbW (pty:=E.pty) (bs:=gJ (aV P E.dt σ Ts.toList xs.toList)) r1
        simp only at r2
        rw[hfb,←sO] at r2
        refine⟨β1,r2,?_,?_⟩
        · have:=LA (P:=P) (T:=0) (D:=E.dt) (hs:=wrO σ'.hs (frzW σ.hs (AV.rwsL (aV P E.dt σ Ts.toList xs.toList)++bG σ.hs (gJ (aV P E.dt σ Ts.toList xs.toList)))++fzbW P E.pty (wrO σ.hs (frzW σ.hs (AV.rwsL (aV P E.dt σ Ts.toList xs.toList)++bG σ.hs (gJ (aV P E.dt σ Ts.toList xs.toList))))) (gJ (aV P E.dt σ Ts.toList xs.toList)))) (k0:=σ'.k0) ag hg
          rw[e1] at this
          exact this _ _ _ _ _ _ r2
        · have hopds:=(Gl (P:=P) (σ:=St.mk σ'.ts (wrO σ'.hs (frzW σ.hs (AV.rwsL (aV P E.dt σ Ts.toList xs.toList)++bG σ.hs (gJ (aV P E.dt σ Ts.toList xs.toList)))++fzbW P E.pty (wrO σ.hs (frzW σ.hs (AV.rwsL (aV P E.dt σ Ts.toList xs.toList)++bG σ.hs (gJ (aV P E.dt σ Ts.toList xs.toList))))) (gJ (aV P E.dt σ Ts.toList xs.toList)))) σ'.k0) (D:=E.dt) hlen).rvs r2
          rw[BF (σ:=σ) (σ':=St.mk σ'.ts (wrO σ'.hs (frzW σ.hs (AV.rwsL (aV P E.dt σ Ts.toList xs.toList)++bG σ.hs (gJ (aV P E.dt σ Ts.toList xs.toList)))++fzbW P E.pty (wrO σ.hs (frzW σ.hs (AV.rwsL (aV P E.dt σ Ts.toList xs.toList)++bG σ.hs (gJ (aV P E.dt σ Ts.toList xs.toList))))) (gJ (aV P E.dt σ Ts.toList xs.toList)))) σ'.k0) (xs:=o.op.operands.toList) (fun t ht=>ag.ts t ht) hxs] at hopds
          have h5:=hopds.map_pkZ (b:=E.raw f) r2.frzOK r2.frzAgg
          have hw2:∀l,l∈AV.rwsL (aV P E.dt σ Ts.toList xs.toList)++bG σ.hs (gJ (aV P E.dt σ Ts.toList xs.toList))++gJ (aV P E.dt σ Ts.toList xs.toList)→lk (wrO σ'.hs (frzW σ.hs (AV.rwsL (aV P E.dt σ Ts.toList xs.toList)++bG σ.hs (gJ (aV P E.dt σ Ts.toList xs.toList)))++fzbW P E.pty (wrO σ.hs (frzW σ.hs (AV.rwsL (aV P E.dt σ Ts.toList xs.toList)++bG σ.hs (gJ (aV P E.dt σ Ts.toList xs.toList))))) (gJ (aV P E.dt σ Ts.toList xs.toList)))) l=lk (wrO σ.hs (frzW σ.hs (AV.rwsL (aV P E.dt σ Ts.toList xs.toList)++bG σ.hs (gJ (aV P E.dt σ Ts.toList xs.toList)))++fzbW P E.pty (wrO σ.hs (frzW σ.hs (AV.rwsL (aV P E.dt σ Ts.toList xs.toList)++bG σ.hs (gJ (aV P E.dt σ Ts.toList xs.toList))))) (gJ (aV P E.dt σ Ts.toList xs.toList)))) l:=fun l hl=>
            pO (ls:=AV.rwsL (aV P E.dt σ Ts.toList xs.toList)++bG σ.hs (gJ (aV P E.dt σ Ts.toList xs.toList))++gJ (aV P E.dt σ Ts.toList xs.toList)) (fun k hk=>ag.hs k (List.mem_append_left _ hk)) l hl
          rw[WX (P:=P) (b:=E.raw f) (fun l hl=>hw2 l (List.mem_append_left _ (List.mem_append_left _ hl))) (fun l hl=>hw2 l (List.mem_append_right _ hl))] at h5
          exact h5
   |false=>
   rw[hfz] at h
   simp only[cond_false] at h
   cases hl:(ae5 P E f&&isNil (AV.nmsL ((aV P E.dt σ Ts.toList xs.toList).map (pkA P (E.raw f) (wrO σ.hs (frzW σ.hs (AV.rwsL (aV P E.dt σ Ts.toList xs.toList)))))++caps))) with
   |    true=>
        rw[hl] at h
        simp only[cond_true] at h
        refine ahS hcall ho (fun v hv=>⟨(hcap v hv).1,(hcap v hv).2.2⟩) (fun σ' ag K w0 a w rr=>?_) h
        obtain⟨β1,h1,h2,h3⟩:=main _ (fun l hl=>hl) σ' [] (by rw[List.append_nil];exact ag) K w0 a w rr
        exact⟨_,β1,h1,h2.mono (fun b hb=>⟨hb.1,rfl⟩) (Ext.refl _),h3.mono (fun b hb=>⟨hb.1,rfl⟩) (Ext.refl _)⟩
   |    false=>
        rw[hl] at h
        simp only[cond_false] at h
        have hh_:=aqr h
        clear h
        rcases hh_ with⟨_,h⟩| ⟨_,h⟩
        · refine ahS hcall ho (fun v hv=>?_) (fun σ' ag K w0 a w rr=>?_) h
          · obtain⟨u,hu,rfl⟩:=List.mem_map.1 hv
            exact JF ⟨(hcap u hu).1,(hcap u hu).2.2⟩
          · obtain⟨β1,h1,h2,h3⟩:=main _ (fun l hl=>List.mem_append_left _ hl) σ' _ ag K w0 a w rr
            have hagr:∀l∈(AV.rwsL (aV P E.dt σ Ts.toList xs.toList)++bG σ.hs (AV.nmsL (aV P E.dt σ Ts.toList xs.toList++caps)))++AV.nmsL (aV P E.dt σ Ts.toList xs.toList++caps),lk (wrO σ'.hs (frzW σ.hs (AV.rwsL (aV P E.dt σ Ts.toList xs.toList)++bG σ.hs (AV.nmsL (aV P E.dt σ Ts.toList xs.toList++caps))))) l=lk (wrO σ.hs (frzW σ.hs (AV.rwsL (aV P E.dt σ Ts.toList xs.toList)++bG σ.hs (AV.nmsL (aV P E.dt σ Ts.toList xs.toList++caps))))) l:=fun l hl=>pO ag.hs l hl
            have hbox:∀l∈AV.nmsL (aV P E.dt σ Ts.toList xs.toList++caps),∀T c,lk (wrO σ.hs (frzW σ.hs (AV.rwsL (aV P E.dt σ Ts.toList xs.toList)++bG σ.hs (AV.nmsL (aV P E.dt σ Ts.toList xs.toList++caps))))) l= .box T c→∀q∈c.rws,lk (wrO σ'.hs (frzW σ.hs (AV.rwsL (aV P E.dt σ Ts.toList xs.toList)++bG σ.hs (AV.nmsL (aV P E.dt σ Ts.toList xs.toList++caps))))) q=lk (wrO σ.hs (frzW σ.hs (AV.rwsL (aV P E.dt σ Ts.toList xs.toList)++bG σ.hs (AV.nmsL (aV P E.dt σ Ts.toList xs.toList++caps))))) q:=
             fun l hl T c hk q hq=>hagr q (List.mem_append_left _ (List.mem_append_right _ (Br hl (Ga hk) hq)))
            have hn:∀(us vs:List AV) (l:Nat),l∈AV.nmsL us∨l∈AV.nmsL vs→l∈AV.nmsL (us++vs):=fun us vs l h=>by rw[WT];exact List.mem_append.2 h
            have ea:=Dk (P:=P) (b:=E.raw f) (vs:=aV P E.dt σ Ts.toList xs.toList) (fun l hl=>hagr l (List.mem_append_left _ (List.mem_append_left _ hl))) (fun l hl=>hagr l (List.mem_append_right _ (hn _ _ l (.inl hl)))) (fun l hl=>hbox l (hn _ _ l (.inl hl)))
            have ec:=yh (P:=P) (vs:=caps) (fun l hl=>hagr l (List.mem_append_right _ (hn _ _ l (.inr hl)))) (fun l hl=>hbox l (hn _ _ l (.inr hl)))
            refine⟨_,β1,h1,?_,?_⟩
            ·rw[←ec]
             exact WW h1 (h2.mono (fun b hb=>⟨hb.1,rfl⟩) (Ext.refl _))
            ·rw[←ea]
             have h4:=(h3.mono (ok':=fun b=>b<w.heap.size) (w':=w) (fun b hb=>⟨hb.1,rfl⟩) (Ext.refl _)).map_lend h1
             rw[List.map_map] at h4
             have e5:((aV P E.dt σ Ts.toList xs.toList).map fun v=>Aq P (wrO σ'.hs (frzW σ.hs (AV.rwsL (aV P E.dt σ Ts.toList xs.toList)++bG σ.hs (AV.nmsL (aV P E.dt σ Ts.toList xs.toList++caps))))) (pkA P (E.raw f) (wrO σ'.hs (frzW σ.hs (AV.rwsL (aV P E.dt σ Ts.toList xs.toList)++bG σ.hs (AV.nmsL (aV P E.dt σ Ts.toList xs.toList++caps))))) v))=(aV P E.dt σ Ts.toList xs.toList).map (Aq P (wrO σ'.hs (frzW σ.hs (AV.rwsL (aV P E.dt σ Ts.toList xs.toList)++bG σ.hs (AV.nmsL (aV P E.dt σ Ts.toList xs.toList++caps)))))∘pkA P (E.raw f) (wrO σ.hs (frzW σ.hs (AV.rwsL (aV P E.dt σ Ts.toList xs.toList)++bG σ.hs (AV.nmsL (aV P E.dt σ Ts.toList xs.toList++caps)))))):=by
                refine List.map_congr_left fun v hv=>?_
                have:pkA P (E.raw f) (wrO σ'.hs (frzW σ.hs (AV.rwsL (aV P E.dt σ Ts.toList xs.toList)++bG σ.hs (AV.nmsL (aV P E.dt σ Ts.toList xs.toList++caps))))) v=pkA P (E.raw f) (wrO σ.hs (frzW σ.hs (AV.rwsL (aV P E.dt σ Ts.toList xs.toList)++bG σ.hs (AV.nmsL (aV P E.dt σ Ts.toList xs.toList++caps))))) v:=NK fun l hl=>hagr l (List.mem_append_left _ (List.mem_append_left _ (NJ hv hl)))
                show Aq P _ (pkA P _ _ v)=Aq P _ (pkA P _ _ v)
                rw[this]
             rw[e5]
             exact h4
        ·exact ZN hcall ho (fun v hv=>⟨(hcap v hv).1,(hcap v hv).2.2⟩) rfl (Nat.le_refl _) (fun l hl=>uI (pQ _ _ hl)) (fun σ' rd ag _ K w0 a w rr _=>main _ (fun l hl=>hl) σ' rd ag K w0 a w rr) h
 ·cases h
theorem JG (h:Yp v=true):v≠ .dead∧∀us,v≠ .tup us:=by
 constructor
 ·intro e;subst e;cases h
 ·intro us e;subst e;cases h
theorem akb (ho:o.op= .makeInterface T x) (h:Si P E n o σ T x k=some r):OpS P n o σ k r:=by
 unfold Si at h
 have hh_:=bif_some h
 clear h
 obtain⟨hc,h⟩:=hh_
 obtain⟨h1,h2⟩:=JG (and_r hc)
 exact aU h fun σ' ag d hd hn=>aef ho hd hn (and_l hc) (ru ag (by rw[ho];simp[Op.operands])) h1 h2
theorem aqs (hcall:CallOK P call) {g:Operand} {name:String} {xs:Array Operand} {Ts:Array TypeId} (ho:o.op= .call ⟨.invoke g name,xs,Ts⟩) (h:ae6 P E call n o σ g name xs.toList Ts.toList k=some r):OpS P n o σ k r:=by
 have hg:g∈o.op.operands.toList:=by rw[ho];simp[Op.operands,Call.operands]
 have hxs:∀z∈xs.toList,z∈o.op.operands.toList:=by intro z hz;rw[ho];simp[Op.operands,Call.operands];right;simpa using hz
 unfold ae6 at h
 split at h
 ·rename_i Tv v e1
  split at h
  ·rename_i f hm
   have hh_:=bif_some h
   clear h
   obtain⟨hc,h⟩:=hh_
   have hlen:=beq_eq (and_l hc)
   obtain⟨hv1,hv2⟩:=JG (and_l (and_r hc))
   refine ab3 hcall rfl (Nat.le_refl _) (fun l hl=>uI (pQ _ _ hl)) (fun σ' rd ag _ K w0 a w rr _=>?_) h
   obtain⟨β,rb⟩:=rr
   have hagr:∀l∈AV.rwsL (v::aV P E.dt σ Ts.toList xs.toList),lk σ'.hs l=lk σ.hs l:=fun l hl=>ag.hs l (List.mem_append_left _ hl)
   have hfw:=oo hagr
   obtain⟨β1,r1⟩:=Imp.frzW (P:=P) (n:=n) (σ:=σ') (AV.rwsL (v::aV P E.dt σ Ts.toList xs.toList)) K w0 a w ⟨β,rb⟩
   rw[hfw] at r1
   have hrecv:=LA (P:=P) (T:=0) (D:=E.dt) (hs:=wrO σ'.hs (frzW σ.hs (AV.rwsL (v::aV P E.dt σ Ts.toList xs.toList)))) (k0:=σ'.k0) ag hg
   rw[e1] at hrecv
   obtain⟨z,ez,hz⟩:=ai2 (hrecv _ _ _ _ _ _ r1) hv2
   have hopds:=(Gl (P:=P) (σ:=St.mk σ'.ts (wrO σ'.hs (frzW σ.hs (AV.rwsL (v::aV P E.dt σ Ts.toList xs.toList)))) σ'.k0) (D:=E.dt) hlen).rvs r1
   rw[BF (σ:=σ) (σ':=St.mk σ'.ts (wrO σ'.hs (frzW σ.hs (AV.rwsL (v::aV P E.dt σ Ts.toList xs.toList)))) σ'.k0) (xs:=o.op.operands.toList) (fun t ht=>ag.ts t ht) hxs] at hopds
   have hall:=(RVsX.cons hz hopds).map_pk (b:=E.raw f) r1.frzOK r1.frzAgg
   have e3:(v::aV P E.dt σ Ts.toList xs.toList).map (pkA P (E.raw f) (wrO σ'.hs (frzW σ.hs (AV.rwsL (v::aV P E.dt σ Ts.toList xs.toList)))))=(v::aV P E.dt σ Ts.toList xs.toList).map (pkA P (E.raw f) (wrO σ.hs (frzW σ.hs (AV.rwsL (v::aV P E.dt σ Ts.toList xs.toList))))):=
        Uh fun l hl=>pO hagr l hl
   rw[e3] at hall
   exact⟨β1,_,r1,fun hb=>Yb (xs:=xs.toList) (by rw[ho]) hb hm a w ez,hall⟩
  ·cases h
 ·cases h
theorem ny (hcall:CallOK P call) (h:evO P E call n o σ k=some r):OpS P n o σ k r:=by
 unfold evO at h
 split at h
 ·rename_i ho;exact anw ho h
 ·rename_i ho;exact aiz ho h
 ·rename_i ho;exact anx ho h
 ·rename_i ho;exact akA ho h
 ·rename_i ho;exact aqx ho h
 ·rename_i ho;exact ahO ho h
 ·rename_i ho;exact adA ho h
 ·rename_i ho;exact anz ho h
 ·rename_i ho;exact akC ho h
 ·rename_i ho;exact Yu ho h
 ·rename_i ho;exact aoM ho h
 ·rename_i ho;exact aoN ho h
 ·rename_i ho;exact aoO ho h
 ·rename_i ho;exact ajt ho h
 ·rename_i ho
  split at h
  ·rename_i hTe;exact aj8 ho hTe h
  ·exact ac4 ho h
 ·rename_i ho;exact alR ho h
 ·rename_i ho;exact aju ho h
 ·rename_i ho;exact Vw ho h
 ·rename_i ho;exact ajv ho h
 ·rename_i ho;exact aoT ho h
 ·rename_i ho;exact Vx ho h
 ·rename_i ho;exact afk ho h
 ·rename_i ho;exact ac7 ho h
 ·rename_i ho;exact Vz ho h
 ·rename_i ho;exact ajw ho h
 ·rename_i ho;exact ac5 ho h
 ·rename_i ho;exact Yv ho h
 ·rename_i ho;exact s_call hcall ho h
 ·rename_i b xs Ts ho
  unfold Qo at h
  split at h
  ·rename_i hx hT;exact aoP ho hx hT h
  ·rename_i hx hT
   rcases aj7 h with⟨_,h1⟩| ⟨_,h1⟩
   ·exact adB ho hx hT h1
   ·exact adz ho hx hT h1
  ·rename_i hx hT;exact aoQ ho hx hT h
  ·rename_i hx hT;exact aoR ho hx hT h
  ·cases h
 ·rename_i ho;exact akb ho h
 ·rename_i ho;exact aqs hcall ho h
 ·cases h
end
end Go.Am
