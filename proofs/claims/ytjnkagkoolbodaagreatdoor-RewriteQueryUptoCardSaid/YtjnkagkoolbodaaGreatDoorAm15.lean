/- The abstract machine, part 15: slice literals, append, calls. -/
import Derived.Test.YtjnkagkoolbodaaGreatDoorAm14
set_option linter.unusedVariables false
set_option linter.unusedSimpArgs false
namespace Go.Am
open Go.RowKit
section
variable {P:Program} {n:Nat} {o:Oper} {σ τ:St} {x y:Operand} {v:AV} {T:TypeId} {R:Type} {E:Env} {k:Dl→Option R} {r:R}
theorem awS {T T':TypeId} (h:compat P T T'=true):dK P T=dK P T':=by
 unfold compat at h
 rw[Bool.or_eq_true] at h
 rcases h with h|h
 ·rw[beq_eq h]
 ·unfold dK
  split at h
  ·rename_i h1 h2;rw[h1,h2]
  ·rename_i h1 h2;rw[h1,h2]
  ·rename_i h1 h2;rw[h1,h2]
  ·rename_i h1 h2;rw[h1,h2]
  ·cases h
theorem RV.compat {ok:Nat→Prop} {w:World} {β:Nat→Option Value} {z:Value} {d:Dt} {T':TypeId} (h:RV P ok w β (.dat T d) z) (hc:Am.compat P T T'=true):RV P ok w β (.dat T' d) z:=by
 have he:=awS hc
 cases ha:dK P T with
 |true=>
  obtain⟨cs,e,q⟩:=(RV.dat_agg ha).1 h
  exact(RV.dat_agg (by rw[←he];exact ha)).2 ⟨cs,e,q.compat hc⟩
 |false=>exact(RV.dat_one (by rw[←he];exact ha)).2 (((RV.dat_one ha).1 h).compat hc)
theorem arA {D:List TypeId} {Te:TypeId} {τ:St}:∀{xs:List Operand} {ds:List Dt},(∀z∈xs,Ev P τ z (opd P D σ Te z))→OO P τ.hs Te (xs.map (opd P D σ Te))=some ds→EvL P τ Te xs ds
 | [],ds,_,h=>by
   have h':some []=some ds:=by simpa [OO] using h
   cases h'
   exact .nil
 | z::xs,ds,hev,h=>by
   simp only[List.map_cons] at h
   unfold OO at h
   split at h
   ·rename_i T' d hp
    obtain⟨hc,h2⟩:=bif_some h
    split at h2
    ·   rename_i ds' hds
        cases h2
        refine .cons ?_ (arA (fun u hu=>hev u (by simp[hu])) hds)
        have:=Ev.pk (hev z (by simp)) hp
        exact fun ok0 w0 n a w β r=>(this _ _ _ _ _ _ r).compat (and_l hc)
    ·cases h2
   ·cases h
theorem aAe {hs:List Ob} {Te:TypeId} {vs:List AV} {ds:List Dt} (h:OO P hs Te vs=some ds) (hne:vs≠[]):∀d',szB P Te (.dat Te d')=true:=by
 cases vs with
 |nil=>exact absurd rfl hne
 |cons v r=>
  unfold OO at h
  split at h
  ·rename_i T' d hp
   obtain⟨hc,h2⟩:=bif_some h
   intro d'
   exact and_r hc
  ·cases h
theorem auS {hs hs':List Ob} {Te:TypeId}:∀{vs:List AV},(∀l∈AV.rwsL vs,lk hs' l=lk hs l)→OO P hs' Te vs=OO P hs Te vs
 | [],_=>rfl
 |v::r,h=>by
  unfold OO
  rw[Sy (hs:=hs) (hs':=hs') v fun l hl=>h l (by simp[AV.rwsL,hl]),auS (vs:=r) fun l hl=>h l (by simp[AV.rwsL,hl])]
theorem V7:∀{j:Nat} {parts:List (Nat×Operand)},dense j parts=true→parts=((parts.map (·.2)).zipIdx j).map fun p=>(p.2,p.1)
 |_,[],_=>rfl
 |j,(i,x)::r,h=>by
  simp only[dense] at h
  have e:=beq_eq (and_l h)
  subst e
  have ih:=V7 (and_r h)
  simp only[List.map_cons,List.zipIdx_cons]
  rw[←ih]
theorem auT {hs:List Ob} {Te:TypeId}:∀{vs:List AV} {ds:List Dt},OO P [] Te vs=some ds→OO P hs Te vs=some ds
 | [],_,h=>h
 |v::r,ds,h=>by
  unfold OO at h ⊢
  split at h
  ·rename_i T d hp
   rw[ak3 v hp]
   obtain⟨hc,h2⟩:=bif_some h
   split at h2
   ·    rename_i ds' hds
        cases h2
        simp only[hc,cond_true,auT hds]
   ·cases h2
  ·cases h
theorem awT {parts:Array (Nat×Operand)} {len:Nat} {Te:TypeId} {zi:TypeInfo} {za:Value} {ds:List Dt} (ho:o.op= .build T parts) (hu:P.underlying T=some (.array len Te)) (hzi:P.info? T=some zi) (hza:zi.zero=some za)
  (hds:OO P [] Te ((parts.toList.map (·.2)).map (opd P E.dt σ Te))=some ds) (hc:(dense 0 parts.toList&&(Nat.beq len parts.toList.length&&(!Nat.beq len 0&&(!Nat.beq (P.cellsOf Te) 0&&(Nat.beq za.cells.size (len*P.cellsOf Te)&&Nat.beq (P.cellsOf T) (len*P.cellsOf Te))))))=true)
  (h:out n o (.dat T (.lst ds)) [] [] k=some r):OpS P n o σ k r:=by
 have hmem:∀z∈parts.toList.map (·.2),z∈o.op.operands.toList:=by
  intro z hz
  rw[ho]
  simpa [Op.operands] using hz
 have hlen:len=(parts.toList.map (·.2)).length:=by rw[List.length_map];exact beq_eq (and_l (and_r hc))
 have hpos:parts.toList.map (·.2)≠[]:=by
  intro e
  rw[e] at hlen
  exact Sr (and_l (and_r (and_r hc))) hlen
 have hsz:=aAe hds (by simpa using hpos)
 refine bD h fun σ' ag d hd hn=>avS ho hd hn hu hzi hza (beq_eq (and_l (and_r (and_r (and_r (and_r hc)))))) (beq_eq (and_r (and_r (and_r (and_r (and_r hc)))))) (Sr (and_l (and_r (and_r (and_r hc))))) (V7 (and_l hc)) hlen
  (arA (fun z hz=>Cj ag (hmem z hz)) (auT hds)) (fun d'=>(p9 (hsz d')).2.2.2.2)
theorem aGM {parts:Array (Nat×Operand)} (ho:o.op= .build T parts) (h:amh P E n o σ T parts.toList k=some r):OpS P n o σ k r:=by
 unfold amh at h
 split at h
 ·exact aMc ho h
 ·unfold avy at h
  split at h
  ·rename_i len Te hu
   split at h
   ·    rename_i zi hzi
        split at h
        ·rename_i za hza
         split at h
         ·rename_i ds hds
          have hh_:=bif_some h
          clear h
          obtain⟨hc,h⟩:=hh_
          exact awT ho hu hzi hza hds hc h
         ·cases h
        ·cases h
   ·cases h
  ·cases h
theorem arB {len:Nat} {parts:Array (Nat×Operand)} (ho:o.op= .buildSlice T len parts) (h:PY P E n o σ T len parts.toList k=some r):OpS P n o σ k r:=by
 unfold PY at h
 split at h
 ·rename_i Te hTe
  split at h
  ·rename_i z hz
   split at h
   ·    rename_i ds hds
        have hh_:=bif_some h
        clear h
        obtain⟨hc,h⟩:=hh_
        have hh_:=xD h
        clear h
        obtain⟨hk0,h⟩:=hh_
        obtain⟨d,hd,hn,hk⟩:=uW h
        refine⟨_,hk,fun σ' ag=>?_⟩
        have hmap:(parts.toList.map fun p=>opd P E.dt σ Te p.2)=(parts.toList.map (·.2)).map (opd P E.dt σ Te):=by rw[List.map_map];rfl
        rw[hmap] at hds hk ⊢
        rw[hmap] at ag
        have hagr:∀l∈AV.rwsL ((parts.toList.map (·.2)).map (opd P E.dt σ Te)),lk σ'.hs l=lk σ.hs l:=fun l hl=>ag.hs l (List.mem_cons_of_mem _ hl)
        have hfw:=uX hagr
        have hmem:∀z∈parts.toList.map (·.2),z∈o.op.operands.toList:=by
         intro z hz
         rw[ho]
         simpa [Op.operands] using hz
        have hds':OO P (wrO σ'.hs (frzW σ'.hs (AV.rwsL ((parts.toList.map (·.2)).map (opd P E.dt σ Te))))) Te ((parts.toList.map (·.2)).map (opd P E.dt σ Te))=some ds:=by
         rw[←hds,hfw]
         exact auS fun l hl=>yx hagr l hl
        have hlen:len=(parts.toList.map (·.2)).length:=by rw[List.length_map];exact beq_eq (and_l (and_r hc))
        have hpos:parts.toList.map (·.2)≠[]:=by
         intro e
         rw[e] at hlen
         exact Sr (and_l (and_r (and_r hc))) hlen
        have hsz:=aAe hds (by simpa using hpos)
        have key:=(apk (σ:=St.mk σ'.ts (wrO σ'.hs (frzW σ'.hs (AV.rwsL ((parts.toList.map (·.2)).map (opd P E.dt σ Te))))) σ'.k0) (l:=σ.hs.length) (ds:=ds) ho hd hn (fE hTe) (by
          refine GZ ?_
          rw[ag.hs _ (by simp)]
          exact xE σ) (by show σ'.k0≤_;rw[ag.k0];exact hk0) (qW hz) (Sr (and_l (and_r (and_r (and_r hc))))) (V7 (and_l hc)) hlen hpos
          (Nat.le_of_ble_eq_true (and_r (and_r (and_r (and_r hc))))) (arA (fun z hz=>ak9 ag (hmem z hz)) hds') (fun d'=>(p9 (hsz d')).2.2.2.2)).pre (Imp.frzW (σ:=σ') (AV.rwsL ((parts.toList.map (·.2)).map (opd P E.dt σ Te))))
        rw[hd]
        have hfin:St.mk (aIW σ'.ts (some d) (some (.row σ.hs.length))) (wrO σ'.hs (frzW σ.hs (AV.rwsL ((parts.toList.map (·.2)).map (opd P E.dt σ Te)))++[(σ.hs.length,.row T ds)])) σ'.k0=
          ((St.mk σ'.ts (wrO σ'.hs (frzW σ'.hs (AV.rwsL ((parts.toList.map (·.2)).map (opd P E.dt σ Te))))) σ'.k0).lay σ.hs.length (.row T ds)).put d (.row σ.hs.length):=by
         rw[DI,hfw];rfl
        show bK P n o σ' (St.mk _ _ _)
        rw[hfin]
        exact key
   ·cases h
  ·cases h
 ·cases h
theorem awU {Te:TypeId} {vy:AV} {rd:List Nat} {ds:List Dt} (h:(match vy with
   |    .row l=>match lk σ.hs l with
        | .row T5 ds=>bif qd P T5 Te then some ([l],ds) else none
        | .frz T5 ds=>bif qd P T5 Te then some ([l],ds) else none
        |_=>none
   |    v=>match lval P [] v with
        |some (_,Te',ds)=>bif Nat.beq Te' Te then some ([],ds) else none
        |none=>none:Option (List Nat×List Dt))=some (rd,ds)) (τ:St) (hev:Ev P τ y vy) (hag:∀l∈rd,lk τ.hs l=lk σ.hs l):ajy P τ y Te ds:=by
 split at h
 ·rename_i l
  split at h
  ·rename_i T5 ds' hl
   obtain⟨hc,h2⟩:=bif_some h
   cases h2
   exact .row hev (by rw[hag l (by simp)];exact hl) (iB hc).1
  ·rename_i T5 ds' hl
   obtain⟨hc,h2⟩:=bif_some h
   cases h2
   exact .lst (iB hc).1 (hev.frz (by rw[hag l (by simp)];exact hl))
  ·cases h
 ·split at h
  ·rename_i Tx Te' ds' hl
   obtain⟨hc,h2⟩:=bif_some h
   cases h2
   obtain⟨d1,hp,u1,rfl⟩:=VZ hl
   have e:=beq_eq hc
   subst e
   exact .lst u1 ((Ev.pk hev (ak3 _ hp)).clst u1)
  ·cases h
theorem append_nil {d l l':Nat} {Te T5 T0:TypeId} {ds:List Dt} {z:Dt} (ho:o.op= .call {callee:= .builtin .append,args:= #[x,y],argTypes:= #[T,T]}) (hd:o.dst=some d) (hn:d<n) (hu:P.underlying T=some (.slice Te)) (hu5:P.underlying T5=some (.slice Te))
  (hz:Zero P Te z) (h0:P.cellsOf Te≠0) (hbd:ds.length*P.bytesOf Te≤140737488355328) (hx:Ev P σ x (.nils T0)) (hfl:lk σ.hs l= .free) (hkl:σ.k0≤l) (hf:lk σ.hs l'= .free) (hll:l'≠l) (hk0:σ.k0≤l') (hy:ajy P σ y Te ds) (hlim:ds.length≤137438953472):
  bK P n o σ (((σ.lay l .gone).lay l' (.row T5 ds)).put d (.row l')):=by
 rintro ok0 w0 a w ⟨β,r⟩ K Q hK
 have ex:a.eval x= .slice none 0 0:=by
  have h1:=(hx _ _ _ _ _ _ r).2 rfl
  generalize a.eval x=q at h1
  cases h1 with
  |nils=>rfl
 have r1:=r.nilrow hu5 hfl hkl
 have hy1:=hy _ _ _ _ _ _ r
 obtain⟨A,c,ys,ey,hyl,hyone,hyc,hynone,hyrd⟩:=hy1
 have hob0:=r1.hs l
 have hl1:lk (σ.lay l (.row T5 [])).hs l= .row T5 []:=pX _ _ _
 rw[hl1,fV] at hob0
 have key:=ajz (σ:=σ.lay l (.row T5 [])) (l:=l) (l':=l') (E:=Te) (T5:=T5) (es:=[]) (ds:=ds) ho hd hn hu hu5 hz h0 (by simpa using hbd) r1 (by rw[ex];exact fV _ _ _) hl1
  (by show lk (gy σ.hs l _) l'=_;rw[dG _ _ _ _ hll];exact hf) hk0 ey hyl hyone hyc hynone (fun i d' hd'=>(hyrd i d' hd').mono (fun b hb=>⟨⟨hb.1,hb.2.1,fun j hj=>?_⟩,rfl⟩)) (by simpa using hlim) K Q (fun a' w' r'=>hK a' w' ?_)
 ·exact key
 ·obtain⟨q1,z',q2,q3⟩:=hj
  by_cases hjl:j=l
  ·subst hjl
   rw[fV] at q2
   cases q2
   simp[blk] at q3
  ·rw[mH _ _ _ _ hjl] at q2
   have q1':(lk (gy σ.hs l (.row T5 [])) j).isOwn=true:=q1
   rw[dG _ _ _ _ hjl] at q1'
   exact hb.2.2 j ⟨q1',z',q2,q3⟩
 ·have hcongr:Imp P n ((((σ.lay l (.row T5 [])).lay l .gone).lay l' (.row T5 ([]++ds))).put d (.row l')) (((σ.lay l .gone).lay l' (.row T5 ds)).put d (.row l')):=by
   refine Rel.congr (fun j=> .inr rfl) (fun j=>?_) rfl
   show lk (gy (gy σ.hs l .gone) l' _) j=lk (gy (gy (gy σ.hs l (.row T5 [])) l .gone) l' _) j
   rw[nV,nV,nV,nV,nV]
   simp only[List.nil_append]
   split
   ·rfl
   ·split<;>rfl
  exact hcongr _ _ _ _ r'
theorem auU {xs:Array Operand} {Ts:Array TypeId} {T':TypeId} (ho:o.op= .call ⟨.builtin .append,xs,Ts⟩) (hxs:xs.toList=[x,y]) (hTs:Ts.toList=[T,T']) (h:aeJ P n o σ T T' (opd P E.dt σ T x) (opd P E.dt σ T' y) k=some r):OpS P n o σ k r:=by
 have hxs':=two hxs
 have hTs':=two hTs
 subst hxs' hTs'
 have hx:x∈o.op.operands.toList:=by rw[ho];simp[Op.operands,Call.operands]
 have hy:y∈o.op.operands.toList:=by rw[ho];simp[Op.operands,Call.operands]
 unfold aeJ at h
 split at h
 ·rename_i Te z hTe hz
  rw[hTe] at hz
  have hh_:=bif_some h
  clear h
  obtain⟨hc,h⟩:=hh_
  have e:=beq_eq (and_l hc)
  subst e
  have h0:=Sr (and_r hc)
  split at h
  ·rename_i rd ds hsrc
   split at h
   ·    rename_i l e1
        split at h
        ·rename_i T5 es hl
         have hh_:=bif_some h
         clear h
         obtain⟨hc5,h⟩:=hh_
         have hh_:=xD h
         clear h
         obtain⟨hk0,h⟩:=hh_
         have hh_:=aqg h
         clear h
         obtain⟨rs,hrs,h⟩:=hh_
         obtain⟨p1,p2,p3⟩:=aqh hrs
         subst p2
         obtain⟨d,hd,hn,hk⟩:=uW h
         refine⟨_,hk,fun σ' ag=>?_⟩
         have key:=aDm (σ:=σ') (l:=l) (l':=σ.hs.length) ho hd hn (fE hTe) (iB hc5).1 (qW hz) h0 p3 (bJ ag hx e1) (by rw[ag.hs l (by simp)];exact hl) (by rw[ag.hs _ (by simp)];exact xE σ) (by rw[ag.k0];exact hk0)
          (awU hsrc σ' (Cj ag hy) fun l2 hl2=>ag.hs l2 (by simp[hl2])) p1
         rw[hd]
         exact key
        ·cases h
   ·    rename_i T5 e1
        have hh_:=bif_some h
        clear h
        obtain⟨hc5,h⟩:=hh_
        have hh_:=xD h
        clear h
        obtain⟨hk0,h⟩:=hh_
        have hh_:=aqg h
        clear h
        obtain⟨rs,hrs,h⟩:=hh_
        obtain⟨p1,p2,p3⟩:=aqh hrs
        simp only[List.nil_append] at p2
        subst p2
        obtain⟨d,hd,hn,hk⟩:=uW h
        refine⟨_,hk,fun σ' ag=>?_⟩
        have key:=append_nil (σ:=σ') (l:=σ.hs.length) (l':=σ.hs.length+1) ho hd hn (fE hTe) (iB hc5).1 (qW hz) h0 (by simpa using p3) (bJ ag hx e1) (by rw[ag.hs _ (by simp)];exact xE σ) (by rw[ag.k0];exact hk0)
         (by rw[ag.hs _ (by simp)];exact yZ _ _ (by omega)) (by omega) (by rw[ag.k0];omega) (awU hsrc σ' (Cj ag hy) fun l2 hl2=>ag.hs l2 (by simp[hl2])) (by simpa using p1)
        rw[hd]
        exact key
   ·cases h
  ·cases h
 ·cases h
theorem aqN {Te:TypeId} {ob:Ob} {vs:List AV} (h:aU2 P Te ob=some vs):acD P Te ob vs:=by
 cases ob with
 |row T es=>
  obtain⟨h1,h2⟩:=bif_some (show (bif qd P T Te then some (es.map (.dat Te)) else none)=some vs from h)
  cases h2
  exact .inl ⟨T,es,rfl,(iB h1).1,rfl⟩
 |rowA T us=>
  obtain⟨h1,h2⟩:=bif_some (show (bif qd P T Te then some us else none)=some vs from h)
  cases h2
  exact .inr ⟨T,rfl,(iB h1).1⟩
 |_=>cases h
theorem aCU {xs:Array Operand} {Ts:Array TypeId} {T':TypeId} (ho:o.op= .call ⟨.builtin .append,xs,Ts⟩) (hxs:xs.toList=[x,y]) (hTs:Ts.toList=[T,T']) (h:ahN P n o σ T T' (opd P E.dt σ T x) (opd P E.dt σ T' y) k=some r):OpS P n o σ k r:=by
 unfold ahN at h
 split at h
 ·rename_i l l2 e1 e2
  cases hb:(aNA (lk σ.hs l2)||aNA (lk σ.hs l)) with
  |false=>
   rw[hb,cond_false] at h
   exact auU ho hxs hTs (by rw[e1,e2];exact h)
  |true=>
   rw[hb,cond_true] at h
   have hxs':=two hxs
   have hTs':=two hTs
   subst hxs' hTs'
   have hx:x∈o.op.operands.toList:=by rw[ho];simp[Op.operands,Call.operands]
   have hy:y∈o.op.operands.toList:=by rw[ho];simp[Op.operands,Call.operands]
   unfold aqS at h
   split at h
   ·    rename_i Te z hTe hz
        rw[hTe] at hz
        have hh_:=bif_some h
        clear h
        obtain⟨hc,h⟩:=hh_
        have e:=beq_eq (and_l hc)
        subst e
        split at h
        ·rename_i es ds h1 h2
         have hh_:=bif_some h
         clear h
         obtain⟨hl,h⟩:=hh_
         have hh_:=xD h
         clear h
         obtain⟨hk0,h⟩:=hh_
         obtain⟨d,hd,hn,hk⟩:=uW h
         refine⟨_,hk,fun σ' ag=>?_⟩
         have key:=awE (σ:=σ') (l:=l) (l2:=l2) (l':=σ.hs.length) ho hd hn (fE hTe) (qW hz) (Sr (and_l (and_r hc))) (Nat.le_of_ble_eq_true (and_r (and_r hc))) (bJ ag hx e1) (ag.hs l (by simp)) (aqN h1) (by rw[ag.hs _ (by simp)];exact xE σ) (by rw[ag.k0];exact hk0) (bJ ag hy e2) (ag.hs l2 (by simp)) (aqN h2) (Nat.le_of_ble_eq_true hl)
         rw[hd]
         exact key
        ·cases h
   ·cases h
 ·exact auU ho hxs hTs h
theorem aAf {D:List TypeId} {Te:TypeId} {τ:St}:∀{xs:List Operand},(∀z∈xs,Ev P τ z (opd P D σ Te z))→(xs.all fun z=>szB P Te (opd P D σ Te z))=true→EvLA P τ Te xs (xs.map (opd P D σ Te))
 | [],_,_=> .nil
 |z::xs,hev,h=>by
  simp only[List.all_cons,Bool.and_eq_true] at h
  obtain⟨q1,q2,_,_,q5⟩:=p9 h.1
  exact .cons (hev z (by simp)) q1 q2 q5 (aAf (fun u hu=>hev u (by simp[hu])) h.2)
theorem aCV {len:Nat} {parts:Array (Nat×Operand)} (ho:o.op= .buildSlice T len parts) (h:ahP P E n o σ T len parts.toList k=some r):OpS P n o σ k r:=by
 unfold ahP at h
 cases hb:E.nest o with
 |false=>rw[hb,cond_false] at h;exact arB ho h
 |true=>
  rw[hb,cond_true] at h
  unfold aqT at h
  split at h
  ·rename_i Te hTe
   split at h
   ·    rename_i z hz
        have hh_:=bif_some h
        clear h
        obtain⟨hc0,h⟩:=hh_
        have hc:=and_r hc0
        have hh_:=xD h
        clear h
        obtain⟨hk0,h⟩:=hh_
        obtain⟨d,hd,hn,hk⟩:=uW h
        refine⟨_,hk,fun σ' ag=>?_⟩
        have hmem:∀z∈parts.toList.map (·.2),z∈o.op.operands.toList:=by
         intro z hz
         rw[ho]
         simpa [Op.operands] using hz
        have hlen:len=(parts.toList.map (·.2)).length:=by rw[List.length_map];exact beq_eq (and_l (and_r hc))
        have hpos:parts.toList.map (·.2)≠[]:=by
         intro e
         rw[e] at hlen
         exact Sr (and_l (and_r (and_r hc))) hlen
        have key:=awD (σ:=σ') (l:=σ.hs.length) ho hd hn (fE hTe) (by rw[ag.hs _ (by simp)];exact xE σ) (by rw[ag.k0];exact hk0) (qW hz) (Sr (and_l (and_r (and_r (and_r hc))))) (V7 (and_l hc)) hlen hpos
         (Nat.le_of_ble_eq_true (and_r (and_r (and_r (and_r hc))))) (aAf (D:=E.dt) (σ:=σ) (fun z hz=>Cj ag (hmem z hz)) (and_l hc0))
        rw[hd]
        exact key
   ·cases h
  ·cases h
theorem aNa {A:Type} {b:Bool} {u v:Option A} {q:A} (h:(bif b then u else v)=some q):(b=true∧u=some q)∨(b=false∧v=some q):=by
 cases b
 ·exact .inr ⟨rfl,h⟩
 ·exact .inl ⟨rfl,h⟩
theorem aCW {xs:Array Operand} {Ts:Array TypeId} {T':TypeId} (ho:o.op= .call ⟨.builtin .append,xs,Ts⟩) (hxs:xs.toList=[x,y]) (hTs:Ts.toList=[T,T']) (h:ahO P n o σ T T' (opd P E.dt σ T x) (opd P E.dt σ T' y) k=some r):OpS P n o σ k r:=by
 have hxs':=two hxs
 have hTs':=two hTs
 subst hxs' hTs'
 have hx:x∈o.op.operands.toList:=by rw[ho];simp[Op.operands,Call.operands]
 have hy:y∈o.op.operands.toList:=by rw[ho];simp[Op.operands,Call.operands]
 unfold ahO at h
 split at h
 ·rename_i Te hTe
  obtain⟨hc,h⟩:=bif_some h
  have hu8:=and_l hc
  have hS:=D9 (and_r hc)
  unfold u8B at hu8
  have he:=Aa (and_l hu8)
  have hinf:=and_r hu8
  split at hinf
  ·rename_i i hi
   have h1:=beq_eq (and_l hinf)
   have h2:=beq_eq (and_l (and_r hinf))
   have h3:=and_r (and_r hinf)
   split at h3
   ·    rename_i m hm
        have hm0:m=0:=of_decide_eq_true h3
        subst hm0
        split at h
        ·rename_i T2 s e2
         obtain⟨d1,e3,u2,rfl⟩:=wB e2
         split at h
         ·rename_i l e1
          split at h
          ·rename_i T5 es hl
           obtain⟨hc5,h⟩:=bif_some h
           obtain⟨hk0,h⟩:=xD h
           obtain⟨rs,hrs,h⟩:=Option.bind_eq_some_iff.1 h
           obtain⟨p1,p2⟩:=atF hrs
           subst p2
           obtain⟨d,hd,hn,hk⟩:=uW h
           refine⟨_,hk,fun σ' ag=>?_⟩
           have key:=ao4 (σ:=σ') (l:=l) (l':=σ.hs.length) ho hd hn (fE hTe) (iB hc5).1 hS u2 he hi hm h1 h2 (bJ ag hx e1) (by rw[ag.hs l (by simp)];exact hl) (by rw[ag.hs _ (by simp)];exact xE σ) (by rw[ag.k0];exact hk0) ((bJ ag hy e3).cstr u2) p1
           rw[hd]
           exact key
          ·cases h
         ·cases h
        ·cases h
   ·cases h3
  ·cases hinf
 ·cases h
theorem aNb {S1 S2 Te:TypeId} (ho:o.op= .convert S1 S2 x) (hTe:slE P S1=some Te) (h:ar1 P n o σ Te S2 (opd P E.dt σ S1 x) k=some r):OpS P n o σ k r:=by
 have hx:x∈o.op.operands.toList:=by rw[ho];simp[Op.operands]
 unfold ar1 at h
 obtain⟨hc,h⟩:=bif_some h
 have he:=Aa (and_l hc)
 have hc1:=beq_eq (and_l (and_r hc))
 have hS:=D9 (and_r (and_r hc))
 split at h
 ·rename_i rd ds hsrc
  obtain⟨s,hs,h⟩:=Option.bind_eq_some_iff.1 h
  unfold aWd at hs
  obtain⟨hb,hs⟩:=bif_some hs
  have hlen:=Nat.le_of_ble_eq_true hb
  cases hs
  obtain⟨d,hd,hn,hk⟩:=uW h
  refine⟨_,hk,fun σ' ag=>?_⟩
  have key:=ao5 (σ:=σ') ho hd hn (fE hTe) hS he hc1 (awU hsrc σ' (Cj ag hx) fun l2 hl2=>ag.hs l2 (by simp[hl2])) hlen
  rw[hd]
  exact key
 ·cases h
end
end Go.Am
