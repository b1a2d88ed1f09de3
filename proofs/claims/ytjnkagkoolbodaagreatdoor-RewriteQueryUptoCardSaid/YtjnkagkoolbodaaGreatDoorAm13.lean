/- The abstract machine, part 13: each operation of the machine is so in the model. -/
import Derived.Test.YtjnkagkoolbodaaGreatDoorAm12
set_option linter.unusedVariables false
set_option linter.unusedSimpArgs false
namespace Go.Am
open Go.RowKit
structure Agr (o:Oper) (σ σ':St) (rd:List Nat):Prop where
 ts:Agrs σ σ' o.op.operands.toList
 hs:∀l∈rd,lk σ'.hs l=lk σ.hs l
 k0:σ'.k0=σ.k0
def OpS {R:Type} (P:Program) (n:Nat) (o:Oper) (σ:St) (k:Dl→Option R) (r:R):Prop:=
 ∃δ,k δ=some r∧∀σ',Agr o σ σ' δ.rd→bK P n o σ' (σ'.app o.dst δ)
section
variable {P:Program} {n:Nat} {o:Oper} {σ τ:St} {x y:Operand} {v:AV} {T:TypeId} {R:Type} {E:Env} {k:Dl→Option R} {r:R}
theorem uW {rd:List Nat} {wr:List (Nat×Ob)} (h:out n o v rd wr k=some r):∃d,o.dst=some d∧d<n∧k ⟨some v,rd,wr⟩=some r:=by
 unfold out at h
 split at h
 ·rename_i d hd
  obtain⟨h1,h2⟩:=bif_some h
  exact⟨d,hd,Nat.le_of_ble_eq_true h1,h2⟩
 ·cases h
theorem VX {rd:List Nat} {wr:List (Nat×Ob)} (h:ajA o rd wr k=some r):o.dst=none∧k ⟨none,rd,wr⟩=some r:=by
 unfold ajA at h
 split at h
 ·cases h
 ·rename_i hd;exact⟨hd,h⟩
theorem xD {f:Nat→Option R} (h:new σ f=some r):σ.k0≤σ.hs.length∧f σ.hs.length=some r:=by
 unfold new at h
 obtain⟨h1,h2⟩:=bif_some h
 exact⟨Nat.le_of_ble_eq_true h1,h2⟩
theorem bD {rd:List Nat} (h:out n o v rd [] k=some r) (hv:∀σ',Agr o σ σ' rd→∀d,o.dst=some d→d<n→bK P n o σ' (σ'.put d v)):OpS P n o σ k r:=by
 obtain⟨d,hd,hn,hk⟩:=uW h
 refine⟨_,hk,fun σ' ha=>?_⟩
 have:=hv σ' ha d hd hn
 rw[hd]
 exact this
theorem ayY {rd:List Nat} {l:Nat} {ob:Ob} (h:out n o v rd [(l,ob)] k=some r) (hv:∀σ',Agr o σ σ' rd→∀d,o.dst=some d→d<n→bK P n o σ' ((σ'.lay l ob).put d v)):OpS P n o σ k r:=by
 obtain⟨d,hd,hn,hk⟩:=uW h
 refine⟨_,hk,fun σ' ha=>?_⟩
 have:=hv σ' ha d hd hn
 rw[hd]
 exact this
theorem Cj {σ':St} {rd:List Nat} (ha:Agr o σ σ' rd) (hx:x∈o.op.operands.toList):Ev P σ' x (opd P E.dt σ T x):=by
 rw[←Kw ha.ts hx]
 exact G9
theorem bJ {σ':St} {rd:List Nat} {u:AV} (ha:Agr o σ σ' rd) (hx:x∈o.op.operands.toList) (hv:opd P E.dt σ T x=u):Ev P σ' x u:=by
 rw[←hv]
 exact Cj ha hx
theorem aTC (ho:o.op= .move x) (h:out n o (opd P E.dt σ o.type x) [] [] k=some r):OpS P n o σ k r:=
 bD h fun σ' ha d hd hn=>aMJ ho hd hn (Cj ha (by rw[ho];simp[Op.operands]))
theorem aDw (ho:o.op= .assign x) (h:out n o (opd P E.dt σ o.type x) [] [] k=some r):OpS P n o σ k r:=
 bD h fun σ' ha d hd hn=>aCK ho hd hn (Cj ha (by rw[ho];simp[Op.operands]))
theorem aTD {c:Operand} (ho:o.op= .pick c x y) (h:axv P E n o σ c x y k=some r):OpS P n o σ k r:=by
 unfold axv at h
 split at h
 ·rename_i b hb
  obtain⟨TB,d0,e1,e2,rfl⟩:=GY hb
  cases hd0:d0.toBool with
  |true=>
   rw[hd0] at h
   exact bD h fun σ' ha d hd hn=>by
        have hc:=(bJ (x:=c) ha (by rw[ho];simp[Op.operands]) e1).cbool e2
        rw[hd0] at hc
        exact ars ho hd hn e2 hc (Cj ha (by rw[ho];simp[Op.operands]))
  |false=>
   rw[hd0] at h
   exact bD h fun σ' ha d hd hn=>by
        have hc:=(bJ (x:=c) ha (by rw[ho];simp[Op.operands]) e1).cbool e2
        rw[hd0] at hc
        exact ao7 ho hd hn e2 hc (Cj ha (by rw[ho];simp[Op.operands]))
 ·cases h
theorem xE (σ:St):lk σ.hs σ.hs.length= .free:=yZ _ _ (Nat.le_refl _)
theorem aMb (ho:o.op= .alloc T) (h:ar2 P n o σ T k=some r):OpS P n o σ k r:=by
 unfold ar2 at h
 split at h
 ·rename_i v hv
  have hh_:=xD h
  clear h
  obtain⟨hk0,h⟩:=hh_
  exact ayY h fun σ' ha d hd hn=>aJn ho hd hn (by rw[ha.hs _ (by simp)];exact xE σ) (by rw[ha.k0];exact hk0) (Sw hv)
 ·cases h
theorem aVC (ho:o.op= .box T x) (h:aI4 P E n o σ T x k=some r):OpS P n o σ k r:=by
 unfold aI4 at h
 have hh_:=bif_some h
 clear h
 obtain⟨hb,h⟩:=hh_
 have hh_:=xD h
 clear h
 obtain⟨hk0,h⟩:=hh_
 obtain⟨q1,q2,q3,q4,q5⟩:=p9 hb
 exact ayY h fun σ' ha d hd hn=>aU7 ho hd hn (by rw[ha.hs _ (by simp)];exact xE σ) (by rw[ha.k0];exact hk0) (Cj ha (by rw[ho];simp[Op.operands])) q1 q2 q5
theorem aMc {parts:Array (Nat×Operand)} (ho:o.op= .build T parts) (h:ar3 P E n o σ T parts.toList k=some r):OpS P n o σ k r:=by
 unfold ar3 at h
 split at h
 ·rename_i fs hfs
  split at h
  ·rename_i T' vs hz
   have hh_:=bif_some h
   clear h
   obtain⟨hc,h⟩:=hh_
   have e:=beq_eq (and_l hc)
   subst e
   split at h
   ·    rename_i us hus
        refine bD h fun σ' ha d hd hn=>aD5 ho hd hn (xG hfs) (and_l (and_r hc)) (and_r (and_r hc)) (Sw hz) ?_
        have:apg P E σ' fs parts.toList vs=some us:=by
         rw[as4 ha.ts fun p hp=>by rw[ho];simp only[Op.operands];exact List.mem_map.2 ⟨p,hp,rfl⟩]
         exact hus
        exact ak2 this
   ·cases h
  ·cases h
 ·cases h
theorem aTE (ho:o.op= .load T x) (h:axw P E n o σ T x k=some r):OpS P n o σ k r:=by
 have hx:x∈o.op.operands.toList:=by rw[ho];simp[Op.operands]
 unfold axw at h
 split at h
 ·rename_i T' d0 e1
  have hh_:=bif_some h
  clear h
  obtain⟨hc,h⟩:=hh_
  have e:=beq_eq (and_l hc)
  subst e
  obtain⟨q1,q2,⟨D,hD⟩,q4,q5⟩:=p9 (and_r hc)
  exact bD h fun σ' ha d hd hn=>(asj ho hd hn hD (fun hf=>q4 hf) (bJ ha hx e1)).can
 ·rename_i l path off e1
  split at h
  ·rename_i S c hl
   split at h
   ·    rename_i T' q v hg
        have hh_:=bif_some h
        clear h
        obtain⟨hc,h⟩:=hh_
        have e:=beq_eq (and_l hc)
        subst e
        have e2:=beq_eq (and_l (and_r hc))
        subst e2
        obtain⟨q1,q2,⟨D,hD⟩,q4,q5⟩:=p9 (and_l (and_r (and_r hc)))
        have hag:v.isAgg P=dK P T':=by simpa using and_r (and_r (and_r hc))
        refine bD h fun σ' ha d hd hn=>?_
        have key:=avE ho hd hn hD (fun hf=>q4 (by rw[hag];exact hf)) (bJ ha hx e1) (by rw[ha.hs l (by simp)];exact hl) (Ea hg) hag q2
        cases v<;>first|exact key|exact key.can
   ·cases h
  ·cases h
 ·rename_i l i sz path off e1
  split at h
  ·rename_i T5 es hl
   split at h
   ·    rename_i Te hTe
        have hh_:=Option.bind_eq_some_iff.1 h
        clear h
        obtain⟨e0,he0,h⟩:=hh_
        split at h
        ·rename_i T' q v hg
         have hh_:=bif_some h
         clear h
         obtain⟨hc,h⟩:=hh_
         have e:=beq_eq (and_l hc)
         subst e
         have e2:=beq_eq (and_l (and_r hc))
         subst e2
         have e3:=beq_eq (and_l (and_r (and_r hc)))
         subst e3
         obtain⟨q1,q2,⟨D,hD⟩,q4,q5⟩:=p9 (and_l (and_r (and_r (and_r hc))))
         have hag:v.isAgg P=dK P T':=by simpa using and_r (and_r (and_r (and_r hc)))
         refine bD h fun σ' ha d hd hn=>?_
         have key:=arq ho hd hn hD (fun hf=>q4 (by rw[hag];exact hf)) (bJ ha hx e1) (by rw[ha.hs l (by simp)];exact hl) (fE hTe) he0 (Ea hg) hag q2
         cases v<;>first|exact key|exact key.can
        ·cases h
   ·cases h
  ·rename_i T5 vs hl
   split at h
   ·    rename_i Te hTe
        have hh_:=Option.bind_eq_some_iff.1 h
        clear h
        obtain⟨e0,he0,h⟩:=hh_
        split at h
        ·rename_i T' q v hg
         have hh_:=bif_some h
         clear h
         obtain⟨hc,h⟩:=hh_
         have e:=beq_eq (and_l hc)
         subst e
         have e2:=beq_eq (and_l (and_r hc))
         subst e2
         have e3:=beq_eq (and_l (and_r (and_r hc)))
         subst e3
         obtain⟨q1,q2,⟨D,hD⟩,q4,q5⟩:=p9 (and_l (and_r (and_r (and_r hc))))
         have hag:v.isAgg P=dK P T':=by simpa using and_r (and_r (and_r (and_r hc)))
         refine bD h fun σ' ha d hd hn=>?_
         have key:=aoV ho hd hn hD (fun hf=>q4 (by rw[hag];exact hf)) (bJ ha hx e1) (by rw[ha.hs l (by simp)];exact hl) (fE hTe) he0 (Ea hg) hag q2
         cases v<;>first|exact key|exact key.can
        ·cases h
   ·cases h
  ·cases h
 ·cases h
theorem aMd (ho:o.op= .store T x y) (h:ar4 P E o σ T x y k=some r):OpS P n o σ k r:=by
 have hx:x∈o.op.operands.toList:=by rw[ho];simp[Op.operands]
 have hy:y∈o.op.operands.toList:=by rw[ho];simp[Op.operands]
 unfold ar4 at h
 have hh_:=bif_some h
 clear h
 obtain⟨hc0,h⟩:=hh_
 obtain⟨q1,q2,q3,q4,q5⟩:=p9 (and_l hc0)
 have h0:=Sr (and_r hc0)
 split at h
 ·rename_i l path off e1
  split at h
  ·rename_i S c hl
   split at h
   ·    rename_i q c' hs
        have hh_:=bif_some h
        clear h
        obtain⟨hc,h⟩:=hh_
        have e:=beq_eq hc
        subst e
        obtain⟨hd,hk⟩:=VX h
        refine⟨_,hk,fun σ' ha=>?_⟩
        have:=asl (n:=n) ho hd h0 (bJ ha hx e1) (Cj ha hy) q1 q2 q5 (by rw[ha.hs l (by simp)];exact hl) (Ky hs)
        rw[hd]
        exact this
   ·cases h
  ·cases h
 ·rename_i l i sz path off e1
  split at h
  ·rename_i T5 es hl
   split at h
   ·    rename_i Te hTe
        have hh_:=Option.bind_eq_some_iff.1 h
        clear h
        obtain⟨e0,he0,h⟩:=hh_
        split at h
        ·rename_i q c' hs
         split at h
         ·rename_i Te' e' hpk
          have hh_:=bif_some h
          clear h
          obtain⟨hc,h⟩:=hh_
          have e:=beq_eq (and_l hc)
          subst e
          have e2:=beq_eq (and_l (and_r hc))
          subst e2
          have hcmp:=and_l (and_r (and_r hc))
          have hnm:l∉(opd P E.dt σ T y).rws:=acw (by simpa using and_r (and_r (and_r hc)))
          obtain⟨hd,hk⟩:=VX h
          refine⟨_,hk,fun σ' ha=>?_⟩
          have hagr:∀l∈(opd P E.dt σ T y).rws,lk σ'.hs l=lk σ.hs l:=fun l hl=>ha.hs l (by simp[hl])
          rw[hd]
          have key:bK P n o ⟨σ'.ts,wrO σ'.hs (frzW σ'.hs (opd P E.dt σ T y).rws),σ'.k0⟩ ((St.mk σ'.ts (wrO σ'.hs (frzW σ'.hs (opd P E.dt σ T y).rws)) σ'.k0).lay l (.row T5 (es.set i e'))):=by
           have hev:∀{z:Operand} {u:AV},Ev P σ' z u→z∈o.op.operands.toList→(∃T0,u=opd P E.dt σ T0 z)→Ev P (St.mk σ'.ts (wrO σ'.hs (frzW σ'.hs (opd P E.dt σ T y).rws)) σ'.k0) z u:=by
            rintro z u _ hz ⟨T0,rfl⟩
            have e3:opd P E.dt (St.mk σ'.ts (wrO σ'.hs (frzW σ'.hs (opd P E.dt σ T y).rws)) σ'.k0) T0 z=opd P E.dt σ T0 z:=by
               rw[←Kw ha.ts hz]
               cases z<;>rfl
            rw[←e3]
            exact G9
           refine ao6 (n:=n) ho hd h0 (hev (bJ ha hx e1) hx ⟨_,e1.symm⟩) (hev (Cj ha hy) hy ⟨_,rfl⟩) q1 q2 q5 ?_ (fE hTe) he0 (Ky hs) ?_
           ·show lk (wrO σ'.hs _) l=_
            rw[Ph hnm,ha.hs l (by simp)]
            exact hl
           ·intro ok0 w0 a w β rb cs hra
            refine RD.compat (oG rb.frzOK hra ?_) hcmp
            show pk P (wrO σ'.hs (frzW σ'.hs (opd P E.dt σ T y).rws)) c'=_
            rw[←hpk]
            refine Sy c' fun l2 hl2=>?_
            have hsub:∀l2∈c'.rws,l2∈(opd P E.dt σ T y).rws:=setAt_rws hs (by intro l3 h3;simp[AV.rws] at h3)
            rw[uX hagr]
            exact yx hagr l2 (hsub l2 hl2)
          have hfin:St.mk (aIW σ'.ts none none) (wrO σ'.hs (frzW σ.hs (opd P E.dt σ T y).rws++[(l,.row T5 (es.set i e'))])) σ'.k0=(St.mk σ'.ts (wrO σ'.hs (frzW σ'.hs (opd P E.dt σ T y).rws)) σ'.k0).lay l (.row T5 (es.set i e')):=by
           rw[DI,uX hagr]
           rfl
          have:=key.pre (Imp.frzW (σ:=σ') (opd P E.dt σ T y).rws)
          rw[←hfin] at this
          exact this
         ·cases h
        ·cases h
   ·cases h
  ·rename_i T5 vs hl
   split at h
   ·    rename_i Te hTe
        have hh_:=Option.bind_eq_some_iff.1 h
        clear h
        obtain⟨e0,he0,h⟩:=hh_
        split at h
        ·rename_i q c' hs
         have hh_:=bif_some h
         clear h
         obtain⟨hc,h⟩:=hh_
         have e:=beq_eq (and_l hc)
         subst e
         have e2:=beq_eq (and_r hc)
         subst e2
         obtain⟨hd,hk⟩:=VX h
         refine⟨_,hk,fun σ' ha=>?_⟩
         have:=alp (n:=n) ho hd h0 (bJ ha hx e1) (Cj ha hy) q1 q2 q5 (by rw[ha.hs l (by simp)];exact hl) (fE hTe) he0 (Ky hs)
         rw[hd]
         exact this
        ·cases h
   ·cases h
  ·cases h
 ·cases h
where setAt_rws {T':TypeId} {v:AV}:∀{path:List Nat} {S:TypeId} {c:AV} {q:Nat} {c':AV},setAt P T' v S c path=some (q,c')→(∀l∈c.rws,l∈v.rws)→∀l∈c'.rws,l∈v.rws
 | [],S,c,q,c',h,_=>by
   have h':(bif Nat.beq S T' then some (0,v) else none)=some (q,c'):=by simpa [setAt] using h
   obtain⟨_,h2⟩:=bif_some h'
   cases h2
   exact fun l hl=>hl
 | i  ::p,S,c,    q,c',h,hc=>by
   unfold setAt at h
   split at h
   ·  rename_i fs hfs
      split at h
      ·rename_i f hf
       split at h
       ·rename_i vs hvs
        split at h
        · rename_i old hold
          obtain⟨h1,h2⟩:=bif_some h
          split at h2
          ·rename_i q' new hg
           cases h2
           have hvsr:∀l∈AV.rwsL vs,l∈v.rws:=by
                split at hvs
                · obtain⟨e1,e2⟩:=bif_some hvs
                  cases e2
                  exact hc
                · obtain⟨e1,e2⟩:=bif_some hvs
                  cases e2
                  intro l hl
                  exfalso
                  have:∀(fs:List Field) (j:Nat) (d:Dt),AV.rwsL (YU P fs j d)=[]:=by
                   intro fs
                   induction fs with
                   |nil=>intro j d;rfl
                   |cons f r ih=>intro j d;simp[YU,AV.rwsL,AV.rws,ih]
                  rw[show expl P fs _=YU P fs.toList 0 _ from rfl,this] at hl
                  simp at hl
                ·cases hvs
           have hnew:=setAt_rws hg fun l hl=>hvsr l (as5 (List.mem_of_getElem? hold) hl)
           intro l hl
           have hset:∀(us:List AV) (j:Nat),(∀l∈AV.rwsL us,l∈v.rws)→∀l∈AV.rwsL (us.set j new),l∈v.rws:=by
                intro us
                induction us with
                |nil=>intro j hu l hl;simp[AV.rwsL] at hl
                | cons u r ih=>
                  intro j hu l hl
                  cases j with
                  |zero=>
                   simp only[List.set_cons_zero,AV.rwsL,List.mem_append] at hl
                   rcases hl with hl|hl
                   ·exact hnew l hl
                   ·exact hu l (by simp[AV.rwsL,hl])
                  |succ j=>
                   simp only[List.set_cons_succ,AV.rwsL,List.mem_append] at hl
                   rcases hl with hl|hl
                   ·exact hu l (by simp[AV.rwsL,hl])
                   ·exact ih j (fun l hl=>hu l (by simp[AV.rwsL,hl])) l hl
           exact hset vs i hvsr l hl
          ·cases h2
        ·cases h
       ·cases h
      ·cases h
   ·cases h
end
end Go.Am
