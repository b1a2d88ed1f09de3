/- The abstract machine, part 13: each operation of the machine is so in the model. -/
import Derived.Test.YtpifchdngodgjaaGreatDoorAm12
set_option linter.unusedVariables false
set_option linter.unusedSimpArgs false
namespace Go.Am
open Go.RowKit
structure Agr (o:Oper) (σ σ':St) (rd:List Nat):Prop where
 ts:Agrs σ σ' o.op.operands.toList
 hs:∀l∈rd,lk σ'.hs l=lk σ.hs l
 k0:σ'.k0=σ.k0
def OpS {R:Type} (P:Program) (n:Nat) (o:Oper) (σ:St) (k:Dl→Option R) (r:R):Prop:=
 ∃δ,k δ=some r∧∀σ',Agr o σ σ' δ.rd→OpOK P n o σ' (σ'.app o.dst δ)
section
variable {P:Program} {n:Nat} {o:Oper} {σ τ:St} {x y:Operand} {v:AV} {T:TypeId} {R:Type} {E:Env} {k:Dl→Option R} {r:R}
theorem out_some {rd:List Nat} {wr:List (Nat×Ob)} (h:out n o v rd wr k=some r):∃d,o.dst=some d∧d<n∧k ⟨some v,rd,wr⟩=some r:=by
 unfold out at h
 split at h
 ·rename_i d hd
  obtain⟨h1,h2⟩:=bif_some h
  exact⟨d,hd,Nat.le_of_ble_eq_true h1,h2⟩
 ·cases h
theorem outN_some {rd:List Nat} {wr:List (Nat×Ob)} (h:outN o rd wr k=some r):o.dst=none∧k ⟨none,rd,wr⟩=some r:=by
 unfold outN at h
 split at h
 ·cases h
 ·rename_i hd;exact⟨hd,h⟩
theorem new_some {f:Nat→Option R} (h:new σ f=some r):σ.k0≤σ.hs.length∧f σ.hs.length=some r:=by
 unfold new at h
 obtain⟨h1,h2⟩:=bif_some h
 exact⟨Nat.le_of_ble_eq_true h1,h2⟩
theorem val_s {rd:List Nat} (h:out n o v rd [] k=some r) (hv:∀σ',Agr o σ σ' rd→∀d,o.dst=some d→d<n→OpOK P n o σ' (σ'.put d v)):OpS P n o σ k r:=by
 obtain⟨d,hd,hn,hk⟩:=out_some h
 refine⟨_,hk,fun σ' ha=>?_⟩
 have:=hv σ' ha d hd hn
 rw[hd]
 exact this
theorem wr1_s {rd:List Nat} {l:Nat} {ob:Ob} (h:out n o v rd [(l,ob)] k=some r) (hv:∀σ',Agr o σ σ' rd→∀d,o.dst=some d→d<n→OpOK P n o σ' ((σ'.lay l ob).put d v)):OpS P n o σ k r:=by
 obtain⟨d,hd,hn,hk⟩:=out_some h
 refine⟨_,hk,fun σ' ha=>?_⟩
 have:=hv σ' ha d hd hn
 rw[hd]
 exact this
theorem ev_at {σ':St} {rd:List Nat} (ha:Agr o σ σ' rd) (hx:x∈o.op.operands.toList):Ev P σ' x (opd P E.dt σ T x):=by
 rw[←opd_agr ha.ts hx]
 exact opd_ev
theorem ev_is {σ':St} {rd:List Nat} {u:AV} (ha:Agr o σ σ' rd) (hx:x∈o.op.operands.toList) (hv:opd P E.dt σ T x=u):Ev P σ' x u:=by
 rw[←hv]
 exact ev_at ha hx
theorem s_move (ho:o.op= .move x) (h:out n o (opd P E.dt σ o.type x) [] [] k=some r):OpS P n o σ k r:=
 val_s h fun σ' ha d hd hn=>op_move ho hd hn (ev_at ha (by rw[ho];simp[Op.operands]))
theorem s_assign (ho:o.op= .assign x) (h:out n o (opd P E.dt σ o.type x) [] [] k=some r):OpS P n o σ k r:=
 val_s h fun σ' ha d hd hn=>op_assign ho hd hn (ev_at ha (by rw[ho];simp[Op.operands]))
theorem s_pick {c:Operand} (ho:o.op= .pick c x y) (h:evPick P E n o σ c x y k=some r):OpS P n o σ k r:=by
 unfold evPick at h
 split at h
 ·rename_i b hb
  obtain⟨TB,d0,e1,e2,rfl⟩:=bval_some hb
  cases hd0:d0.toBool with
  |true=>
   rw[hd0] at h
   exact val_s h fun σ' ha d hd hn=>by
        have hc:=(ev_is (x:=c) ha (by rw[ho];simp[Op.operands]) e1).cbool e2
        rw[hd0] at hc
        exact op_pick_true ho hd hn e2 hc (ev_at ha (by rw[ho];simp[Op.operands]))
  |false=>
   rw[hd0] at h
   exact val_s h fun σ' ha d hd hn=>by
        have hc:=(ev_is (x:=c) ha (by rw[ho];simp[Op.operands]) e1).cbool e2
        rw[hd0] at hc
        exact op_pick_false ho hd hn e2 hc (ev_at ha (by rw[ho];simp[Op.operands]))
 ·cases h
theorem free_end (σ:St):lk σ.hs σ.hs.length= .free:=lk_end _ _ (Nat.le_refl _)
theorem s_alloc (ho:o.op= .alloc T) (h:evAlloc P n o σ T k=some r):OpS P n o σ k r:=by
 unfold evAlloc at h
 split at h
 ·rename_i v hv
  have hh_:=new_some h
  clear h
  obtain⟨hk0,h⟩:=hh_
  exact wr1_s h fun σ' ha d hd hn=>op_alloc ho hd hn (by rw[ha.hs _ (by simp)];exact free_end σ) (by rw[ha.k0];exact hk0) (zeroV_sound hv)
 ·cases h
theorem s_box (ho:o.op= .box T x) (h:evBox P E n o σ T x k=some r):OpS P n o σ k r:=by
 unfold evBox at h
 have hh_:=bif_some h
 clear h
 obtain⟨hb,h⟩:=hh_
 have hh_:=new_some h
 clear h
 obtain⟨hk0,h⟩:=hh_
 obtain⟨q1,q2,q3,q4,q5⟩:=szB_some hb
 exact wr1_s h fun σ' ha d hd hn=>op_box ho hd hn (by rw[ha.hs _ (by simp)];exact free_end σ) (by rw[ha.k0];exact hk0) (ev_at ha (by rw[ho];simp[Op.operands])) q1 q2 q5
theorem s_build {parts:Array (Nat×Operand)} (ho:o.op= .build T parts) (h:evBuild P E n o σ T parts.toList k=some r):OpS P n o σ k r:=by
 unfold evBuild at h
 split at h
 ·rename_i fs hfs
  split at h
  ·rename_i T' vs hz
   have hh_:=bif_some h
   clear h
   obtain⟨hc,h⟩:=hh_
   have e:=beq_eq (and_l hc)
   subst e
   split at h
   ·    rename_i us hus
        refine val_s h fun σ' ha d hd hn=>op_build ho hd hn (stF_some hfs) (and_l (and_r hc)) (and_r (and_r hc)) (zeroV_sound hz) ?_
        have:bldL P E σ' fs parts.toList vs=some us:=by
         rw[bldL_agr ha.ts fun p hp=>by rw[ho];simp only[Op.operands];exact List.mem_map.2 ⟨p,hp,rfl⟩]
         exact hus
        exact bldL_sound this
   ·cases h
  ·cases h
 ·cases h
theorem s_load (ho:o.op= .load T x) (h:evLoad P E n o σ T x k=some r):OpS P n o σ k r:=by
 have hx:x∈o.op.operands.toList:=by rw[ho];simp[Op.operands]
 unfold evLoad at h
 split at h
 ·rename_i T' d0 e1
  have hh_:=bif_some h
  clear h
  obtain⟨hc,h⟩:=hh_
  have e:=beq_eq (and_l hc)
  subst e
  obtain⟨q1,q2,⟨D,hD⟩,q4,q5⟩:=szB_some (and_r hc)
  exact val_s h fun σ' ha d hd hn=>(op_load_rptr ho hd hn hD (fun hf=>q4 hf) (ev_is ha hx e1)).can
 ·rename_i l path off e1
  split at h
  ·rename_i S c hl
   split at h
   ·    rename_i T' q v hg
        have hh_:=bif_some h
        clear h
        obtain⟨hc,h⟩:=hh_
        have e:=beq_eq (and_l hc)
        subst e
        have e2:=beq_eq (and_l (and_r hc))
        subst e2
        obtain⟨q1,q2,⟨D,hD⟩,q4,q5⟩:=szB_some (and_l (and_r (and_r hc)))
        have hag:v.isAgg P=aggT P T':=by simpa using and_r (and_r (and_r hc))
        refine val_s h fun σ' ha d hd hn=>?_
        have key:=op_load_ptr ho hd hn hD (fun hf=>q4 (by rw[hag];exact hf)) (ev_is ha hx e1) (by rw[ha.hs l (by simp)];exact hl) (getAt_sound hg) hag q2
        cases v<;>first|exact key|exact key.can
   ·cases h
  ·cases h
 ·rename_i l i sz path off e1
  split at h
  ·rename_i T5 es hl
   split at h
   ·    rename_i Te hTe
        have hh_:=Option.bind_eq_some_iff.1 h
        clear h
        obtain⟨e0,he0,h⟩:=hh_
        split at h
        ·rename_i T' q v hg
         have hh_:=bif_some h
         clear h
         obtain⟨hc,h⟩:=hh_
         have e:=beq_eq (and_l hc)
         subst e
         have e2:=beq_eq (and_l (and_r hc))
         subst e2
         have e3:=beq_eq (and_l (and_r (and_r hc)))
         subst e3
         obtain⟨q1,q2,⟨D,hD⟩,q4,q5⟩:=szB_some (and_l (and_r (and_r (and_r hc))))
         have hag:v.isAgg P=aggT P T':=by simpa using and_r (and_r (and_r (and_r hc)))
         refine val_s h fun σ' ha d hd hn=>?_
         have key:=op_load_eptr ho hd hn hD (fun hf=>q4 (by rw[hag];exact hf)) (ev_is ha hx e1) (by rw[ha.hs l (by simp)];exact hl) (slE_some hTe) he0 (getAt_sound hg) hag q2
         cases v<;>first|exact key|exact key.can
        ·cases h
   ·cases h
  ·rename_i T5 vs hl
   split at h
   ·    rename_i Te hTe
        have hh_:=Option.bind_eq_some_iff.1 h
        clear h
        obtain⟨e0,he0,h⟩:=hh_
        split at h
        ·rename_i T' q v hg
         have hh_:=bif_some h
         clear h
         obtain⟨hc,h⟩:=hh_
         have e:=beq_eq (and_l hc)
         subst e
         have e2:=beq_eq (and_l (and_r hc))
         subst e2
         have e3:=beq_eq (and_l (and_r (and_r hc)))
         subst e3
         obtain⟨q1,q2,⟨D,hD⟩,q4,q5⟩:=szB_some (and_l (and_r (and_r (and_r hc))))
         have hag:v.isAgg P=aggT P T':=by simpa using and_r (and_r (and_r (and_r hc)))
         refine val_s h fun σ' ha d hd hn=>?_
         have key:=op_load_eptrA ho hd hn hD (fun hf=>q4 (by rw[hag];exact hf)) (ev_is ha hx e1) (by rw[ha.hs l (by simp)];exact hl) (slE_some hTe) he0 (getAt_sound hg) hag q2
         cases v<;>first|exact key|exact key.can
        ·cases h
   ·cases h
  ·cases h
 ·cases h
theorem s_store (ho:o.op= .store T x y) (h:evStore P E o σ T x y k=some r):OpS P n o σ k r:=by
 have hx:x∈o.op.operands.toList:=by rw[ho];simp[Op.operands]
 have hy:y∈o.op.operands.toList:=by rw[ho];simp[Op.operands]
 unfold evStore at h
 have hh_:=bif_some h
 clear h
 obtain⟨hc0,h⟩:=hh_
 obtain⟨q1,q2,q3,q4,q5⟩:=szB_some (and_l hc0)
 have h0:=nbeq (and_r hc0)
 split at h
 ·rename_i l path off e1
  split at h
  ·rename_i S c hl
   split at h
   ·    rename_i q c' hs
        have hh_:=bif_some h
        clear h
        obtain⟨hc,h⟩:=hh_
        have e:=beq_eq hc
        subst e
        obtain⟨hd,hk⟩:=outN_some h
        refine⟨_,hk,fun σ' ha=>?_⟩
        have:=op_store_ptr (n:=n) ho hd h0 (ev_is ha hx e1) (ev_at ha hy) q1 q2 q5 (by rw[ha.hs l (by simp)];exact hl) (setAt_sound hs)
        rw[hd]
        exact this
   ·cases h
  ·cases h
 ·rename_i l i sz path off e1
  split at h
  ·rename_i T5   es hl
   split at h
   ·    rename_i Te hTe
        have hh_:=Option.bind_eq_some_iff.1 h
        clear h
        obtain⟨e0,he0,h⟩:=hh_
        split at h
        ·rename_i q c' hs
         split at h
         ·rename_i Te' e' hpk
          have hh_:=bif_some h
          clear h
          obtain⟨hc,h⟩:=hh_
          have e:=beq_eq (and_l hc)
          subst e
          have e2:=beq_eq (and_l (and_r hc))
          subst e2
          have hcmp:=and_l (and_r (and_r hc))
          have hnm:l∉(opd P E.dt σ T y).rws:=memB_not (by simpa using and_r (and_r (and_r hc)))
          obtain⟨hd,hk⟩:=outN_some h
          refine⟨_,hk,fun σ' ha=>?_⟩
          have hagr:∀l∈(opd P E.dt σ T y).rws,lk σ'.hs l=lk σ.hs l:=fun l hl=>ha.hs l (by simp[hl])
          rw[hd]
          have key:OpOK P n o ⟨σ'.ts,wrO σ'.hs (frzW σ'.hs (opd P E.dt σ T y).rws),σ'.k0⟩ ((St.mk σ'.ts (wrO σ'.hs (frzW σ'.hs (opd P E.dt σ T y).rws)) σ'.k0).lay l (.row T5 (es.set i e'))):=by
           have hev:∀{z:Operand} {u:AV},Ev P σ' z u→z∈o.op.operands.toList→(∃T0,u=opd P E.dt σ T0 z)→Ev P (St.mk σ'.ts (wrO σ'.hs (frzW σ'.hs (opd P E.dt σ T y).rws)) σ'.k0) z u:=by
                rintro z u _ hz ⟨T0,rfl⟩
                have e3:opd P E.dt (St.mk σ'.ts (wrO σ'.hs (frzW σ'.hs (opd P E.dt σ T y).rws)) σ'.k0) T0 z=opd P E.dt σ T0 z:=by
                 rw[←opd_agr ha.ts hz]
                 cases z<;>rfl
                rw[←e3]
                exact opd_ev
           refine op_store_eptr (n:=n) ho hd h0 (hev (ev_is ha hx e1) hx ⟨_,e1.symm⟩) (hev (ev_at ha hy) hy ⟨_,rfl⟩) q1 q2 q5 ?_ (slE_some hTe) he0 (setAt_sound hs) ?_
           ·    show lk (wrO σ'.hs _) l=_
                rw[frzW_other hnm,ha.hs l (by simp)]
                exact hl
           ·    intro ok0 w0 a w β rb cs hra
                refine RD.compat (pk_sound rb.frzOK hra ?_) hcmp
                show pk P (wrO σ'.hs (frzW σ'.hs (opd P E.dt σ T y).rws)) c'=_
                rw[←hpk]
                refine pk_agr c' fun l2 hl2=>?_
                have hsub:∀l2∈c'.rws,l2∈(opd P E.dt σ T y).rws:=setAt_rws hs (by intro l3 h3;simp[AV.rws] at h3)
                rw[frzW_agr hagr]
                exact wrO_agr hagr l2 (hsub l2 hl2)
          have hfin:St.mk (putD σ'.ts none none) (wrO σ'.hs (frzW σ.hs (opd P E.dt σ T y).rws++[(l,.row T5 (es.set i e'))])) σ'.k0=(St.mk σ'.ts (wrO σ'.hs (frzW σ'.hs (opd P E.dt σ T y).rws)) σ'.k0).lay l (.row T5 (es.set i e')):=by
           rw[wrO_app,frzW_agr hagr]
           rfl
          have:=key.pre (Imp.frzW (σ:=σ') (opd P E.dt σ T y).rws)
          rw[←hfin] at this
          exact this
         ·cases h
        ·cases h
   ·cases h
  ·rename_i T5 vs hl
   split at h
   ·    rename_i Te hTe
        have hh_:=Option.bind_eq_some_iff.1 h
        clear h
        obtain⟨e0,he0,h⟩:=hh_
        split at h
        ·rename_i q c' hs
         have hh_:=bif_some h
         clear h
         obtain⟨hc,h⟩:=hh_
         have e:=beq_eq (and_l hc)
         subst e
         have e2:=beq_eq (and_r hc)
         subst e2
         obtain⟨hd,hk⟩:=outN_some h
         refine⟨_,hk,fun σ' ha=>?_⟩
         have:=op_store_eptrA (n:=n) ho hd h0 (ev_is ha hx e1) (ev_at ha hy) q1 q2 q5 (by rw[ha.hs l (by simp)];exact hl) (slE_some hTe) he0 (setAt_sound hs)
         rw[hd]
         exact this
        ·cases h
   ·cases h
  ·cases h
 ·cases h
where setAt_rws {T':TypeId} {v:AV}:∀{path:List Nat} {S:TypeId} {c:AV} {q:Nat} {c':AV},setAt P T' v S c path=some (q,c')→(∀l∈c.rws,l∈v.rws)→∀l∈c'.rws,l∈v.rws
 | [],S,c,q,c',h,_=>by
   have h':(bif Nat.beq S T' then some (0,v) else none)=some (q,c'):=by simpa [setAt] using h
   obtain⟨_,h2⟩:=bif_some h'
   cases h2
   exact fun l hl=>hl
 | i  ::p,S,c,    q,c',h,hc=>by
   unfold setAt at h
   split at h
   ·  rename_i fs hfs
      split at h
      ·rename_i f hf
       split at h
       ·rename_i vs hvs
        split at h
        · rename_i old hold
          obtain⟨h1,h2⟩:=bif_some h
          split at h2
          ·rename_i q' new hg
           cases h2
           have hvsr:∀l∈AV.rwsL vs,l∈v.rws:=by
                split at hvs
                · obtain⟨e1,e2⟩:=bif_some hvs
                  cases e2
                  exact hc
                · obtain⟨e1,e2⟩:=bif_some hvs
                  cases e2
                  intro l hl
                  exfalso
                  have:∀(fs:List Field) (j:Nat) (d:Dt),AV.rwsL (explL P fs j d)=[]:=by
                   intro fs
                   induction fs with
                   |nil=>intro j d;rfl
                   |cons f r ih=>intro j d;simp[explL,AV.rwsL,AV.rws,ih]
                  rw[show expl P fs _=explL P fs.toList 0 _ from rfl,this] at hl
                  simp at hl
                ·cases hvs
           have hnew:=setAt_rws hg fun l hl=>hvsr l (rwsL_mem (List.mem_of_getElem? hold) hl)
           intro l hl
           have hset:∀(us:List AV) (j:Nat),(∀l∈AV.rwsL us,l∈v.rws)→∀l∈AV.rwsL (us.set j new),l∈v.rws:=by
                intro us
                induction us with
                |nil=>intro j hu l hl;simp[AV.rwsL] at hl
                | cons u r ih=>
                  intro j hu l hl
                  cases j with
                  |zero=>
                   simp only[List.set_cons_zero,AV.rwsL,List.mem_append] at hl
                   rcases hl with hl|hl
                   ·exact hnew l hl
                   ·exact hu l (by simp[AV.rwsL,hl])
                  |succ j=>
                   simp only[List.set_cons_succ,AV.rwsL,List.mem_append] at hl
                   rcases hl with hl|hl
                   ·exact hu l (by simp[AV.rwsL,hl])
                   ·exact ih j (fun l hl=>hu l (by simp[AV.rwsL,hl])) l hl
           exact hset vs i hvsr l hl
          ·cases h2
        ·cases h
       ·cases h
      ·cases h
   ·cases h
end
end Go.Am
