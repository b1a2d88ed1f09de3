/- The abstract machine, part 12: what the helpers compute is so.
The abstract machine,part 13:each operation of the machine is so in the model. -/
import Derived.Test.YtameompfdamfpaaGreatDoorAm11
set_option linter.unusedVariables false
set_option linter.unusedSimpArgs false
namespace Go.Am
open Go.RowKit
theorem bif_some {A:Type} {b:Bool} {x:Option A} {r:A} (h:(bif b then x else none)=some r):b=true∧x=some r:=by
 cases b with
 |true=>exact⟨rfl,h⟩
 |false=>cases h
theorem and_l {a b:Bool} (h:(a&&b)=true):a=true:=by cases a<;>simp_all
theorem and_r {a b:Bool} (h:(a&&b)=true):b=true:=by cases a<;>simp_all
theorem beq_eq {a b:Nat} (h:Nat.beq a b=true):a=b:=Nat.eq_of_beq_eq_true h
theorem nbeq {a b:Nat} (h:(!Nat.beq a b)=true):a≠b:=fun e=>by subst e;simp at h
section
variable {P:Program} {n:Nat} {o:Oper} {σ τ:St} {x y:Operand} {v:AV} {T:TypeId} {R:Type} {E:Env}
theorem avF_get {av:TypeId→List Value→Option AV} {cs:List Value}:∀{fs:List Field} {vs:List AV},avF av P cs fs=some vs→vs.length=fs.length∧∀(i:Nat) (f:Field) (v:AV),fs[i]? =some f→vs[i]? =some v→v= .dead∨av f.type ((cs.drop f.offset).take (P.cellsOf f.type))=some v
 | [],vs,h=>by simp only[avF,Option.some.injEq] at h;subst h;exact⟨rfl,fun i f v hf=>by simp at hf⟩
 |f::fs,vs,h=>by
  unfold avF at h
  split at h
  ·rename_i us hus
   cases h
   obtain⟨h1,h2⟩:=avF_get hus
   refine⟨by simp[h1],fun i g u hg hu=>?_⟩
   cases i with
   |    zero=>
        simp only[List.getElem?_cons_zero,Option.some.injEq] at hg hu
        subst hg
        split at hu
        ·rename_i v hv;subst hu;exact .inr hv
        ·subst hu;exact .inl rfl
   |succ i=>simp only[List.getElem?_cons_succ] at hg hu;exact h2 i g u hg hu
  ·cases h
theorem avC_sound:∀{k:Nat} {T:TypeId} {cs:List Value} {v:AV},avC P k T cs=some v→(∀(ok:Nat→Prop) (w:World) (β:Nat→Option Value),RA P ok w β v cs)∧v.isAgg P=aggT P T∧v≠ .dead∧(∀us,v≠ .tup us)∧(aggT P T=false→cs.length=1)
 |0,_,_,_,h=>by simp[avC] at h
 |k+    1,T,cs,v,h=>by
  unfold avC at h
  split at h
  ·rename_i q hu
   split at h
   ·    rename_i q' m
        obtain⟨h1,h2⟩:=bif_some h
        cases h2
        have e:q=q':=by simpa using and_l h1
        subst e
        have h3:q.min≤m:=by simpa using and_l (and_r h1)
        have h4:m≤q.max:=by simpa using and_r (and_r h1)
        exact⟨fun _ _ _=> .dat (.int hu h3 h4),rfl,by simp,by simp,fun _=>rfl⟩
   ·cases h
  ·rename_i hu
   split at h
   ·cases h;exact⟨fun _ _ _=> .dat (.bool hu),rfl,by simp,by simp,fun _=>rfl⟩
   ·cases h
  ·rename_i hu
   split at h
   ·    obtain⟨h1,h2⟩:=bif_some h
        cases h2
        exact⟨fun _ _ _=> .dat (.str hu (Nat.le_of_ble_eq_true h1)),rfl,by simp,by simp,fun _=>rfl⟩
   ·cases h
  ·rename_i e hu
   split at h
   ·cases h;exact⟨fun _ _ _=> .nils,by simp[AV.isAgg,aggT,hu],by simp,by simp,fun _=>rfl⟩
   ·cases h
  ·rename_i fs hu
   obtain⟨h1,h2⟩:=bif_some h
   split at h2
   ·    rename_i vs hvs
        cases h2
        obtain⟨q1,q2⟩:=avF_get hvs
        refine⟨fun ok w β=> .agg hu (by rw[q1];simp) (beq_eq (and_l h1)) (fun c hc=>List.all_eq_true.1 (and_r h1) c hc) fun i f u hf hu2=>by
         rcases q2 i f u (by simpa using hf) hu2 with rfl|h3
         ·exact .dead fun c hc=>List.all_eq_true.1 (and_r h1) c (List.mem_of_mem_drop (List.mem_of_mem_take hc))
         ·exact(avC_sound h3).1 ok w β,rfl,by simp,by simp,fun hf=>by simp[aggT,hu] at hf⟩
   ·cases h2
  ·rename_i ms hu
   split at h
   ·cases h;exact⟨fun _ _ _=> .nif,by simp[AV.isAgg,aggT,hu],by simp,by simp,fun _=>rfl⟩
   ·cases h
  ·cases h
theorem RV.const {ok:Nat→Prop} {w:World} {β:Nat→Option Value} {z:Value} {k:Nat} (h:avC P k T z.cells.toList=some v) (hz:isAggV z=aggT P T):RV P ok w β v z:=by
 obtain⟨h1,h2,h3,h4,_⟩:=avC_sound h
 refine RV.of1 h3 h4 ⟨fun hi=>?_,fun hi=>?_⟩
 ·rw[h2,←hz] at hi
  cases z<;>simp[isAggV] at hi
  exact⟨_,by simp[Value.cells],h1 _ _ _⟩
 ·rw[h2,←hz] at hi
  have:=h1 ok w β
  cases z<;>simp[isAggV] at hi<;>simpa [Value.cells] using this
theorem cst_rv {ok:Nat→Prop} {w:World} {β:Nat→Option Value} {z:Value}:∀{Ts:List TypeId},RV P ok w β (cst P z Ts) z
 | []=>trivial
 |T::r=>by
  unfold cst
  split
  ·rename_i a ha
   cases hb:isAggV z==aggT P T with
   |true=>exact RV.const ha (by simpa using hb)
   |false=>exact trivial
  ·exact cst_rv
theorem opd_ev {D:List TypeId}:Ev P σ x (opd P D σ T x):=by
 cases x with
 |tmp t=>exact Ev.tmp rfl
 |const v=>exact fun _ _ _ _ _ _ _=>cst_rv
 |func f=>exact Ev.fn
 |global g=>exact fun _ _ _ _ _ _ _=>trivial
def Agrs (σ σ':St) (xs:List Operand):Prop:=∀t∈tmpsOf xs,tk σ'.ts t=tk σ.ts t
theorem mem_tmps {t:Nat}:∀{xs:List Operand},.tmp t∈xs→t∈tmpsOf xs
 | [],h=>by simp at h
 |y::r,h=>by
  rcases List.mem_cons.1 h with e|h1
  ·subst e;simp[tmpsOf]
  ·have:=mem_tmps h1
   cases y<;>simp[tmpsOf,this]
theorem opd_agr {σ':St} {D:List TypeId} {xs:List Operand} (h:Agrs σ σ' xs) (hx:x∈xs):opd P D σ' T x=opd P D σ T x:=by
 cases x with
 |tmp t=>exact h t (mem_tmps hx)
 |const v=>rfl
 |func f=>rfl
 |global g=>rfl
theorem opds_agr {σ':St} {D:List TypeId} {xs:List Operand} (h:Agrs σ σ' xs):∀{Ts:List TypeId} {ys:List Operand},(∀y∈ys,y∈xs)→opds P D σ' Ts ys=opds P D σ Ts ys
 | [],_,_=>by simp[opds]
 |_::_,[],_=>by simp[opds]
 |T::Ts,y::ys,hy=>by simp only[opds];rw[opd_agr h (hy y (by simp)),opds_agr h fun z hz=>hy z (by simp[hz])]
theorem opds_ev {D:List TypeId}:∀{Ts:List TypeId} {xs:List Operand},xs.length=Ts.length→EvXs P σ xs (opds P D σ Ts xs)
 | [],[],_=> .nil
 |T::Ts,x::xs,h=> .cons opd_ev (opds_ev (by simpa using h))
 | [],_::_,h=>by simp at h
 |_::_,[],h=>by simp at h
theorem bval_some {b:Bool} (h:bval P v=some b):∃T d,v= .dat T d∧P.underlying T=some .bool∧b=d.toBool:=by
 unfold bval at h
 split at h
 ·split at h
  ·rename_i hu;cases h;exact⟨_,_,rfl,hu,rfl⟩
  ·cases h
 ·cases h
theorem ival_some {Tx:TypeId} {q:IntKind} {i:Int} (h:ival P v=some (Tx,q,i)):∃d,v= .dat Tx d∧P.underlying Tx=some (.int q)∧i=d.toInt:=by
 unfold ival at h
 split at h
 ·split at h
  ·rename_i hu;cases h;exact⟨_,rfl,hu,rfl⟩
  ·cases h
 ·cases h
theorem sval_some {Tx:TypeId} {s:ByteArray} (h:sval P v=some (Tx,s)):∃d,v= .dat Tx d∧P.underlying Tx=some .string∧s=d.toStr:=by
 unfold sval at h
 split at h
 ·split at h
  ·rename_i hu;cases h;exact⟨_,rfl,hu,rfl⟩
  ·cases h
 ·cases h
theorem lval_some {hs:List Ob} {Tx Te:TypeId} {es:List Dt} (h:lval P hs v=some (Tx,Te,es)):∃d,pk P hs v=some (Tx,d)∧P.underlying Tx=some (.slice Te)∧es=d.toLst:=by
 unfold lval at h
 split at h
 ·rename_i T' d hp
  split at h
  ·rename_i hu;cases h;exact⟨_,hp,hu,rfl⟩
  ·cases h
 ·cases h
theorem slE_some {Te:TypeId} (h:slE P T=some Te):P.underlying T=some (.slice Te):=by
 unfold slE at h
 split at h
 ·rename_i hu;cases h;exact hu
 ·cases h
theorem stF_some {fs:Array Field} (h:stF P T=some fs):P.underlying T=some (.struct fs):=by
 unfold stF at h
 split at h
 ·rename_i hu;cases h;exact hu
 ·cases h
theorem isB_some (h:isB P T=true):P.underlying T=some .bool:=by
 unfold isB at h
 split at h
 ·assumption
 ·cases h
theorem isI_some {k:IntKind} (h:isI P T k=true):P.underlying T=some (.int k):=by
 unfold isI at h
 split at h
 ·rename_i k' hu;have e:k'=k:=by simpa using h
  subst e;exact hu
 ·cases h
theorem isS_some (h:isS P T=true):P.underlying T=some .string:=by
 unfold isS at h
 split at h
 ·assumption
 ·cases h
theorem bT_some:∀{Ts:List TypeId} {TB:TypeId},bT P Ts=some TB→P.underlying TB=some .bool
 | [],_,h=>by simp[bT] at h
 |T::r,TB,h=>by
  unfold bT at h
  cases hb:isB P T with
  |true=>rw[hb] at h;cases h;exact isB_some hb
  |false=>rw[hb] at h;exact bT_some h
theorem elemOK_some {Te:TypeId} (h:elemOK P T Te=true):P.underlying T=some (.slice Te)∧P.cellsOf Te≠0:=by
 unfold elemOK at h
 refine⟨?_,nbeq (and_r h)⟩
 have h1:=and_l h
 split at h1
 ·rename_i Te' he
  have:=beq_eq h1
  subst this
  exact slE_some he
 ·cases h1
theorem szB_some (h:szB P T v=true):v≠ .dead∧(∀us,v≠ .tup us)∧(∃D,P.underlying T=some D)∧(v.isAgg P=false→P.cellsOf T=1)∧
  ∀(ok:Nat→Prop) (w:World) (β:Nat→Option Value) (cs:List Value),RA P ok w β v cs→(v.isAgg P=false→cs.length=1)→cs.length=P.cellsOf T:=by
 have h0:=and_l h
 have h1:=and_r h
 have hu:∃D,P.underlying T=some D:=Option.isSome_iff_exists.1 h0
 unfold szA at h1
 split at h1
 ·rename_i T' d
  split at h1
  ·rename_i fs hfs
   have e:=beq_eq h1
   refine⟨by simp,by simp,hu,fun hi=>by simp[AV.isAgg,aggT,hfs] at hi,fun ok w β cs hr _=>?_⟩
   cases hr with
   |dat hr=>rw[←e];exact(hr.agg_inv hfs).2.1
  ·rename_i m1 m2 hfs
   have e:=beq_eq h1
   refine⟨by simp,by simp,hu,fun hi=>by simp[AV.isAgg,aggT,hfs] at hi,fun ok w β cs hr _=>?_⟩
   cases hr with
   |dat hr=>rw[←e];exact(hr.arr_inv hfs).2.2.1
  ·exact⟨by simp,by simp,hu,fun _=>beq_eq h1,fun ok w β cs hr hl=>by
        rw[beq_eq h1]
        rename_i D hn1 hn2 hD
        refine hl ?_
        simp only[AV.isAgg,aggT,hD]
        cases D<;>simp_all⟩
  ·cases h1
 ·rename_i T' vs
  split at h1
  ·rename_i fs hfs
   have e:=beq_eq h1
   refine⟨by simp,by simp,hu,fun hi=>by simp[AV.isAgg,aggT,hfs] at hi,fun ok w β cs hr _=>?_⟩
   cases hr with
   |agg _ _ hc _ _=>rw[←e];exact hc
  ·cases h1
 ·cases h1
 ·cases h1
 ·rename_i h3 h4 h5 h6
  have hag:v.isAgg P=false:=by
   cases v<;>first|rfl|(exact absurd rfl (h3 _ _))|(exact absurd rfl (h4 _ _))
  exact⟨fun e=>h5 e,fun us e=>h6 us e,hu,fun _=>beq_eq h1,fun ok w β cs hr hl=>by rw[beq_eq h1];exact hl hag⟩
theorem getAt_sound:∀{path:List Nat} {S:TypeId} {c:AV} {T:TypeId} {q:Nat} {v:AV},getAt P S c path=some (T,q,v)→GetAt P S c path q T v
 | [],S,c,T,q,v,h=>by
   have h':some (S,0,c)=some (T,q,v):=by simpa [getAt] using h
   cases h'
   exact .nil
 | i::p,  S,c,T,q,v,h=>by
   unfold getAt at h
   split at h
   ·rename_i he;cases he
   ·rename_i S0 S' vs i' p' he
    cases he
    split at h
    ·   rename_i fs hfs
        split at h
        ·rename_i f hf
         split at h
         ·rename_i u hu
          obtain⟨h1,h2⟩:=bif_some h
          split at h2
          ·rename_i T' q' r hg
           cases h2
           have e:=beq_eq (and_l h1)
           subst e
           exact .agg (stF_some hfs) hf hu (Nat.le_of_ble_eq_true (and_r h1)) (getAt_sound hg)
          ·cases h2
         ·cases h
        ·cases h
    ·cases h
   ·rename_i S0 S' d i' p' he
    cases he
    split at h
    ·   rename_i fs hfs
        split at h
        ·rename_i f hf
         obtain⟨h1,h2⟩:=bif_some h
         split at h2
         ·rename_i T' q' r hg
          cases h2
          have e:=beq_eq (and_l h1)
          subst e
          exact .dat (stF_some hfs) hf (Nat.le_of_ble_eq_true (and_r h1)) (getAt_sound hg)
         ·cases h2
        ·cases h
    ·cases h
   ·cases h
theorem setAt_sound {T':TypeId}:∀{path:List Nat} {S:TypeId} {c:AV} {q:Nat} {c':AV},setAt P T' v S c path=some (q,c')→SetAt P v T' S c path q c'
 | [],S,c,q,c',h=>by
   have h':(bif Nat.beq S T' then some (0,v) else none)=some (q,c'):=by simpa [setAt] using h
   obtain⟨h1,h2⟩:=bif_some h'
   cases h2
   have:=beq_eq h1
   subst this
   exact .nil
 | i::p,  S,c,q,c',h=>by
   unfold setAt at h
   split at h
   ·rename_i fs hfs
    split at h
    ·   rename_i f hf
        split at h
        ·rename_i vs hvs
         split at h
         ·rename_i old hold
          obtain⟨h1,h2⟩:=bif_some h
          split at h2
          ·rename_i q' new hg
           cases h2
           have key:=SetAt.agg (v:=v) (T':=T') (stF_some hfs) h1 hf hold (setAt_sound hg)
           split at hvs
           ·obtain⟨e1,e2⟩:=bif_some hvs
            cases e2
            have:=beq_eq e1
            subst this
            exact key
           ·obtain⟨e1,e2⟩:=bif_some hvs
            cases e2
            have:=beq_eq e1
            subst this
            exact .dat (stF_some hfs) key
           ·cases hvs
          ·cases h2
         ·cases h
        ·cases h
    ·cases h
   ·cases h
theorem zeroV_sound (h:zeroV P T=some v):ZeroA P T v:=by
 unfold zeroV at h
 split at h
 ·rename_i i hi
  split at h
  ·rename_i z hz
   obtain⟨h1,h2⟩:=bif_some h
   exact⟨i,z,hi,hz,beq_eq h1,(avC_sound h2).1⟩
  ·cases h
 ·cases h
theorem zeroD_sound {d:Dt} (h:zeroD P T=some d):Zero P T d:=by
 unfold zeroD at h
 split at h
 ·rename_i v hv
  split at h
  ·rename_i T' d' hp
   obtain⟨h1,h2⟩:=bif_some h
   cases h2
   have:=beq_eq h1
   subst this
   obtain⟨i,z,q1,q2,q3,q4⟩:=(zeroV_sound hv).ex
   exact⟨i,z,q1,q2,q3,fun ok w=>pk_sound (β:=fun _=>none) (hs:=[]) (fun l T es hl=>by simp[lk] at hl) (q4 ok w _) hp⟩
  ·cases h
 ·cases h
theorem bldL_sound {fs:Array Field}:∀{parts:List (Nat×Operand)} {vs us:List AV},bldL P E σ fs parts vs=some us→BldL P σ fs parts vs us
 | [],vs,us,h=>by
   have h':some vs=some us:=by simpa [bldL] using h
   cases h';exact .nil
 | (i,x)::r,vs,us,h=>by
   unfold bldL at h
   split at h
   ·rename_i f hf
    obtain⟨h1,h2⟩:=bif_some h
    obtain⟨q1,q2,q3,q4,q5⟩:=szB_some h1
    exact .cons hf opd_ev q1 q2 q5 (bldL_sound h2)
   ·cases h
theorem bldL_agr {σ':St} {fs:Array Field} {xs:List Operand} (h:Agrs σ σ' xs):∀{parts:List (Nat×Operand)} {vs:List AV},(∀p∈parts,p.2∈xs)→bldL P E σ' fs parts vs=bldL P E σ fs parts vs
 | [],vs,_=>by simp[bldL]
 |(i,x)::r,vs,hp=>by
  have hx:=hp (i,x) (by simp)
  unfold bldL
  split
  ·rename_i f hf
   rw[opd_agr h hx,bldL_agr h fun p hq=>hp p (by simp[hq])]
  ·rfl
theorem bndE_lo {lo:Option Operand} {i:Int} (h:bndE P E σ 0 lo=some i):EvLo P σ lo i:=by
 cases lo with
 |none=>simp only[bndE,Option.some.injEq] at h;exact h.symm
 |some x=>
  simp only[bndE] at h
  split at h
  ·rename_i Tx q i' hi
   cases h
   obtain⟨d,e1,e2,rfl⟩:=ival_some hi
   refine⟨Tx,q,e2,?_⟩
   have:=opd_ev (P:=P) (σ:=σ) (x:=x) (T:=0) (D:=E.dt)
   rw[e1] at this
   exact this.cint e2
  ·cases h
theorem bndE_hi {hi:Option Operand} {m:Nat} {i:Int} (h:bndE P E σ m hi=some i):EvHi P σ m hi i:=by
 cases hi with
 |none=>simp only[bndE,Option.some.injEq] at h;exact h.symm
 |some x=>
  simp only[bndE] at h
  split at h
  ·rename_i Tx q i' hi
   cases h
   obtain⟨d,e1,e2,rfl⟩:=ival_some hi
   refine⟨Tx,q,e2,?_⟩
   have:=opd_ev (P:=P) (σ:=σ) (x:=x) (T:=0) (D:=E.dt)
   rw[e1] at this
   exact this.cint e2
  ·cases h
theorem bndE_agr {σ':St} {xs:List Operand} {m:Int} {b:Option Operand} (h:Agrs σ σ' xs) (hb:∀x,b=some x→x∈xs):bndE P E σ' m b=bndE P E σ m b:=by
 cases b with
 |none=>rfl
 |some x=>simp only[bndE];rw[opd_agr h (hb x rfl)]
theorem pk_agr {hs hs':List Ob} (v:AV):(∀l∈v.rws,lk hs' l=lk hs l)→pk P hs' v=pk P hs v:=by
 refine AV.rec (motive_1:=fun v=>(∀l∈v.rws,lk hs' l=lk hs l)→pk P hs' v=pk P hs v) (motive_2:=fun vs=>(∀l∈AV.rwsL vs,lk hs' l=lk hs l)→∀fs,pkL P hs' fs vs=pkL P hs fs vs) ?_ ?_ ?_ ?_ ?_ ?_ ?_ ?_ ?_ ?_ ?_ ?_ ?_ ?_ v
 ·intro T d _;rfl
 ·intro T vs ih h
  simp only[pk]
  split
  ·rename_i fs _
   rw[ih (by simpa [AV.rws] using h) fs.toList]
  ·rfl
 ·intro l h;simp only[pk];rw[h l (by simp[AV.rws])]
 ·intro l p o _;rfl
 ·intro l i z p o _;rfl
 ·intro T d _;rfl
 ·intro f c _ _;rfl
 ·intro vs _ _;rfl
 ·intro T _;rfl
 ·intro b _;rfl
 ·intro T v _ _;rfl
 ·intro _;rfl
 ·intro _ fs;cases fs<;>rfl
 ·intro v vs h1 h2 h fs
  cases fs with
  |nil=>rfl
  |cons f fs=>
   simp only[pkL]
   rw[h1 fun l hl=>h l (by simp[AV.rwsL,hl]),h2 (fun l hl=>h l (by simp[AV.rwsL,hl])) fs]
theorem rwsL_mem {l:Nat} {v:AV}:∀{vs:List AV},v∈vs→l∈v.rws→l∈AV.rwsL vs
 | [],h,_=>by simp at h
 |u::r,h,hl=>by
  rcases List.mem_cons.1 h with e|h
  ·subst e;simp[AV.rwsL,hl]
  ·simp[AV.rwsL,rwsL_mem h hl]
theorem pk_nil {hs:List Ob} {T:TypeId} {d:Dt} (v:AV) (h:pk P [] v=some (T,d)):pk P hs v=some (T,d):=by
 have key:∀v:AV,∀T d,pk P [] v=some (T,d)→pk P hs v=some (T,d):=by
  intro v
  refine AV.rec (motive_1:=fun v=>∀T d,pk P [] v=some (T,d)→pk P hs v=some (T,d)) (motive_2:=fun vs=>∀fs ds,pkL P [] fs vs=some ds→pkL P hs fs vs=some ds) ?_ ?_ ?_ ?_ ?_ ?_ ?_ ?_ ?_ ?_ ?_ ?_ ?_ ?_ v
  ·intro T d T' d' h;exact h
  ·intro T vs ih T' d' h
   simp only[pk] at h ⊢
   split at h
   ·    rename_i fs hfs
        split at h
        ·rename_i ds hds
         rw[ih _ _ hds];exact h
        ·cases h
   ·cases h
  ·intro l T d h;simp[pk,lk] at h
  ·intro l p o T d h;simp[pk] at h
  ·intro l i z p o T d h;simp[pk] at h
  ·intro T d T' d' h;simp[pk] at h
  ·intro f c _ T' d' h;simp[pk] at h
  ·intro vs _ T' d' h;simp[pk] at h
  ·intro T T' d' h;exact h
  ·intro b T' d' h;simp[pk] at h
  ·intro T v _ T' d' h;simp[pk] at h
  ·intro T' d' h;simp[pk] at h
  ·intro fs ds h
   cases fs with
   |nil=>exact h
   |cons f fs=>simp[pkL] at h
  ·intro  v vs h1 h2 fs ds h
   cases fs with
   |nil=>simp[pkL] at h
   |    cons f fs=>
        unfold pkL at h ⊢
        split at h
        ·rename_i T d hv
         rw[h1 _ _ hv]
         simp only
         cases hc:compat P T f.type with
         |false=>rw[hc] at h;cases h
         |true=>
          rw[hc] at h
          simp only[cond_true] at h ⊢
          split at h
          · rename_i us hus
            rw[h2 _ _ hus];exact h
          ·cases h
        ·cases h
 exact key v T d h
theorem wr_frz:∀(ls:List Nat) (hs:List Ob),wrO hs (frzW hs ls)=frzN hs ls
 | [],hs=>rfl
 |l::r,hs=>by
  unfold frzW frzN frz1
  cases hl:lk hs l with
  |row T es=>simp only[wrO];exact wr_frz r _
  |box T c=>exact wr_frz r hs
  |rowA T vs=>exact wr_frz r hs
  |frz T es=>exact wr_frz r hs
  |map T es=>exact wr_frz r hs
  |gone=>exact wr_frz r hs
  |free=>exact wr_frz r hs
theorem frzW_agr:∀{ls:List Nat} {hs hs':List Ob},(∀l∈ls,lk hs' l=lk hs l)→frzW hs' ls=frzW hs ls
 | [],hs,hs',_=>rfl
 |l::r,hs,hs',h=>by
  unfold frzW
  rw[h l (by simp)]
  split
  ·rename_i T es hl
   congr 1
   refine frzW_agr fun k hk=>?_
   rw[lk_set,lk_set]
   split
   ·rfl
   ·exact h k (by simp[hk])
  ·exact frzW_agr fun k hk=>h k (by simp[hk])
theorem wrO_agr {ls:List Nat}:∀{ws:List (Nat×Ob)} {hs hs':List Ob},(∀l∈ls,lk hs' l=lk hs l)→∀l∈ls,lk (wrO hs' ws) l=lk (wrO hs ws) l
 | [],hs,hs',h,l,hl=>h l hl
 |(k,ob)::r,hs,hs',h,l,hl=>by
  refine wrO_agr (ls:=ls) (ws:=r) (hs:=setO hs k ob) (hs':=setO hs' k ob) (fun l hl=>?_) l hl
  rw[lk_set,lk_set]
  split
  ·rfl
  ·exact h l hl
theorem wrO_app:∀(a b:List (Nat×Ob)) (hs:List Ob),wrO hs (a++b)=wrO (wrO hs a) b
 | [],b,hs=>rfl
 |(l,ob)::r,b,hs=>wrO_app r b _
theorem Imp.frzW (ls:List Nat):Imp P n σ ⟨σ.ts,wrO σ.hs (frzW σ.hs ls),σ.k0⟩:=by rw[wr_frz];exact Imp.frzN ls σ
theorem frzW_free:∀{ls:List Nat} {hs:List Ob} {l:Nat},lk hs l= .free→lk (wrO hs (Am.frzW hs ls)) l= .free
 | [],hs,l,h=>h
 |k::r,hs,l,h=>by
  unfold Am.frzW
  split
  ·rename_i T es hl
   simp only[wrO]
   refine frzW_free ?_
   rw[lk_set]
   split
   ·rename_i e;subst e;rw[h] at hl;cases hl
   ·exact h
  ·exact frzW_free h
theorem frzW_other:∀{ls:List Nat} {hs:List Ob} {l:Nat},l∉ls→lk (wrO hs (Am.frzW hs ls)) l=lk hs l
 | [],hs,l,h=>rfl
 |k::r,hs,l,h=>by
  simp only[List.mem_cons,not_or] at h
  unfold Am.frzW
  split
  ·rename_i T es hl
   simp only[wrO]
   rw[frzW_other h.2,lk_other _ _ _ _ h.1]
  ·exact frzW_other h.2
theorem app_k0 (σ:St) (d:Option Nat) (δ:Dl):(σ.app d δ).k0=σ.k0:=rfl
end
end Go.Am
namespace Go.Am
open Go.RowKit
structure Agr (o:Oper) (σ σ':St) (rd:List Nat):Prop where
 ts:Agrs σ σ' o.op.operands.toList
 hs:∀l∈rd,lk σ'.hs l=lk σ.hs l
 k0:σ'.k0=σ.k0
def OpS {R:Type} (P:Program) (n:Nat) (o:Oper) (σ:St) (k:Dl→Option R) (r:R):Prop:=
 ∃δ,k δ=some r∧∀σ',Agr o σ σ' δ.rd→OpOK P n o σ' (σ'.app o.dst δ)
section
variable {P:Program} {n:Nat} {o:Oper} {σ τ:St} {x y:Operand} {v:AV} {T:TypeId} {R:Type} {E:Env} {k:Dl→Option R} {r:R}
theorem out_some {rd:List Nat} {wr:List (Nat×Ob)} (h:out n o v rd wr k=some r):∃d,o.dst=some d∧d<n∧k ⟨some v,rd,wr⟩=some r:=by
 unfold out at h
 split at h
 ·rename_i d hd
  obtain⟨h1,h2⟩:=bif_some h
  exact⟨d,hd,Nat.le_of_ble_eq_true h1,h2⟩
 ·cases h
theorem outN_some {rd:List Nat} {wr:List (Nat×Ob)} (h:outN o rd wr k=some r):o.dst=none∧k ⟨none,rd,wr⟩=some r:=by
 unfold outN at h
 split at h
 ·cases h
 ·rename_i hd;exact⟨hd,h⟩
theorem new_some {f:Nat→Option R} (h:new σ f=some r):σ.k0≤σ.hs.length∧f σ.hs.length=some r:=by
 unfold new at h
 obtain⟨h1,h2⟩:=bif_some h
 exact⟨Nat.le_of_ble_eq_true h1,h2⟩
theorem val_s {rd:List Nat} (h:out n o v rd [] k=some r) (hv:∀σ',Agr o σ σ' rd→∀d,o.dst=some d→d<n→OpOK P n o σ' (σ'.put d v)):OpS P n o σ k r:=by
 obtain⟨d,hd,hn,hk⟩:=out_some h
 refine⟨_,hk,fun σ' ha=>?_⟩
 have:=hv σ' ha d hd hn
 rw[hd]
 exact this
theorem wr1_s {rd:List Nat} {l:Nat} {ob:Ob} (h:out n o v rd [(l,ob)] k=some r) (hv:∀σ',Agr o σ σ' rd→∀d,o.dst=some d→d<n→OpOK P n o σ' ((σ'.lay l ob).put d v)):OpS P n o σ k r:=by
 obtain⟨d,hd,hn,hk⟩:=out_some h
 refine⟨_,hk,fun σ' ha=>?_⟩
 have:=hv σ' ha d hd hn
 rw[hd]
 exact this
theorem ev_at {σ':St} {rd:List Nat} (ha:Agr o σ σ' rd) (hx:x∈o.op.operands.toList):Ev P σ' x (opd P E.dt σ T x):=by
 rw[←opd_agr ha.ts hx]
 exact opd_ev
theorem ev_is {σ':St} {rd:List Nat} {u:AV} (ha:Agr o σ σ' rd) (hx:x∈o.op.operands.toList) (hv:opd P E.dt σ T x=u):Ev P σ' x u:=by
 rw[←hv]
 exact ev_at ha hx
theorem s_move (ho:o.op= .move x) (h:out n o (opd P E.dt σ o.type x) [] [] k=some r):OpS P n o σ k r:=
 val_s h fun σ' ha d hd hn=>op_move ho hd hn (ev_at ha (by rw[ho];simp[Op.operands]))
theorem s_assign (ho:o.op= .assign x) (h:out n o (opd P E.dt σ o.type x) [] [] k=some r):OpS P n o σ k r:=
 val_s h fun σ' ha d hd hn=>op_assign ho hd hn (ev_at ha (by rw[ho];simp[Op.operands]))
theorem s_pick {c:Operand} (ho:o.op= .pick c x y) (h:evPick P E n o σ c x y k=some r):OpS P n o σ k r:=by
 unfold evPick at h
 split at h
 ·rename_i b hb
  obtain⟨TB,d0,e1,e2,rfl⟩:=bval_some hb
  cases hd0:d0.toBool with
  |true=>
   rw[hd0] at h
   exact val_s h fun σ' ha d hd hn=>by
        have hc:=(ev_is (x:=c) ha (by rw[ho];simp[Op.operands]) e1).cbool e2
        rw[hd0] at hc
        exact op_pick_true ho hd hn e2 hc (ev_at ha (by rw[ho];simp[Op.operands]))
  |false=>
   rw[hd0] at h
   exact val_s h fun σ' ha d hd hn=>by
        have hc:=(ev_is (x:=c) ha (by rw[ho];simp[Op.operands]) e1).cbool e2
        rw[hd0] at hc
        exact op_pick_false ho hd hn e2 hc (ev_at ha (by rw[ho];simp[Op.operands]))
 ·cases h
theorem free_end (σ:St):lk σ.hs σ.hs.length= .free:=lk_end _ _ (Nat.le_refl _)
theorem s_alloc (ho:o.op= .alloc T) (h:evAlloc P n o σ T k=some r):OpS P n o σ k r:=by
 unfold evAlloc at h
 split at h
 ·rename_i v hv
  have hh_:=new_some h
  clear h
  obtain⟨hk0,h⟩:=hh_
  exact wr1_s h fun σ' ha d hd hn=>op_alloc ho hd hn (by rw[ha.hs _ (by simp)];exact free_end σ) (by rw[ha.k0];exact hk0) (zeroV_sound hv)
 ·cases h
theorem s_box (ho:o.op= .box T x) (h:evBox P E n o σ T x k=some r):OpS P n o σ k r:=by
 unfold evBox at h
 have hh_:=bif_some h
 clear h
 obtain⟨hb,h⟩:=hh_
 have hh_:=new_some h
 clear h
 obtain⟨hk0,h⟩:=hh_
 obtain⟨q1,q2,q3,q4,q5⟩:=szB_some hb
 exact wr1_s h fun σ' ha d hd hn=>op_box ho hd hn (by rw[ha.hs _ (by simp)];exact free_end σ) (by rw[ha.k0];exact hk0) (ev_at ha (by rw[ho];simp[Op.operands])) q1 q2 q5
theorem s_build {parts:Array (Nat×Operand)} (ho:o.op= .build T parts) (h:evBuild P E n o σ T parts.toList k=some r):OpS P n o σ k r:=by
 unfold evBuild at h
 split at h
 ·rename_i fs hfs
  split at h
  ·rename_i T' vs hz
   have hh_:=bif_some h
   clear h
   obtain⟨hc,h⟩:=hh_
   have e:=beq_eq (and_l hc)
   subst e
   split at h
   ·    rename_i us hus
        refine val_s h fun σ' ha d hd hn=>op_build ho hd hn (stF_some hfs) (and_l (and_r hc)) (and_r (and_r hc)) (zeroV_sound hz) ?_
        have:bldL P E σ' fs parts.toList vs=some us:=by
         rw[bldL_agr ha.ts fun p hp=>by rw[ho];simp only[Op.operands];exact List.mem_map.2 ⟨p,hp,rfl⟩]
         exact hus
        exact bldL_sound this
   ·cases h
  ·cases h
 ·cases h
theorem s_load (ho:o.op= .load T x) (h:evLoad P E n o σ T x k=some r):OpS P n o σ k r:=by
 have hx:x∈o.op.operands.toList:=by rw[ho];simp[Op.operands]
 unfold evLoad at h
 split at h
 ·rename_i T' d0 e1
  have hh_:=bif_some h
  clear h
  obtain⟨hc,h⟩:=hh_
  have e:=beq_eq (and_l hc)
  subst e
  obtain⟨q1,q2,⟨D,hD⟩,q4,q5⟩:=szB_some (and_r hc)
  exact val_s h fun σ' ha d hd hn=>(op_load_rptr ho hd hn hD (fun hf=>q4 hf) (ev_is ha hx e1)).can
 ·rename_i l path off e1
  split at h
  ·rename_i S c hl
   split at h
   ·    rename_i T' q v hg
        have hh_:=bif_some h
        clear h
        obtain⟨hc,h⟩:=hh_
        have e:=beq_eq (and_l hc)
        subst e
        have e2:=beq_eq (and_l (and_r hc))
        subst e2
        obtain⟨q1,q2,⟨D,hD⟩,q4,q5⟩:=szB_some (and_l (and_r (and_r hc)))
        have hag:v.isAgg P=aggT P T':=by simpa using and_r (and_r (and_r hc))
        refine val_s h fun σ' ha d hd hn=>?_
        have key:=op_load_ptr ho hd hn hD (fun hf=>q4 (by rw[hag];exact hf)) (ev_is ha hx e1) (by rw[ha.hs l (by simp)];exact hl) (getAt_sound hg) hag q2
        cases v<;>first|exact key|exact key.can
   ·cases h
  ·cases h
 ·rename_i l i sz path off e1
  split at h
  ·rename_i T5 es hl
   split at h
   ·    rename_i Te hTe
        have hh_:=Option.bind_eq_some_iff.1 h
        clear h
        obtain⟨e0,he0,h⟩:=hh_
        split at h
        ·rename_i T' q v hg
         have hh_:=bif_some h
         clear h
         obtain⟨hc,h⟩:=hh_
         have e:=beq_eq (and_l hc)
         subst e
         have e2:=beq_eq (and_l (and_r hc))
         subst e2
         have e3:=beq_eq (and_l (and_r (and_r hc)))
         subst e3
         obtain⟨q1,q2,⟨D,hD⟩,q4,q5⟩:=szB_some (and_l (and_r (and_r (and_r hc))))
         have hag:v.isAgg P=aggT P T':=by simpa using and_r (and_r (and_r (and_r hc)))
         refine val_s h fun σ' ha d hd hn=>?_
         have key:=op_load_eptr ho hd hn hD (fun hf=>q4 (by rw[hag];exact hf)) (ev_is ha hx e1) (by rw[ha.hs l (by simp)];exact hl) (slE_some hTe) he0 (getAt_sound hg) hag q2
         cases v<;>first|exact key|exact key.can
        ·cases h
   ·cases h
  ·rename_i T5 vs hl
   split at h
   ·    rename_i Te hTe
        have hh_:=Option.bind_eq_some_iff.1 h
        clear h
        obtain⟨e0,he0,h⟩:=hh_
        split at h
        ·rename_i T' q v hg
         have hh_:=bif_some h
         clear h
         obtain⟨hc,h⟩:=hh_
         have e:=beq_eq (and_l hc)
         subst e
         have e2:=beq_eq (and_l (and_r hc))
         subst e2
         have e3:=beq_eq (and_l (and_r (and_r hc)))
         subst e3
         obtain⟨q1,q2,⟨D,hD⟩,q4,q5⟩:=szB_some (and_l (and_r (and_r (and_r hc))))
         have hag:v.isAgg P=aggT P T':=by simpa using and_r (and_r (and_r (and_r hc)))
         refine val_s h fun σ' ha d hd hn=>?_
         have key:=op_load_eptrA ho hd hn hD (fun hf=>q4 (by rw[hag];exact hf)) (ev_is ha hx e1) (by rw[ha.hs l (by simp)];exact hl) (slE_some hTe) he0 (getAt_sound hg) hag q2
         cases v<;>first|exact key|exact key.can
        ·cases h
   ·cases h
  ·cases h
 ·cases h
theorem s_store (ho:o.op= .store T x y) (h:evStore P E o σ T x y k=some r):OpS P n o σ k r:=by
 have hx:x∈o.op.operands.toList:=by rw[ho];simp[Op.operands]
 have hy:y∈o.op.operands.toList:=by rw[ho];simp[Op.operands]
 unfold evStore at h
 have hh_:=bif_some h
 clear h
 obtain⟨hc0,h⟩:=hh_
 obtain⟨q1,q2,q3,q4,q5⟩:=szB_some (and_l hc0)
 have h0:=nbeq (and_r hc0)
 split at h
 ·rename_i l path off e1
  split at h
  ·rename_i S c hl
   split at h
   ·    rename_i q c' hs
        have hh_:=bif_some h
        clear h
        obtain⟨hc,h⟩:=hh_
        have e:=beq_eq hc
        subst e
        obtain⟨hd,hk⟩:=outN_some h
        refine⟨_,hk,fun σ' ha=>?_⟩
        have:=op_store_ptr (n:=n) ho hd h0 (ev_is ha hx e1) (ev_at ha hy) q1 q2 q5 (by rw[ha.hs l (by simp)];exact hl) (setAt_sound hs)
        rw[hd]
        exact this
   ·cases h
  ·cases h
 ·rename_i l i sz path off e1
  split at h
  ·rename_i T5   es hl
   split at h
   ·    rename_i Te hTe
        have hh_:=Option.bind_eq_some_iff.1 h
        clear h
        obtain⟨e0,he0,h⟩:=hh_
        split at h
        ·rename_i q c' hs
         split at h
         ·rename_i Te' e' hpk
          have hh_:=bif_some h
          clear h
          obtain⟨hc,h⟩:=hh_
          have e:=beq_eq (and_l hc)
          subst e
          have e2:=beq_eq (and_l (and_r hc))
          subst e2
          have hcmp:=and_l (and_r (and_r hc))
          have hnm:l∉(opd P E.dt σ T y).rws:=memB_not (by simpa using and_r (and_r (and_r hc)))
          obtain⟨hd,hk⟩:=outN_some h
          refine⟨_,hk,fun σ' ha=>?_⟩
          have hagr:∀l∈(opd P E.dt σ T y).rws,lk σ'.hs l=lk σ.hs l:=fun l hl=>ha.hs l (by simp[hl])
          rw[hd]
          have key:OpOK P n o ⟨σ'.ts,wrO σ'.hs (frzW σ'.hs (opd P E.dt σ T y).rws),σ'.k0⟩ ((St.mk σ'.ts (wrO σ'.hs (frzW σ'.hs (opd P E.dt σ T y).rws)) σ'.k0).lay l (.row T5 (es.set i e'))):=by
           have hev:∀{z:Operand} {u:AV},Ev P σ' z u→z∈o.op.operands.toList→(∃T0,u=opd P E.dt σ T0 z)→Ev P (St.mk σ'.ts (wrO σ'.hs (frzW σ'.hs (opd P E.dt σ T y).rws)) σ'.k0) z u:=by
                rintro z u _ hz ⟨T0,rfl⟩
                have e3:opd P E.dt (St.mk σ'.ts (wrO σ'.hs (frzW σ'.hs (opd P E.dt σ T y).rws)) σ'.k0) T0 z=opd P E.dt σ T0 z:=by
                 rw[←opd_agr ha.ts hz]
                 cases z<;>rfl
                rw[←e3]
                exact opd_ev
           refine op_store_eptr (n:=n) ho hd h0 (hev (ev_is ha hx e1) hx ⟨_,e1.symm⟩) (hev (ev_at ha hy) hy ⟨_,rfl⟩) q1 q2 q5 ?_ (slE_some hTe) he0 (setAt_sound hs) ?_
           ·    show lk (wrO σ'.hs _) l=_
                rw[frzW_other hnm,ha.hs l (by simp)]
                exact hl
           ·    intro ok0 w0 a w β rb cs hra
                refine RD.compat (pk_sound rb.frzOK hra ?_) hcmp
                show pk P (wrO σ'.hs (frzW σ'.hs (opd P E.dt σ T y).rws)) c'=_
                rw[←hpk]
                refine pk_agr c' fun l2 hl2=>?_
                have hsub:∀l2∈c'.rws,l2∈(opd P E.dt σ T y).rws:=setAt_rws hs (by intro l3 h3;simp[AV.rws] at h3)
                rw[frzW_agr hagr]
                exact wrO_agr hagr l2 (hsub l2 hl2)
          have hfin:St.mk (putD σ'.ts none none) (wrO σ'.hs (frzW σ.hs (opd P E.dt σ T y).rws++[(l,.row T5 (es.set i e'))])) σ'.k0=(St.mk σ'.ts (wrO σ'.hs (frzW σ'.hs (opd P E.dt σ T y).rws)) σ'.k0).lay l (.row T5 (es.set i e')):=by
           rw[wrO_app,frzW_agr hagr]
           rfl
          have:=key.pre (Imp.frzW (σ:=σ') (opd P E.dt σ T y).rws)
          rw[←hfin] at this
          exact this
         ·cases h
        ·cases h
   ·cases h
  ·rename_i T5 vs hl
   split at h
   ·    rename_i Te hTe
        have hh_:=Option.bind_eq_some_iff.1 h
        clear h
        obtain⟨e0,he0,h⟩:=hh_
        split at h
        ·rename_i q c' hs
         have hh_:=bif_some h
         clear h
         obtain⟨hc,h⟩:=hh_
         have e:=beq_eq (and_l hc)
         subst e
         have e2:=beq_eq (and_r hc)
         subst e2
         obtain⟨hd,hk⟩:=outN_some h
         refine⟨_,hk,fun σ' ha=>?_⟩
         have:=op_store_eptrA (n:=n) ho hd h0 (ev_is ha hx e1) (ev_at ha hy) q1 q2 q5 (by rw[ha.hs l (by simp)];exact hl) (slE_some hTe) he0 (setAt_sound hs)
         rw[hd]
         exact this
        ·cases h
   ·cases h
  ·cases h
 ·cases h
where setAt_rws {T':TypeId} {v:AV}:∀{path:List Nat} {S:TypeId} {c:AV} {q:Nat} {c':AV},setAt P T' v S c path=some (q,c')→(∀l∈c.rws,l∈v.rws)→∀l∈c'.rws,l∈v.rws
 | [],S,c,q,c',h,_=>by
   have h':(bif Nat.beq S T' then some (0,v) else none)=some (q,c'):=by simpa [setAt] using h
   obtain⟨_,h2⟩:=bif_some h'
   cases h2
   exact fun l hl=>hl
 | i  ::p,S,c,    q,c',h,hc=>by
   unfold setAt at h
   split at h
   ·  rename_i fs hfs
      split at h
      ·rename_i f hf
       split at h
       ·rename_i vs hvs
        split at h
        · rename_i old hold
          obtain⟨h1,h2⟩:=bif_some h
          split at h2
          ·rename_i q' new hg
           cases h2
           have hvsr:∀l∈AV.rwsL vs,l∈v.rws:=by
                split at hvs
                · obtain⟨e1,e2⟩:=bif_some hvs
                  cases e2
                  exact hc
                · obtain⟨e1,e2⟩:=bif_some hvs
                  cases e2
                  intro l hl
                  exfalso
                  have:∀(fs:List Field) (j:Nat) (d:Dt),AV.rwsL (explL P fs j d)=[]:=by
                   intro fs
                   induction fs with
                   |nil=>intro j d;rfl
                   |cons f r ih=>intro j d;simp[explL,AV.rwsL,AV.rws,ih]
                  rw[show expl P fs _=explL P fs.toList 0 _ from rfl,this] at hl
                  simp at hl
                ·cases hvs
           have hnew:=setAt_rws hg fun l hl=>hvsr l (rwsL_mem (List.mem_of_getElem? hold) hl)
           intro l hl
           have hset:∀(us:List AV) (j:Nat),(∀l∈AV.rwsL us,l∈v.rws)→∀l∈AV.rwsL (us.set j new),l∈v.rws:=by
                intro us
                induction us with
                |nil=>intro j hu l hl;simp[AV.rwsL] at hl
                | cons u r ih=>
                  intro j hu l hl
                  cases j with
                  |zero=>
                   simp only[List.set_cons_zero,AV.rwsL,List.mem_append] at hl
                   rcases hl with hl|hl
                   ·exact hnew l hl
                   ·exact hu l (by simp[AV.rwsL,hl])
                  |succ j=>
                   simp only[List.set_cons_succ,AV.rwsL,List.mem_append] at hl
                   rcases hl with hl|hl
                   ·exact hu l (by simp[AV.rwsL,hl])
                   ·exact ih j (fun l hl=>hu l (by simp[AV.rwsL,hl])) l hl
           exact hset vs i hvsr l hl
          ·cases h2
        ·cases h
       ·cases h
      ·cases h
   ·cases h
end
end Go.Am
