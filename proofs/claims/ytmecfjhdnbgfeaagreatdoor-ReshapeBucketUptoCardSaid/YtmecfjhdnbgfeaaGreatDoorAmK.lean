/- The abstract machine, part 12: what the helpers compute is so.
The abstract machine,part 13:each operation of the machine is so in the model. -/
import Derived.Test.YtmecfjhdnbgfeaaGreatDoorAm11
set_option linter.unusedVariables false
set_option linter.unusedSimpArgs false
namespace Go.Am
open Go.RowKit
theorem bif_some {A:Type} {b:Bool} {x:Option A} {r:A} (h:(bif b then x else none)=some r):b=true∧x=some r:=by
 cases b with
 |true=>exact⟨rfl,h⟩
 |false=>cases h
theorem and_l {a b:Bool} (h:(a&&b)=true):a=true:=by cases a<;>simp_all
theorem and_r {a b:Bool} (h:(a&&b)=true):b=true:=by cases a<;>simp_all
theorem beq_eq {a b:Nat} (h:Nat.beq a b=true):a=b:=Nat.eq_of_beq_eq_true h
theorem BD {a b:Nat} (h:(!Nat.beq a b)=true):a≠b:=fun e=>by subst e;simp at h
section
variable {P:Program} {n:Nat} {o:Oper} {σ τ:St} {x y:Operand} {v:AV} {T:TypeId} {R:Type} {E:Env}
theorem acv {av:TypeId→List Value→Option AV} {cs:List Value}:∀{fs:List Field} {vs:List AV},avF av P cs fs=some vs→vs.length=fs.length∧∀(i:Nat) (f:Field) (v:AV),fs[i]? =some f→vs[i]? =some v→v= .dead∨av f.type ((cs.drop f.offset).take (P.cellsOf f.type))=some v
 | [],vs,h=>by simp only[avF,Option.some.injEq] at h;subst h;exact⟨rfl,fun i f v hf=>by simp at hf⟩
 |f::fs,vs,h=>by
  unfold avF at h
  split at h
  ·rename_i us hus
   cases h
   obtain⟨h1,h2⟩:=acv hus
   refine⟨by simp[h1],fun i g u hg hu=>?_⟩
   cases i with
   |    zero=>
        simp only[List.getElem?_cons_zero,Option.some.injEq] at hg hu
        subst hg
        split at hu
        ·rename_i v hv;subst hu;exact .inr hv
        ·subst hu;exact .inl rfl
   |succ i=>simp only[List.getElem?_cons_succ] at hg hu;exact h2 i g u hg hu
  ·cases h
theorem Ce:∀{k:Nat} {T:TypeId} {cs:List Value} {v:AV},avC P k T cs=some v→(∀(ok:Nat→Prop) (w:World) (β:Nat→Option Value),RA P ok w β v cs)∧v.isAgg P=bW P T∧v≠ .dead∧(∀us,v≠ .tup us)∧(bW P T=false→cs.length=1)
 |0,_,_,_,h=>by simp[avC] at h
 |k+    1,T,cs,v,h=>by
  unfold avC at h
  split at h
  ·rename_i q hu
   split at h
   ·    rename_i q' m
        obtain⟨h1,h2⟩:=bif_some h
        cases h2
        have e:q=q':=by simpa using and_l h1
        subst e
        have h3:q.min≤m:=by simpa using and_l (and_r h1)
        have h4:m≤q.max:=by simpa using and_r (and_r h1)
        exact⟨fun _ _ _=> .dat (.int hu h3 h4),rfl,by simp,by simp,fun _=>rfl⟩
   ·cases h
  ·rename_i hu
   split at h
   ·cases h;exact⟨fun _ _ _=> .dat (.bool hu),rfl,by simp,by simp,fun _=>rfl⟩
   ·cases h
  ·rename_i hu
   split at h
   ·    obtain⟨h1,h2⟩:=bif_some h
        cases h2
        exact⟨fun _ _ _=> .dat (.str hu (Nat.le_of_ble_eq_true h1)),rfl,by simp,by simp,fun _=>rfl⟩
   ·cases h
  ·rename_i e hu
   split at h
   ·cases h;exact⟨fun _ _ _=> .nils,by simp[AV.isAgg,bW,hu],by simp,by simp,fun _=>rfl⟩
   ·cases h
  ·rename_i fs hu
   obtain⟨h1,h2⟩:=bif_some h
   split at h2
   ·    rename_i vs hvs
        cases h2
        obtain⟨q1,q2⟩:=acv hvs
        refine⟨fun ok w β=> .agg hu (by rw[q1];simp) (beq_eq (and_l h1)) (fun c hc=>List.all_eq_true.1 (and_r h1) c hc) fun i f u hf hu2=>by
         rcases q2 i f u (by simpa using hf) hu2 with rfl|h3
         ·exact .dead fun c hc=>List.all_eq_true.1 (and_r h1) c (List.mem_of_mem_drop (List.mem_of_mem_take hc))
         ·exact(Ce h3).1 ok w β,rfl,by simp,by simp,fun hf=>by simp[bW,hu] at hf⟩
   ·cases h2
  ·rename_i ms hu
   split at h
   ·cases h;exact⟨fun _ _ _=> .nif,by simp[AV.isAgg,bW,hu],by simp,by simp,fun _=>rfl⟩
   ·cases h
  ·rename_i pe hu
   split at h
   ·cases h;exact⟨fun _ _ _=> .dat (.nilp hu),rfl,by simp,by simp,fun _=>rfl⟩
   ·cases h
  ·cases h
theorem RV.const {ok:Nat→Prop} {w:World} {β:Nat→Option Value} {z:Value} {k:Nat} (h:avC P k T z.cells.toList=some v) (hz:Dx z=bW P T):RV P ok w β v z:=by
 obtain⟨h1,h2,h3,h4,_⟩:=Ce h
 refine RV.of1 h3 h4 ⟨fun hi=>?_,fun hi=>?_⟩
 ·rw[h2,←hz] at hi
  cases z<;>simp[Dx] at hi
  exact⟨_,by simp[Value.cells],h1 _ _ _⟩
 ·rw[h2,←hz] at hi
  have:=h1 ok w β
  cases z<;>simp[Dx] at hi<;>simpa [Value.cells] using this
theorem aiy {ok:Nat→Prop} {w:World} {β:Nat→Option Value} {z:Value}:∀{Ts:List TypeId},RV P ok w β (cst P z Ts) z
 | []=>trivial
 |T::r=>by
  unfold cst
  split
  ·rename_i a ha
   cases hb:Dx z==bW P T with
   |true=>exact RV.const ha (by simpa using hb)
   |false=>exact trivial
  ·exact aiy
theorem vW {D:List TypeId}:Ev P σ x (opd P D σ T x):=by
 cases x with
 |tmp t=>exact Ev.tmp rfl
 |const v=>exact fun _ _ _ _ _ _ _=>aiy
 |func f=>exact Ev.fn
 |global g=>exact fun _ _ _ _ _ _ _=>trivial
def Agrs (σ σ':St) (xs:List Operand):Prop:=∀t∈tmpsOf xs,tk σ'.ts t=tk σ.ts t
theorem XI {t:Nat}:∀{xs:List Operand},.tmp t∈xs→t∈tmpsOf xs
 | [],h=>by simp at h
 |y::r,h=>by
  rcases List.mem_cons.1 h with e|h1
  ·subst e;simp[tmpsOf]
  ·have:=XI h1
   cases y<;>simp[tmpsOf,this]
theorem xA {σ':St} {D:List TypeId} {xs:List Operand} (h:Agrs σ σ' xs) (hx:x∈xs):opd P D σ' T x=opd P D σ T x:=by
 cases x with
 |tmp t=>exact h t (XI hx)
 |const v=>rfl
 |func f=>rfl
 |global g=>rfl
theorem BF {σ':St} {D:List TypeId} {xs:List Operand} (h:Agrs σ σ' xs):∀{Ts:List TypeId} {ys:List Operand},(∀y∈ys,y∈xs)→aV P D σ' Ts ys=aV P D σ Ts ys
 | [],_,_=>by simp[aV]
 |_::_,[],_=>by simp[aV]
 |T::Ts,y::ys,hy=>by simp only[aV];rw[xA h (hy y (by simp)),BF h fun z hz=>hy z (by simp[hz])]
theorem Gl {D:List TypeId}:∀{Ts:List TypeId} {xs:List Operand},xs.length=Ts.length→EvXs P σ xs (aV P D σ Ts xs)
 | [],[],_=> .nil
 |T::Ts,x::xs,h=> .cons vW (Gl (by simpa using h))
 | [],_::_,h=>by simp at h
 |_::_,[],h=>by simp at h
theorem uG {b:Bool} (h:Vr P v=some b):∃T d,v= .dat T d∧P.underlying T=some .bool∧b=d.toBool:=by
 unfold Vr at h
 split at h
 ·split at h
  ·rename_i hu;cases h;exact⟨_,_,rfl,hu,rfl⟩
  ·cases h
 ·cases h
theorem lD {Tx:TypeId} {q:IntKind} {i:Int} (h:ival P v=some (Tx,q,i)):∃d,v= .dat Tx d∧P.underlying Tx=some (.int q)∧i=d.toInt:=by
 unfold ival at h
 split at h
 ·split at h
  ·rename_i hu;cases h;exact⟨_,rfl,hu,rfl⟩
  ·cases h
 ·cases h
theorem oO {Tx:TypeId} {s:ByteArray} (h:Lp P v=some (Tx,s)):∃d,v= .dat Tx d∧P.underlying Tx=some .string∧s=d.toStr:=by
 unfold Lp at h
 split at h
 ·split at h
  ·rename_i hu;cases h;exact⟨_,rfl,hu,rfl⟩
  ·cases h
 ·cases h
theorem Cg {hs:List Ob} {Tx Te:TypeId} {es:List Dt} (h:lval P hs v=some (Tx,Te,es)):∃d,pk P hs v=some (Tx,d)∧P.underlying Tx=some (.slice Te)∧es=d.toLst:=by
 unfold lval at h
 split at h
 ·rename_i T' d hp
  split at h
  ·rename_i hu;cases h;exact⟨_,hp,hu,rfl⟩
  ·cases h
 ·cases h
theorem dJ {Te:TypeId} (h:slE P T=some Te):P.underlying T=some (.slice Te):=by
 unfold slE at h
 split at h
 ·rename_i hu;cases h;exact hu
 ·cases h
theorem pq {fs:Array Field} (h:stF P T=some fs):P.underlying T=some (.struct fs):=by
 unfold stF at h
 split at h
 ·rename_i hu;cases h;exact hu
 ·cases h
theorem XJ (h:isB P T=true):P.underlying T=some .bool:=by
 unfold isB at h
 split at h
 ·assumption
 ·cases h
theorem qP {k:IntKind} (h:isI P T k=true):P.underlying T=some (.int k):=by
 unfold isI at h
 split at h
 ·rename_i k' hu;have e:k'=k:=by simpa using h
  subst e;exact hu
 ·cases h
theorem tH (h:isS P T=true):P.underlying T=some .string:=by
 unfold isS at h
 split at h
 ·assumption
 ·cases h
theorem gM:∀{Ts:List TypeId} {TB:TypeId},bT P Ts=some TB→P.underlying TB=some .bool
 | [],_,h=>by simp[bT] at h
 |T::r,TB,h=>by
  unfold bT at h
  cases hb:isB P T with
  |true=>rw[hb] at h;cases h;exact XJ hb
  |false=>rw[hb] at h;exact gM h
theorem fE {Te:TypeId} (h:lu P T Te=true):P.underlying T=some (.slice Te)∧P.cellsOf Te≠0:=by
 unfold lu at h
 refine⟨?_,BD (and_r h)⟩
 have h1:=and_l h
 split at h1
 ·rename_i Te' he
  have:=beq_eq h1
  subst this
  exact dJ he
 ·cases h1
theorem lF (h:szB P T v=true):v≠ .dead∧(∀us,v≠ .tup us)∧(∃D,P.underlying T=some D)∧(v.isAgg P=false→P.cellsOf T=1)∧
  ∀(ok:Nat→Prop) (w:World) (β:Nat→Option Value) (cs:List Value),RA P ok w β v cs→(v.isAgg P=false→cs.length=1)→cs.length=P.cellsOf T:=by
 have h0:=and_l h
 have h1:=and_r h
 have hu:∃D,P.underlying T=some D:=Option.isSome_iff_exists.1 h0
 unfold szA at h1
 split at h1
 ·rename_i T' d
  split at h1
  ·rename_i fs hfs
   have e:=beq_eq h1
   refine⟨by simp,by simp,hu,fun hi=>by simp[AV.isAgg,bW,hfs] at hi,fun ok w β cs hr _=>?_⟩
   cases hr with
   |dat hr=>rw[←e];exact(hr.agg_inv hfs).2.1
  ·rename_i m1 m2 hfs
   have e:=beq_eq h1
   refine⟨by simp,by simp,hu,fun hi=>by simp[AV.isAgg,bW,hfs] at hi,fun ok w β cs hr _=>?_⟩
   cases hr with
   |dat hr=>rw[←e];exact(hr.arr_inv hfs).2.2.1
  ·exact⟨by simp,by simp,hu,fun _=>beq_eq h1,fun ok w β cs hr hl=>by
        rw[beq_eq h1]
        rename_i D hn1 hn2 hD
        refine hl ?_
        simp only[AV.isAgg,bW,hD]
        cases D<;>simp_all⟩
  ·cases h1
 ·rename_i T' vs
  split at h1
  ·rename_i fs hfs
   have e:=beq_eq h1
   refine⟨by simp,by simp,hu,fun hi=>by simp[AV.isAgg,bW,hfs] at hi,fun ok w β cs hr _=>?_⟩
   cases hr with
   |agg _ _ hc _ _=>rw[←e];exact hc
  ·cases h1
 ·cases h1
 ·cases h1
 ·rename_i h3 h4 h5 h6
  have hag:v.isAgg P=false:=by
   cases v<;>first|rfl|(exact absurd rfl (h3 _ _))|(exact absurd rfl (h4 _ _))
  exact⟨fun e=>h5 e,fun us e=>h6 us e,hu,fun _=>beq_eq h1,fun ok w β cs hr hl=>by rw[beq_eq h1];exact hl hag⟩
theorem tJ:∀{path:List Nat} {S:TypeId} {c:AV} {T:TypeId} {q:Nat} {v:AV},getAt P S c path=some (T,q,v)→GetAt P S c path q T v
 | [],S,c,T,q,v,h=>by
   have h':some (S,0,c)=some (T,q,v):=by simpa [getAt] using h
   cases h'
   exact .nil
 | i::p,  S,c,T,q,v,h=>by
   unfold getAt at h
   split at h
   ·rename_i he;cases he
   ·rename_i S0 S' vs i' p' he
    cases he
    split at h
    ·   rename_i fs hfs
        split at h
        ·rename_i f hf
         split at h
         ·rename_i u hu
          obtain⟨h1,h2⟩:=bif_some h
          split at h2
          ·rename_i T' q' r hg
           cases h2
           have e:=beq_eq (and_l h1)
           subst e
           exact .agg (pq hfs) hf hu (Nat.le_of_ble_eq_true (and_r h1)) (tJ hg)
          ·cases h2
         ·cases h
        ·cases h
    ·cases h
   ·rename_i S0 S' d i' p' he
    cases he
    split at h
    ·   rename_i fs hfs
        split at h
        ·rename_i f hf
         obtain⟨h1,h2⟩:=bif_some h
         split at h2
         ·rename_i T' q' r hg
          cases h2
          have e:=beq_eq (and_l h1)
          subst e
          exact .dat (pq hfs) hf (Nat.le_of_ble_eq_true (and_r h1)) (tJ hg)
         ·cases h2
        ·cases h
    ·cases h
   ·cases h
theorem xB {T':TypeId}:∀{path:List Nat} {S:TypeId} {c:AV} {q:Nat} {c':AV},setAt P T' v S c path=some (q,c')→SetAt P v T' S c path q c'
 | [],S,c,q,c',h=>by
   have h':(bif Nat.beq S T' then some (0,v) else none)=some (q,c'):=by simpa [setAt] using h
   obtain⟨h1,h2⟩:=bif_some h'
   cases h2
   have:=beq_eq h1
   subst this
   exact .nil
 | i::p,  S,c,q,c',h=>by
   unfold setAt at h
   split at h
   ·rename_i fs hfs
    split at h
    ·   rename_i f hf
        split at h
        ·rename_i vs hvs
         split at h
         ·rename_i old hold
          obtain⟨h1,h2⟩:=bif_some h
          split at h2
          ·rename_i q' new hg
           cases h2
           have key:=SetAt.agg (v:=v) (T':=T') (pq hfs) h1 hf hold (xB hg)
           split at hvs
           ·obtain⟨e1,e2⟩:=bif_some hvs
            cases e2
            have:=beq_eq e1
            subst this
            exact key
           ·obtain⟨e1,e2⟩:=bif_some hvs
            cases e2
            have:=beq_eq e1
            subst this
            exact .dat (pq hfs) key
           ·cases hvs
          ·cases h2
         ·cases h
        ·cases h
    ·cases h
   ·cases h
theorem BG (h:zeroV P T=some v):ZeroA P T v:=by
 unfold zeroV at h
 split at h
 ·rename_i i hi
  split at h
  ·rename_i z hz
   obtain⟨h1,h2⟩:=bif_some h
   exact⟨i,z,hi,hz,beq_eq h1,(Ce h2).1⟩
  ·cases h
 ·cases h
theorem om {d:Dt} (h:Jo P T=some d):Zero P T d:=by
 unfold Jo at h
 split at h
 ·rename_i v hv
  split at h
  ·rename_i T' d' hp
   obtain⟨h1,h2⟩:=bif_some h
   cases h2
   have:=beq_eq h1
   subst this
   obtain⟨i,z,q1,q2,q3,q4⟩:=(BG hv).ex
   exact⟨i,z,q1,q2,q3,fun ok w=>jA (β:=fun _=>none) (hs:=[]) (fun l T es hl=>by simp[lk] at hl) (q4 ok w _) hp⟩
  ·cases h
 ·cases h
theorem Og {fs:Array Field}:∀{parts:List (Nat×Operand)} {vs us:List AV},OA P E σ fs parts vs=some us→BldL P σ fs parts vs us
 | [],vs,us,h=>by
   have h':some vs=some us:=by simpa [OA] using h
   cases h';exact .nil
 | (i,x)::r,vs,us,h=>by
   unfold OA at h
   split at h
   ·rename_i f hf
    obtain⟨h1,h2⟩:=bif_some h
    obtain⟨q1,q2,q3,q4,q5⟩:=lF h1
    exact .cons hf vW q1 q2 q5 (Og h2)
   ·cases h
theorem XK {σ':St} {fs:Array Field} {xs:List Operand} (h:Agrs σ σ' xs):∀{parts:List (Nat×Operand)} {vs:List AV},(∀p∈parts,p.2∈xs)→OA P E σ' fs parts vs=OA P E σ fs parts vs
 | [],vs,_=>by simp[OA]
 |(i,x)::r,vs,hp=>by
  have hx:=hp (i,x) (by simp)
  unfold OA
  split
  ·rename_i f hf
   rw[xA h hx,XK h fun p hq=>hp p (by simp[hq])]
  ·rfl
theorem uD {lo:Option Operand} {i:Int} (h:uY P E σ 0 lo=some i):X8 P σ lo i:=by
 cases lo with
 |none=>simp only[uY,Option.some.injEq] at h;exact h.symm
 |some x=>
  simp only[uY] at h
  split at h
  ·rename_i Tx q i' hi
   cases h
   obtain⟨d,e1,e2,rfl⟩:=lD hi
   refine⟨Tx,q,e2,?_⟩
   have:=vW (P:=P) (σ:=σ) (x:=x) (T:=0) (D:=E.dt)
   rw[e1] at this
   exact this.cint e2
  ·cases h
theorem Uy {hi:Option Operand} {m:Nat} {i:Int} (h:uY P E σ m hi=some i):aec P σ m hi i:=by
 cases hi with
 |none=>simp only[uY,Option.some.injEq] at h;exact h.symm
 |some x=>
  simp only[uY] at h
  split at h
  ·rename_i Tx q i' hi
   cases h
   obtain⟨d,e1,e2,rfl⟩:=lD hi
   refine⟨Tx,q,e2,?_⟩
   have:=vW (P:=P) (σ:=σ) (x:=x) (T:=0) (D:=E.dt)
   rw[e1] at this
   exact this.cint e2
  ·cases h
theorem mU {σ':St} {xs:List Operand} {m:Int} {b:Option Operand} (h:Agrs σ σ' xs) (hb:∀x,b=some x→x∈xs):uY P E σ' m b=uY P E σ m b:=by
 cases b with
 |none=>rfl
 |some x=>simp only[uY];rw[xA h (hb x rfl)]
theorem BH {hs hs':List Ob} (v:AV):(∀l∈v.rws,lk hs' l=lk hs l)→pk P hs' v=pk P hs v:=by
 refine AV.rec (motive_1:=fun v=>(∀l∈v.rws,lk hs' l=lk hs l)→pk P hs' v=pk P hs v) (motive_2:=fun vs=>(∀l∈AV.rwsL vs,lk hs' l=lk hs l)→∀fs,pkL P hs' fs vs=pkL P hs fs vs) ?_ ?_ ?_ ?_ ?_ ?_ ?_ ?_ ?_ ?_ ?_ ?_ ?_ ?_ v
 ·intro T d _;rfl
 ·intro T vs ih h
  simp only[pk]
  split
  ·rename_i fs _
   rw[ih (by simpa [AV.rws] using h) fs.toList]
  ·rfl
 ·intro l h;simp only[pk];rw[h l (by simp[AV.rws])]
 ·intro l p o _;rfl
 ·intro l i z p o _;rfl
 ·intro T d _;rfl
 ·intro f c _ _;rfl
 ·intro vs _ _;rfl
 ·intro T _;rfl
 ·intro b _;rfl
 ·intro T v _ _;rfl
 ·intro _;rfl
 ·intro _ fs;cases fs<;>rfl
 ·intro v vs h1 h2 h fs
  cases fs with
  |nil=>rfl
  |cons f fs=>
   simp only[pkL]
   rw[h1 fun l hl=>h l (by simp[AV.rwsL,hl]),h2 (fun l hl=>h l (by simp[AV.rwsL,hl])) fs]
theorem XL {l:Nat} {v:AV}:∀{vs:List AV},v∈vs→l∈v.rws→l∈AV.rwsL vs
 | [],h,_=>by simp at h
 |u::r,h,hl=>by
  rcases List.mem_cons.1 h with e|h
  ·subst e;simp[AV.rwsL,hl]
  ·simp[AV.rwsL,XL h hl]
theorem Oh {hs:List Ob} {T:TypeId} {d:Dt} (v:AV) (h:pk P [] v=some (T,d)):pk P hs v=some (T,d):=by
 have key:∀v:AV,∀T d,pk P [] v=some (T,d)→pk P hs v=some (T,d):=by
  intro v
  refine AV.rec (motive_1:=fun v=>∀T d,pk P [] v=some (T,d)→pk P hs v=some (T,d)) (motive_2:=fun vs=>∀fs ds,pkL P [] fs vs=some ds→pkL P hs fs vs=some ds) ?_ ?_ ?_ ?_ ?_ ?_ ?_ ?_ ?_ ?_ ?_ ?_ ?_ ?_ v
  ·intro T d T' d' h;exact h
  ·intro T vs ih T' d' h
   simp only[pk] at h ⊢
   split at h
   ·    rename_i fs hfs
        split at h
        ·rename_i ds hds
         rw[ih _ _ hds];exact h
        ·cases h
   ·cases h
  ·intro l T d h;simp[pk,lk] at h
  ·intro l p o T d h;simp[pk] at h
  ·intro l i z p o T d h;simp[pk] at h
  ·intro T d T' d' h;simp[pk] at h
  ·intro f c _ T' d' h;simp[pk] at h
  ·intro vs _ T' d' h;simp[pk] at h
  ·intro T T' d' h;exact h
  ·intro b T' d' h;simp[pk] at h
  ·intro T v _ T' d' h;simp[pk] at h
  ·intro T' d' h;simp[pk] at h
  ·intro fs ds h
   cases fs with
   |nil=>exact h
   |cons f fs=>simp[pkL] at h
  ·intro  v vs h1 h2 fs ds h
   cases fs with
   |nil=>simp[pkL] at h
   |    cons f fs=>
        unfold pkL at h ⊢
        split at h
        ·rename_i T d hv
         rw[h1 _ _ hv]
         simp only
         cases hc:compat P T f.type with
         |false=>rw[hc] at h;cases h
         |true=>
          rw[hc] at h
          simp only[cond_true] at h ⊢
          split at h
          · rename_i us hus
            rw[h2 _ _ hus];exact h
          ·cases h
        ·cases h
 exact key v T d h
theorem BI:∀(ls:List Nat) (hs:List Ob),wrO hs (frzW hs ls)=frzN hs ls
 | [],hs=>rfl
 |l::r,hs=>by
  unfold frzW frzN frz1
  cases hl:lk hs l with
  |row T es=>simp only[wrO];exact BI r _
  |box T c=>exact BI r hs
  |rowA T vs=>exact BI r hs
  |frz T es=>exact BI r hs
  |map T es=>exact BI r hs
  |gone=>exact BI r hs
  |free=>exact BI r hs
theorem oo:∀{ls:List Nat} {hs hs':List Ob},(∀l∈ls,lk hs' l=lk hs l)→frzW hs' ls=frzW hs ls
 | [],hs,hs',_=>rfl
 |l::r,hs,hs',h=>by
  unfold frzW
  rw[h l (by simp)]
  split
  ·rename_i T es hl
   congr 1
   refine oo fun k hk=>?_
   rw[jq,jq]
   split
   ·rfl
   ·exact h k (by simp[hk])
  ·exact oo fun k hk=>h k (by simp[hk])
theorem pO {ls:List Nat}:∀{ws:List (Nat×Ob)} {hs hs':List Ob},(∀l∈ls,lk hs' l=lk hs l)→∀l∈ls,lk (wrO hs' ws) l=lk (wrO hs ws) l
 | [],hs,hs',h,l,hl=>h l hl
 |(k,ob)::r,hs,hs',h,l,hl=>by
  refine pO (ls:=ls) (ws:=r) (hs:=dX hs k ob) (hs':=dX hs' k ob) (fun l hl=>?_) l hl
  rw[jq,jq]
  split
  ·rfl
  ·exact h l hl
theorem sO:∀(a b:List (Nat×Ob)) (hs:List Ob),wrO hs (a++b)=wrO (wrO hs a) b
 | [],b,hs=>rfl
 |(l,ob)::r,b,hs=>sO r b _
theorem Imp.frzW (ls:List Nat):Imp P n σ ⟨σ.ts,wrO σ.hs (frzW σ.hs ls),σ.k0⟩:=by rw[BI];exact Imp.frzN ls σ
theorem uI:∀{ls:List Nat} {hs:List Ob} {l:Nat},lk hs l= .free→lk (wrO hs (Am.frzW hs ls)) l= .free
 | [],hs,l,h=>h
 |k::r,hs,l,h=>by
  unfold Am.frzW
  split
  ·rename_i T es hl
   simp only[wrO]
   refine uI ?_
   rw[jq]
   split
   ·rename_i e;subst e;rw[h] at hl;cases hl
   ·exact h
  ·exact uI h
theorem zC:∀{ls:List Nat} {hs:List Ob} {l:Nat},l∉ls→lk (wrO hs (Am.frzW hs ls)) l=lk hs l
 | [],hs,l,h=>rfl
 |k::r,hs,l,h=>by
  simp only[List.mem_cons,not_or] at h
  unfold Am.frzW
  split
  ·rename_i T es hl
   simp only[wrO]
   rw[zC h.2,bX _ _ _ _ h.1]
  ·exact zC h.2
theorem anv (σ:St) (d:Option Nat) (δ:Dl):(σ.app d δ).k0=σ.k0:=rfl
end
end Go.Am
namespace Go.Am
open Go.RowKit
structure Agr (o:Oper) (σ σ':St) (rd:List Nat):Prop where
 ts:Agrs σ σ' o.op.operands.toList
 hs:∀l∈rd,lk σ'.hs l=lk σ.hs l
 k0:σ'.k0=σ.k0
def OpS {R:Type} (P:Program) (n:Nat) (o:Oper) (σ:St) (k:Dl→Option R) (r:R):Prop:=
 ∃δ,k δ=some r∧∀σ',Agr o σ σ' δ.rd→bn P n o σ' (σ'.app o.dst δ)
section
variable {P:Program} {n:Nat} {o:Oper} {σ τ:St} {x y:Operand} {v:AV} {T:TypeId} {R:Type} {E:Env} {k:Dl→Option R} {r:R}
theorem oq {rd:List Nat} {wr:List (Nat×Ob)} (h:out n o v rd wr k=some r):∃d,o.dst=some d∧d<n∧k ⟨some v,rd,wr⟩=some r:=by
 unfold out at h
 split at h
 ·rename_i d hd
  obtain⟨h1,h2⟩:=bif_some h
  exact⟨d,hd,Nat.le_of_ble_eq_true h1,h2⟩
 ·cases h
theorem Ch {rd:List Nat} {wr:List (Nat×Ob)} (h:ac2 o rd wr k=some r):o.dst=none∧k ⟨none,rd,wr⟩=some r:=by
 unfold ac2 at h
 split at h
 ·cases h
 ·rename_i hd;exact⟨hd,h⟩
theorem pz {f:Nat→Option R} (h:new σ f=some r):σ.k0≤σ.hs.length∧f σ.hs.length=some r:=by
 unfold new at h
 obtain⟨h1,h2⟩:=bif_some h
 exact⟨Nat.le_of_ble_eq_true h1,h2⟩
theorem aU {rd:List Nat} (h:out n o v rd [] k=some r) (hv:∀σ',Agr o σ σ' rd→∀d,o.dst=some d→d<n→bn P n o σ' (σ'.put d v)):OpS P n o σ k r:=by
 obtain⟨d,hd,hn,hk⟩:=oq h
 refine⟨_,hk,fun σ' ha=>?_⟩
 have:=hv σ' ha d hd hn
 rw[hd]
 exact this
theorem acw {rd:List Nat} {l:Nat} {ob:Ob} (h:out n o v rd [(l,ob)] k=some r) (hv:∀σ',Agr o σ σ' rd→∀d,o.dst=some d→d<n→bn P n o σ' ((σ'.lay l ob).put d v)):OpS P n o σ k r:=by
 obtain⟨d,hd,hn,hk⟩:=oq h
 refine⟨_,hk,fun σ' ha=>?_⟩
 have:=hv σ' ha d hd hn
 rw[hd]
 exact this
theorem ru {σ':St} {rd:List Nat} (ha:Agr o σ σ' rd) (hx:x∈o.op.operands.toList):Ev P σ' x (opd P E.dt σ T x):=by
 rw[←xA ha.ts hx]
 exact vW
theorem aY {σ':St} {rd:List Nat} {u:AV} (ha:Agr o σ σ' rd) (hx:x∈o.op.operands.toList) (hv:opd P E.dt σ T x=u):Ev P σ' x u:=by
 rw[←hv]
 exact ru ha hx
theorem anw (ho:o.op= .move x) (h:out n o (opd P E.dt σ o.type x) [] [] k=some r):OpS P n o σ k r:=
 aU h fun σ' ha d hd hn=>aj4 ho hd hn (ru ha (by rw[ho];simp[Op.operands]))
theorem aiz (ho:o.op= .assign x) (h:out n o (opd P E.dt σ o.type x) [] [] k=some r):OpS P n o σ k r:=
 aU h fun σ' ha d hd hn=>adv ho hd hn (ru ha (by rw[ho];simp[Op.operands]))
theorem anx {c:Operand} (ho:o.op= .pick c x y) (h:Yq P E n o σ c x y k=some r):OpS P n o σ k r:=by
 unfold Yq at h
 split at h
 ·rename_i b hb
  obtain⟨TB,d0,e1,e2,rfl⟩:=uG hb
  cases hd0:d0.toBool with
  |true=>
   rw[hd0] at h
   exact aU h fun σ' ha d hd hn=>by
        have hc:=(aY (x:=c) ha (by rw[ho];simp[Op.operands]) e1).cbool e2
        rw[hd0] at hc
        exact TP ho hd hn e2 hc (ru ha (by rw[ho];simp[Op.operands]))
  |false=>
   rw[hd0] at h
   exact aU h fun σ' ha d hd hn=>by
        have hc:=(aY (x:=c) ha (by rw[ho];simp[Op.operands]) e1).cbool e2
        rw[hd0] at hc
        exact PW ho hd hn e2 hc (ru ha (by rw[ho];simp[Op.operands]))
 ·cases h
theorem pF (σ:St):lk σ.hs σ.hs.length= .free:=pQ _ _ (Nat.le_refl _)
theorem akA (ho:o.op= .alloc T) (h:Sk P n o σ T k=some r):OpS P n o σ k r:=by
 unfold Sk at h
 split at h
 ·rename_i v hv
  have hh_:=pz h
  clear h
  obtain⟨hk0,h⟩:=hh_
  exact acw h fun σ' ha d hd hn=>ahL ho hd hn (by rw[ha.hs _ (by simp)];exact pF σ) (by rw[ha.k0];exact hk0) (BG hv)
 ·cases h
theorem aqx (ho:o.op= .box T x) (h:ae7 P E n o σ T x k=some r):OpS P n o σ k r:=by
 unfold ae7 at h
 have hh_:=bif_some h
 clear h
 obtain⟨hb,h⟩:=hh_
 have hh_:=pz h
 clear h
 obtain⟨hk0,h⟩:=hh_
 obtain⟨q1,q2,q3,q4,q5⟩:=lF hb
 exact acw h fun σ' ha d hd hn=>anc ho hd hn (by rw[ha.hs _ (by simp)];exact pF σ) (by rw[ha.k0];exact hk0) (ru ha (by rw[ho];simp[Op.operands])) q1 q2 q5
theorem akB {parts:Array (Nat×Operand)} (ho:o.op= .build T parts) (h:Sl P E n o σ T parts.toList k=some r):OpS P n o σ k r:=by
 unfold Sl at h
 split at h
 ·rename_i fs hfs
  split at h
  ·rename_i T' vs hz
   have hh_:=bif_some h
   clear h
   obtain⟨hc,h⟩:=hh_
   have e:=beq_eq (and_l hc)
   subst e
   split at h
   ·    rename_i us hus
        refine aU h fun σ' ha d hd hn=>aea ho hd hn (pq hfs) (and_l (and_r hc)) (and_r (and_r hc)) (BG hz) ?_
        have:OA P E σ' fs parts.toList vs=some us:=by
         rw[XK ha.ts fun p hp=>by rw[ho];simp only[Op.operands];exact List.mem_map.2 ⟨p,hp,rfl⟩]
         exact hus
        exact Og this
   ·cases h
  ·cases h
 ·cases h
theorem anz (ho:o.op= .load T x) (h:Yr P E n o σ T x k=some r):OpS P n o σ k r:=by
 have hx:x∈o.op.operands.toList:=by rw[ho];simp[Op.operands]
 unfold Yr at h
 split at h
 ·rename_i T' d0 e1
  have hh_:=bif_some h
  clear h
  obtain⟨hc,h⟩:=hh_
  have e:=beq_eq (and_l hc)
  subst e
  obtain⟨q1,q2,⟨D,hD⟩,q4,q5⟩:=lF (and_r hc)
  exact aU h fun σ' ha d hd hn=>(T9 ho hd hn hD (fun hf=>q4 hf) (aY ha hx e1)).can
 ·rename_i l path off e1
  split at h
  ·rename_i S c hl
   split at h
   ·    rename_i T' q v hg
        have hh_:=bif_some h
        clear h
        obtain⟨hc,h⟩:=hh_
        have e:=beq_eq (and_l hc)
        subst e
        have e2:=beq_eq (and_l (and_r hc))
        subst e2
        obtain⟨q1,q2,⟨D,hD⟩,q4,q5⟩:=lF (and_l (and_r (and_r hc)))
        have hag:v.isAgg P=bW P T':=by simpa using and_r (and_r (and_r hc))
        refine aU h fun σ' ha d hd hn=>?_
        have key:=WL ho hd hn hD (fun hf=>q4 (by rw[hag];exact hf)) (aY ha hx e1) (by rw[ha.hs l (by simp)];exact hl) (tJ hg) hag q2
        cases v<;>first|exact key|exact key.can
   ·cases h
  ·cases h
 ·rename_i l i sz path off e1
  split at h
  ·rename_i T5 es hl
   split at h
   ·    rename_i Te hTe
        have hh_:=Option.bind_eq_some_iff.1 h
        clear h
        obtain⟨e0,he0,h⟩:=hh_
        split at h
        ·rename_i T' q v hg
         have hh_:=bif_some h
         clear h
         obtain⟨hc,h⟩:=hh_
         have e:=beq_eq (and_l hc)
         subst e
         have e2:=beq_eq (and_l (and_r hc))
         subst e2
         have e3:=beq_eq (and_l (and_r (and_r hc)))
         subst e3
         obtain⟨q1,q2,⟨D,hD⟩,q4,q5⟩:=lF (and_l (and_r (and_r (and_r hc))))
         have hag:v.isAgg P=bW P T':=by simpa using and_r (and_r (and_r (and_r hc)))
         refine aU h fun σ' ha d hd hn=>?_
         have key:=Uc ho hd hn hD (fun hf=>q4 (by rw[hag];exact hf)) (aY ha hx e1) (by rw[ha.hs l (by simp)];exact hl) (dJ hTe) he0 (tJ hg) hag q2
         cases v<;>first|exact key|exact key.can
        ·cases h
   ·cases h
  ·rename_i T5 vs hl
   split at h
   ·    rename_i Te hTe
        have hh_:=Option.bind_eq_some_iff.1 h
        clear h
        obtain⟨e0,he0,h⟩:=hh_
        split at h
        ·rename_i T' q v hg
         have hh_:=bif_some h
         clear h
         obtain⟨hc,h⟩:=hh_
         have e:=beq_eq (and_l hc)
         subst e
         have e2:=beq_eq (and_l (and_r hc))
         subst e2
         have e3:=beq_eq (and_l (and_r (and_r hc)))
         subst e3
         obtain⟨q1,q2,⟨D,hD⟩,q4,q5⟩:=lF (and_l (and_r (and_r (and_r hc))))
         have hag:v.isAgg P=bW P T':=by simpa using and_r (and_r (and_r (and_r hc)))
         refine aU h fun σ' ha d hd hn=>?_
         have key:=P7 ho hd hn hD (fun hf=>q4 (by rw[hag];exact hf)) (aY ha hx e1) (by rw[ha.hs l (by simp)];exact hl) (dJ hTe) he0 (tJ hg) hag q2
         cases v<;>first|exact key|exact key.can
        ·cases h
   ·cases h
  ·cases h
 ·cases h
theorem akC (ho:o.op= .store T x y) (h:Sm P E o σ T x y k=some r):OpS P n o σ k r:=by
 have hx:x∈o.op.operands.toList:=by rw[ho];simp[Op.operands]
 have hy:y∈o.op.operands.toList:=by rw[ho];simp[Op.operands]
 unfold Sm at h
 have hh_:=bif_some h
 clear h
 obtain⟨hc0,h⟩:=hh_
 obtain⟨q1,q2,q3,q4,q5⟩:=lF (and_l hc0)
 have h0:=BD (and_r hc0)
 split at h
 ·rename_i l path off e1
  split at h
  ·rename_i S c hl
   split at h
   ·    rename_i q c' hs
        have hh_:=bif_some h
        clear h
        obtain⟨hc,h⟩:=hh_
        have e:=beq_eq hc
        subst e
        obtain⟨hd,hk⟩:=Ch h
        refine⟨_,hk,fun σ' ha=>?_⟩
        have:=Ua (n:=n) ho hd h0 (aY ha hx e1) (ru ha hy) q1 q2 q5 (by rw[ha.hs l (by simp)];exact hl) (xB hs)
        rw[hd]
        exact this
   ·cases h
  ·cases h
 ·rename_i l i sz path off e1
  split at h
  ·rename_i T5 es hl
   split at h
   ·    rename_i Te hTe
        have hh_:=Option.bind_eq_some_iff.1 h
        clear h
        obtain⟨e0,he0,h⟩:=hh_
        split at h
        ·rename_i q c' hs
         split at h
         ·rename_i Te' e' hpk
          have hh_:=bif_some h
          clear h
          obtain⟨hc,h⟩:=hh_
          have e:=beq_eq (and_l hc)
          subst e
          have e2:=beq_eq (and_l (and_r hc))
          subst e2
          have hcmp:=and_l (and_r (and_r hc))
          have hnm:l∉(opd P E.dt σ T y).rws:=EM (by simpa using and_r (and_r (and_r hc)))
          obtain⟨hd,hk⟩:=Ch h
          refine⟨_,hk,fun σ' ha=>?_⟩
          have hagr:∀l∈(opd P E.dt σ T y).rws,lk σ'.hs l=lk σ.hs l:=fun l hl=>ha.hs l (by simp[hl])
          rw[hd]
          have key:bn P n o ⟨σ'.ts,wrO σ'.hs (frzW σ'.hs (opd P E.dt σ T y).rws),σ'.k0⟩ ((St.mk σ'.ts (wrO σ'.hs (frzW σ'.hs (opd P E.dt σ T y).rws)) σ'.k0).lay l (.row T5 (es.set i e'))):=by
           have hev:∀{z:Operand} {u:AV},Ev P σ' z u→z∈o.op.operands.toList→(∃T0,u=opd P E.dt σ T0 z)→Ev P (St.mk σ'.ts (wrO σ'.hs (frzW σ'.hs (opd P E.dt σ T y).rws)) σ'.k0) z u:=by
            rintro z u _ hz ⟨T0,rfl⟩
            have e3:opd P E.dt (St.mk σ'.ts (wrO σ'.hs (frzW σ'.hs (opd P E.dt σ T y).rws)) σ'.k0) T0 z=opd P E.dt σ T0 z:=by
               rw[←xA ha.ts hz]
               cases z<;>rfl
            rw[←e3]
            exact vW
           refine PY (n:=n) ho hd h0 (hev (aY ha hx e1) hx ⟨_,e1.symm⟩) (hev (ru ha hy) hy ⟨_,rfl⟩) q1 q2 q5 ?_ (dJ hTe) he0 (xB hs) ?_
           ·show lk (wrO σ'.hs _) l=_
            rw[zC hnm,ha.hs l (by simp)]
            exact hl
           ·intro ok0 w0 a w β rb cs hra
            refine RD.compat (jA rb.frzOK hra ?_) hcmp
            show pk P (wrO σ'.hs (frzW σ'.hs (opd P E.dt σ T y).rws)) c'=_
            rw[←hpk]
            refine BH c' fun l2 hl2=>?_
            have hsub:∀l2∈c'.rws,l2∈(opd P E.dt σ T y).rws:=setAt_rws hs (by intro l3 h3;simp[AV.rws] at h3)
            rw[oo hagr]
            exact pO hagr l2 (hsub l2 hl2)
          have hfin:St.mk (aeZ σ'.ts none none) (wrO σ'.hs (frzW σ.hs (opd P E.dt σ T y).rws++[(l,.row T5 (es.set i e'))])) σ'.k0=(St.mk σ'.ts (wrO σ'.hs (frzW σ'.hs (opd P E.dt σ T y).rws)) σ'.k0).lay l (.row T5 (es.set i e')):=by
           rw[sO,oo hagr]
           rfl
          have:=key.pre (Imp.frzW (σ:=σ') (opd P E.dt σ T y).rws)
          rw[←hfin] at this
          exact this
         ·cases h
        ·cases h
   ·cases h
  ·rename_i T5 vs hl
   split at h
   ·    rename_i Te hTe
        have hh_:=Option.bind_eq_some_iff.1 h
        clear h
        obtain⟨e0,he0,h⟩:=hh_
        split at h
        ·rename_i q c' hs
         have hh_:=bif_some h
         clear h
         obtain⟨hc,h⟩:=hh_
         have e:=beq_eq (and_l hc)
         subst e
         have e2:=beq_eq (and_r hc)
         subst e2
         obtain⟨hd,hk⟩:=Ch h
         refine⟨_,hk,fun σ' ha=>?_⟩
         have:=Oq (n:=n) ho hd h0 (aY ha hx e1) (ru ha hy) q1 q2 q5 (by rw[ha.hs l (by simp)];exact hl) (dJ hTe) he0 (xB hs)
         rw[hd]
         exact this
        ·cases h
   ·cases h
  ·cases h
 ·cases h
where setAt_rws {T':TypeId} {v:AV}:∀{path:List Nat} {S:TypeId} {c:AV} {q:Nat} {c':AV},setAt P T' v S c path=some (q,c')→(∀l∈c.rws,l∈v.rws)→∀l∈c'.rws,l∈v.rws
 | [],S,c,q,c',h,_=>by
   have h':(bif Nat.beq S T' then some (0,v) else none)=some (q,c'):=by simpa [setAt] using h
   obtain⟨_,h2⟩:=bif_some h'
   cases h2
   exact fun l hl=>hl
 | i  ::p,S,c,    q,c',h,hc=>by
   unfold setAt at h
   split at h
   ·  rename_i fs hfs
      split at h
      ·rename_i f hf
       split at h
       ·rename_i vs hvs
        split at h
        · rename_i old hold
          obtain⟨h1,h2⟩:=bif_some h
          split at h2
          ·rename_i q' new hg
           cases h2
           have hvsr:∀l∈AV.rwsL vs,l∈v.rws:=by
                split at hvs
                · obtain⟨e1,e2⟩:=bif_some hvs
                  cases e2
                  exact hc
                · obtain⟨e1,e2⟩:=bif_some hvs
                  cases e2
                  intro l hl
                  exfalso
                  have:∀(fs:List Field) (j:Nat) (d:Dt),AV.rwsL (Dj P fs j d)=[]:=by
                   intro fs
                   induction fs with
                   |nil=>intro j d;rfl
                   |cons f r ih=>intro j d;simp[Dj,AV.rwsL,AV.rws,ih]
                  rw[show expl P fs _=Dj P fs.toList 0 _ from rfl,this] at hl
                  simp at hl
                ·cases hvs
           have hnew:=setAt_rws hg fun l hl=>hvsr l (XL (List.mem_of_getElem? hold) hl)
           intro l hl
           have hset:∀(us:List AV) (j:Nat),(∀l∈AV.rwsL us,l∈v.rws)→∀l∈AV.rwsL (us.set j new),l∈v.rws:=by
                intro us
                induction us with
                |nil=>intro j hu l hl;simp[AV.rwsL] at hl
                | cons u r ih=>
                  intro j hu l hl
                  cases j with
                  |zero=>
                   simp only[List.set_cons_zero,AV.rwsL,List.mem_append] at hl
                   rcases hl with hl|hl
                   ·exact hnew l hl
                   ·exact hu l (by simp[AV.rwsL,hl])
                  |succ j=>
                   simp only[List.set_cons_succ,AV.rwsL,List.mem_append] at hl
                   rcases hl with hl|hl
                   ·exact hu l (by simp[AV.rwsL,hl])
                   ·exact ih j (fun l hl=>hu l (by simp[AV.rwsL,hl])) l hl
           exact hset vs i hvsr l hl
          ·cases h2
        ·cases h
       ·cases h
      ·cases h
   ·cases h
end
end Go.Am
