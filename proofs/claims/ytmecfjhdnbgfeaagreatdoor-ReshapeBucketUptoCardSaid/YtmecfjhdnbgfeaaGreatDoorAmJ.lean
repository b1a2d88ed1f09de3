/- The abstract machine, part 8: names are changed, slots are forgotten, rows become plain data.
The abstract machine,part 9:contracts of functions;calls. -/
import Derived.Test.YtmecfjhdnbgfeaaGreatDoorAmI
set_option linter.unusedVariables false
set_option linter.unusedSimpArgs false
namespace Go.Am
open Go.RowKit
mutual
def AV.ren (ρ:Nat→Option Nat):AV→AV
 | .dat T d=> .dat T d
 | .agg T vs=> .agg T (AV.renL ρ vs)
 |  .row l=>match ρ l with
    |some k=> .row k
    |none=> .dead
 |  .ptr l p o=>match ρ l with
    |some k=> .ptr k p o
    |none=> .dead
 |  .eptr l i z p o=>match ρ l with
    |some k=> .eptr k i z p o
    |none=> .dead
 | .rptr T d=> .rptr T d
 | .fn f caps=> .fn f (AV.renL ρ caps)
 | .tup vs=> .tup (AV.renL ρ vs)
 | .nils T=> .nils T
 | .nif b=> .nif b
 | .ifc T v=> .ifc T (AV.ren ρ v)
 | .dead=> .dead
def AV.renL (ρ:Nat→Option Nat):List AV→List AV
 | []=>[]
 |v::r=>AV.ren ρ v::AV.renL ρ r
end
def Ob.ren (ρ:Nat→Option Nat):Ob→Ob
 | .box T c=> .box T (c.ren ρ)
 | .row T es=> .row T es
 | .rowA T vs=> .rowA T (AV.renL ρ vs)
 | .frz T es=> .frz T es
 | .map T es=> .map T es
 | .gone=> .gone
 | .free=> .free
theorem Ob.ren_own (ρ:Nat→Option Nat) (o:Ob):(o.ren ρ).isOwn=o.isOwn:=by cases o<;>rfl
theorem AV.renL_len (ρ:Nat→Option Nat):∀vs:List AV,(AV.renL ρ vs).length=vs.length
 | []=>rfl
 |_::r=>by simp[AV.renL,AV.renL_len ρ r]
theorem AV.renL_get (ρ:Nat→Option Nat):∀(vs:List AV) (i:Nat),(AV.renL ρ vs)[i]? =(vs[i]?).map (AV.ren ρ)
 | [],i=>by simp[AV.renL]
 |v::r,0=>by simp[AV.renL]
 |v::r,i+1=>by simp[AV.renL,AV.renL_get ρ r i]
theorem aam (ρ:Nat→Option Nat):∀(vs:List AV) (i:Nat),tk (AV.renL ρ vs) i=(tk vs i).ren ρ
 | [],i=>by simp[AV.renL,tk,AV.ren]
 |v::r,0=>by simp[AV.renL,tk]
 |v::r,i+1=>by simp[AV.renL,tk,aam ρ r i]
section
variable {P:Program} {ok:Nat→Prop} {w:World} {β β':Nat→Option Value} {ρ:Nat→Option Nat} {v:AV} {cs:List Value} {z:Value}
def KU (ρ:Nat→Option Nat) (β β':Nat→Option Value):Prop:=∀l k z,ρ l=some k→β l=some z→β' k=some z
theorem AV.isAgg_ren_false (v:AV) (h:v.isAgg P=false):(v.ren ρ).isAgg P=false:=by
 cases v with
 |row l=>simp only[AV.ren];split<;>rfl
 |ptr l p o=>simp only[AV.ren];split<;>rfl
 |eptr l i z p o=>simp only[AV.ren];split<;>rfl
 |_=>exact h
theorem AV.isAgg_ren_true (v:AV) (h:v.isAgg P=true):(v.ren ρ).isAgg P=true:=by
 cases v with
 |dat=>exact h
 |agg=>exact h
 |_=>simp[AV.isAgg] at h
theorem RA.ren (hr:KU ρ β β') (h:RA P ok w β v cs):RA P ok w β' (v.ren ρ) cs:=by
 induction h with
 |dat h=>exact .dat h
 |agg hu hl hc h1 _ ih=>
  refine .agg hu (by rw[AV.renL_len];exact hl) hc h1 fun i f v hf hv=>?_
  rw[AV.renL_get] at hv
  simp only[Option.map_eq_some_iff] at hv
  obtain⟨v0,hv0,rfl⟩:=hv
  exact ih i f v0 hf hv0
 |row h h1=>
  simp only[AV.ren]
  split
  ·rename_i k e;exact .row (hr _ _ _ e h) h1
  ·exact .dead (by simpa using h1)
 |ptr h=>
  simp only[AV.ren]
  split
  ·rename_i k e;exact .ptr (hr _ _ _ e h)
  ·exact .dead (by simp[Value.oneCell'])
 |eptr h=>
  simp only[AV.ren]
  split
  ·rename_i k e;exact .eptr (hr _ _ _ e h)
  ·exact .dead (by simp[Value.oneCell'])
 |rptr ho hl hc h=>exact .rptr ho hl hc h
 |fn hl _ ih=>
  refine .fn (by rw[AV.renL_len];exact hl) fun i av hv=>?_
  rw[AV.renL_get] at hv
  simp only[Option.map_eq_some_iff] at hv
  obtain⟨v0,hv0,rfl⟩:=hv
  exact ih i v0 hv0
 |nils=>exact .nils
 |nif=>exact .nif
 |nni=>exact .nni
 | @ifc1 T v z hi _ ih=>exact .ifc1 (AV.isAgg_ren_false v hi) ih
 | @ifcA T v cs hi _ ih=>exact .ifcA (AV.isAgg_ren_true v hi) ih
 |dead h=>exact .dead h
theorem RV1.ren (hr:KU ρ β β') (h:RV1 P ok w β v z):RV1 P ok w β' (v.ren ρ) z:=by
 refine⟨fun hi=>?_,fun hi=>?_⟩
 ·cases hv:v.isAgg P with
  |true=>obtain⟨cs,e,q⟩:=h.1 hv;exact⟨cs,e,q.ren hr⟩
  |false=>rw[AV.isAgg_ren_false v hv] at hi;cases hi
 ·cases hv:v.isAgg P with
  |true=>rw[AV.isAgg_ren_true v hv] at hi;cases hi
  |false=>exact(h.2 hv).ren hr
theorem RV.ren (hr:KU ρ β β') (h:RV P ok w β v z):RV P ok w β' (v.ren ρ) z:=by
 cases v with
 |dead=>trivial
 |tup vs=>
  obtain⟨arr,e,hs,h⟩:=h
  refine⟨arr,e,by rw[AV.renL_len];exact hs,fun i av hv=>?_⟩
  rw[AV.renL_get] at hv
  simp only[Option.map_eq_some_iff] at hv
  obtain⟨v0,hv0,rfl⟩:=hv
  exact(h i v0 hv0).ren hr
 |row l=>
  refine RV1.toRV (RV1.ren hr h) fun us=>?_
  simp only[AV.ren];split<;>simp
 |ptr l p o=>
  refine RV1.toRV (RV1.ren hr h) fun us=>?_
  simp only[AV.ren];split<;>simp
 |eptr l i z p o=>
  refine RV1.toRV (RV1.ren hr h) fun us=>?_
  simp only[AV.ren];split<;>simp
 |dat T d=>exact RV1.ren hr h
 |agg T d=>exact RV1.ren hr h
 |rptr T d=>exact RV1.ren hr h
 |fn T d=>exact RV1.ren hr h
 |nils T=>exact RV1.ren hr h
 |nif b=>exact RV1.ren hr h
 |ifc T v=>exact RV1.ren hr h
theorem ObOK.ren {o:Ob} {x:Option Value} (hr:KU ρ β β') (h:ObOK P ok w β o x):ObOK P ok w β' (o.ren ρ) x:=by
 cases o with
 |box T c=>obtain⟨b,cs,h1,h2,h3,h4⟩:=h;exact⟨b,cs,h1,h2,h3,h4.ren hr⟩
 |row E es=>exact h
 |rowA E vs=>
  obtain⟨E',z,xs,h1,h2,h3,h4,h5⟩:=h
  refine⟨E',z,xs,h1,h2,by rw[AV.renL_len];exact h3,h4,fun i u hu=>?_⟩
  rw[AV.renL_get] at hu
  obtain⟨v,hv,rfl⟩:=Option.map_eq_some_iff.1 hu
  exact(h5 i v hv).ren hr
 |frz E es=>exact h
 |map E es=>exact h
 |gone=>exact h
 |free=>exact h
end
def ix:List Nat→Nat→Option Nat
 | [],_=>none
 |a::r,l=>bif Nat.beq a l then some 0 else(ix r l).map (· +1)
theorem aee:∀{src:List Nat} {l k:Nat},ix src l=some k→src[k]? =some l
 | [],_,_,h=>by simp[ix] at h
 |a::r,l,k,h=>by
  simp only[ix] at h
  cases hb:Nat.beq a l with
  |true=>
   rw[hb] at h
   have:=Nat.eq_of_beq_eq_true hb
   subst this
   simp only[cond_true,Option.some.injEq] at h
   subst h;rfl
  |false=>
   rw[hb] at h
   simp only[cond_false,Option.map_eq_some_iff] at h
   obtain⟨k',h1,rfl⟩:=h
   simpa using aee h1
def nL:Nat→List Nat→Bool
 |_,[]=>false
 |a,b::r=>Nat.beq a b||nL a r
theorem yx {a:Nat}:∀{l:List Nat},nL a l=true↔a∈l
 | []=>by simp[nL]
 |b::r=>by simp[nL,yx (l:=r),Nat.beq_eq]
theorem EM {a:Nat} {l:List Nat} (h:nL a l=false):a∉l:=fun hm=>by rw[yx.2 hm] at h;cases h
def nodupB:List Nat→Bool
 | []=>true
 |a::r=>!nL a r&&nodupB r
theorem ou:∀{l:List Nat},nodupB l=true→l.Nodup
 | [],_=>List.nodup_nil
 |a::r,h=>by
  simp only[nodupB,Bool.and_eq_true,Bool.not_eq_true'] at h
  exact List.nodup_cons.2 ⟨EM h.1,ou h.2⟩
def sP (ρ:Nat→Option Nat) (hs:List Ob):List Nat→List Ob
 | []=>[]
 |l::r=>(lk hs l).ren ρ::sP ρ hs r
def KV (ρ:Nat→Option Nat) (hs:List Ob):Option Nat→Ob
 |some l=>(lk hs l).ren ρ
 |none=> .free
theorem Kv (ρ:Nat→Option Nat) (hs:List Ob):∀(src:List Nat) (k:Nat),lk (sP ρ hs src) k=KV ρ hs src[k]?
 | [],k=>by simp[sP,lk,KV]
 |l::r,0=>by simp[sP,lk,KV]
 |l::r,k+1=>by simp[sP,lk,Kv ρ hs r k]
def sQ (src:List Nat) (β:Nat→Option Value) (k:Nat):Option Value:=match src[k]? with
 |some l=>β l
 |none=>none
theorem zl (src:List Nat) (β:Nat→Option Value):KU (ix src) β (sQ src β):=fun l k z h1 h2=>by
 simp only[sQ,aee h1]
 exact h2
theorem yA {src:List Nat} {ρ:Nat→Option Nat} {hs:List Ob} {β:Nat→Option Value} {k b:Nat} (h:owns (sP ρ hs src) (sQ src β) k b):∃l,src[k]? =some l∧owns hs β l b:=by
 obtain⟨h1,z,h2,h3⟩:=h
 rw[Kv] at h1
 simp only[sQ] at h2
 cases hk:src[k]? with
 |none=>rw[hk] at h1;cases h1
 |some l=>
  rw[hk] at h1 h2
  simp only[KV,Ob.ren_own] at h1
  exact⟨l,rfl,h1,z,h2,h3⟩
section
variable {P:Program} {n:Nat} {σ τ:St} {K:OkX} {w0 w:World} {a:Act} {β:Nat→Option Value}
theorem RelB.relabel (r:RelB P K w0 n σ a w β) (src:List Nat) (hnd:src.Nodup) (h0:∀i,i<σ.k0→src[i]? =some i) (ts':List AV) (ht:∀k,tk ts' k= .dead∨tk ts' k=(tk σ.ts k).ren (ix src)):
  RelB P K w0 n ⟨ts',sP (ix src) σ.hs src,σ.k0⟩ a w (sQ src β):=by
 have hk:∀b,okOf K w0 w σ.hs β b→okOf K w0 w (sP (ix src) σ.hs src) (sQ src β) b∧w.heap[b]? =w.heap[b]? :=by
  rintro b ⟨h1,h2,h3⟩
  refine⟨⟨h1,h2,fun k hk=>?_⟩,rfl⟩
  obtain⟨l,_,h5⟩:=yA hk
  exact h3 l h5
 refine⟨r.size,r.defers,r.below,fun k=>?_,fun k=>?_,fun k k' b h1 h2=>?_,fun k b h1=>?_,fun k hk0=>?_,r.kk,r.tab.mono hk⟩
 ·rcases ht k with e|e
  ·show RV P _ w _ (tk ts' k) _
   rw[e];trivial
  ·show RV P _ w _ (tk ts' k) _
   rw[e]
   exact RV.ren (zl src β) ((r.ts k).mono hk (Ext.refl _))
 ·show ObOK P _ w _ (lk (sP (ix src) σ.hs src) k) _
  rw[Kv]
  simp only[sQ]
  cases hs:src[k]? with
  |none=>rfl
  |some l=>exact ObOK.ren (zl src β) ((r.hs l).mono hk (fun _ _ _ _ _=>rfl) (Ext.refl _))
 ·obtain⟨l,e1,h3⟩:=yA h1
  obtain⟨l',e2,h4⟩:=yA h2
  have e:=r.sep l l' b h3 h4
  subst e
  have hlt:=(List.getElem?_eq_some_iff.1 e1).1
  exact(List.getElem?_inj hlt hnd).1 (e1.trans e2.symm)
 ·obtain⟨l,_,h3⟩:=yA h1
  exact r.own l b h3
 ·rw[r.kk] at hk0
  simp only[sQ,h0 k hk0]
  exact r.ext k (by rw[r.kk];exact hk0)
theorem Rel.congr (h1:∀k,tk τ.ts k= .dead∨tk τ.ts k=tk σ.ts k) (h2:∀l,lk τ.hs l=lk σ.hs l) (h3:τ.k0=σ.k0):Imp P n σ τ:=by
 rintro K w0 a w ⟨β,r⟩
 have ho:∀l b,owns τ.hs β l b↔owns σ.hs β l b:=fun l b=>by simp only[owns,h2]
 have hk:∀b,okOf K w0 w σ.hs β b→okOf K w0 w τ.hs β b∧w.heap[b]? =w.heap[b]? :=fun b hb=>⟨⟨hb.1,hb.2.1,fun l hl=>hb.2.2 l ((ho l b).1 hl)⟩,rfl⟩
 refine⟨β,r.size,r.defers,r.below,fun k=>?_,fun l=>?_,fun l l' b q1 q2=>r.sep l l' b ((ho _ _).1 q1) ((ho _ _).1 q2),fun l b q1=>r.own l b ((ho _ _).1 q1),r.ext,by rw[h3];exact r.kk,r.tab.mono hk⟩
 ·rcases h1 k with e|e
  ·rw[e];trivial
  ·rw[e];exact(r.ts k).mono hk (Ext.refl _)
 ·rw[h2];exact(r.hs l).mono hk (fun _ _ _ _ _=>rfl) (Ext.refl _)
def Oz:List Nat→Nat
 | []=>0
 |a::r=>bif Nat.blt a (Oz r) then Oz r else a+1
def Af (keep:List Nat) (b:Nat):List AV→Nat→List AV
 | [],_=>[]
 |v::r,k=>bif Nat.blt k b then(bif nL k keep then v else .dead)::Af keep b r (k+1) else[]
theorem aan (keep:List Nat) (b:Nat):∀(ts:List AV) (j k:Nat),tk (Af keep b ts j) k= .dead∨tk (Af keep b ts j) k=tk ts k
 | [],j,k=> .inl rfl
 |v::r,j,k=>by
  simp only[Af]
  cases Nat.blt j b with
  |false=>exact .inl rfl
  |true=>
   cases k with
   |    zero=>
        simp only[cond_true,tk]
        cases nL j keep with
        |true=>exact .inr rfl
        |false=>exact .inl rfl
   |succ k=>simpa [tk] using aan keep b r (j+1) k
def frz1 (hs:List Ob) (l:Nat):List Ob:=match lk hs l with
 | .row T es=>dX hs l (.frz T es)
 |_=>hs
def frzN (hs:List Ob):List Nat→List Ob
 | []=>hs
 |l::r=>frzN (frz1 hs l) r
theorem Imp.frz1 (l:Nat):Imp P n σ ⟨σ.ts,frz1 σ.hs l,σ.k0⟩:=by
 rintro K w0 a w ⟨β,r⟩
 unfold Am.frz1
 split
 ·rename_i T es hl;exact⟨β,r.frz hl⟩
 ·exact⟨β,r⟩
theorem Imp.frzN:∀(ls:List Nat) (σ:St),Imp P n σ ⟨σ.ts,frzN σ.hs ls,σ.k0⟩
 | [],σ=>Imp.refl
 |l::r,σ=>(Imp.frz1 l).trans (Imp.frzN r ⟨σ.ts,Am.frz1 σ.hs l,σ.k0⟩)
def gon1 (hs:List Ob) (l:Nat):List Ob:=match lk hs l with
 | .row _ _=>dX hs l .gone
 |_=>hs
def gonN (hs:List Ob):List Nat→List Ob
 | []=>hs
 |l::r=>gonN (gon1 hs l) r
theorem Imp.gon1 (l:Nat):Imp P n σ ⟨σ.ts,gon1 σ.hs l,σ.k0⟩:=by
 rintro K w0 a w ⟨β,r⟩
 unfold Am.gon1
 split
 ·rename_i T es hl;exact⟨β,r.drop l (by rw[hl];simp)⟩
 ·exact⟨β,r⟩
theorem Imp.gonN:∀(ls:List Nat) (σ:St),Imp P n σ ⟨σ.ts,gonN σ.hs ls,σ.k0⟩
 | [],σ=>Imp.refl
 |l::r,σ=>(Imp.gon1 l).trans (Imp.gonN r ⟨σ.ts,Am.gon1 σ.hs l,σ.k0⟩)
theorem RelB.nilrow (r:RelB P K w0 n σ a w β) {l:Nat} {T E:TypeId} (hu:P.underlying T=some (.slice E)) (hf:lk σ.hs l= .free) (hk0:σ.k0≤l):RelB P K w0 n (σ.lay l (.row T [])) a w (upB β l (some (.slice none 0 0))):=by
 have hfree:=r.hs l
 rw[hf] at hfree
 exact r.upd l (.row T []) (some (.slice none 0 0)) w (.inr ⟨hfree,hk0⟩) rfl rfl rfl (Nat.le_refl _) (fun _ _ _=>rfl) (fun z b _ hz hb=>by cases hz;simp[blk] at hb) fun _ _=>⟨E,_,[],rfl,hu,World.ownsRow_nil _ _ _ _,fun c hc=>by simp at hc,fun i d hd=>by simp at hd⟩
mutual
def AV.n2r (P:Program):AV→Nat→AV×List TypeId
 |  .nils T,k=>match P.underlying T with
    |some (.slice _)=>(.row k,[T])
    |_=>(.nils T,[])
 | .agg T vs,k=>let r:=AV.n2rL P vs k;(.agg T r.1,r.2)
 |v,_=>(v,[])
def AV.n2rL (P:Program):List AV→Nat→List AV×List TypeId
 | [],_=>([],[])
 |v::vs,k=>let r:=AV.n2r P v k;let q:=AV.n2rL P vs (k+r.2.length);(r.1::q.1,r.2++q.2)
end
def zV (hs:List Ob) (k:Nat):List TypeId→List Ob
 | []=>hs
 |T::r=>zV (dX hs k (.row T [])) (k+1) r
def Gq (β:Nat→Option Value) (k m:Nat):Prop:=∀i,k≤i→i<k+m→β i=some (.slice none 0 0)
theorem Gq.left {β:Nat→Option Value} {k m q:Nat} (h:Gq β k (m+q)):Gq β k m:=fun i h1 h2=>h i h1 (by omega)
theorem Gq.right {β:Nat→Option Value} {k m q:Nat} (h:Gq β k (m+q)):Gq β (k+m) q:=fun i h1 h2=>h i (by omega) (by omega)
theorem UR (P:Program):∀(vs:List AV) (k i:Nat) (u:AV),(AV.n2rL P vs k).1[i]? =some u→∃v j,vs[i]? =some v∧u=(AV.n2r P v j).1∧∀β:Nat→Option Value,Gq β k (AV.n2rL P vs k).2.length→Gq β j (AV.n2r P v j).2.length
 | [],k,i,u,h=>by simp[AV.n2rL] at h
 |v::vs,k,0,u,h=>by
  simp only[AV.n2rL,List.getElem?_cons_zero,Option.some.injEq] at h
  exact⟨v,k,rfl,h.symm,fun β hb=>by simp only[AV.n2rL,List.length_append] at hb;exact hb.left⟩
 |v::vs,k,i+1,u,h=>by
  simp only[AV.n2rL,List.getElem?_cons_succ] at h
  obtain⟨v',j,h1,h2,h3⟩:=UR P vs _ i u h
  exact⟨v',j,by simpa using h1,h2,fun β hb=>h3 β (by simp only[AV.n2rL,List.length_append] at hb;exact hb.right)⟩
theorem UU (P:Program):∀(vs:List AV) (k:Nat),(AV.n2rL P vs k).1.length=vs.length
 | [],k=>rfl
 |v::vs,k=>by simp[AV.n2rL,UU P vs]
theorem RA.n2r {ok:Nat→Prop} {w:World} {β:Nat→Option Value} {v:AV} {cs:List Value} (h:RA P ok w β v cs):∀k,Gq β k (AV.n2r P v k).2.length→RA P ok w β (AV.n2r P v k).1 cs:=by
 induction h with
 |nils=>
  intro k hb
  simp only[AV.n2r] at hb ⊢
  split at hb
  ·exact .row (hb k (Nat.le_refl _) (by simp)) rfl
  ·exact .nils
 |agg hu hl hc h1 _ ih=>
  intro k hb
  simp only[AV.n2r] at hb ⊢
  refine .agg hu (by rw[UU];exact hl) hc h1 fun i f u hf hu2=>?_
  obtain⟨v,j,q1,q2,q3⟩:=UR P _ k i u hu2
  subst q2
  exact ih i f v hf q1 j (q3 β hb)
 |dat h=>intro k hb;exact .dat h
 |nif=>intro k hb;exact .nif
 |nni=>intro k hb;exact .nni
 |row h h1=>intro k hb;exact .row h h1
 |ptr h=>intro k hb;exact .ptr h
 |eptr h=>intro k hb;exact .eptr h
 |rptr h1 h2 h3 h4=>intro k hb;exact .rptr h1 h2 h3 h4
 |fn h1 h2=>intro k hb;exact .fn h1 h2
 |ifc1 h1 h2=>intro k hb;exact .ifc1 h1 h2
 |ifcA h1 h2=>intro k hb;exact .ifcA h1 h2
 |dead h=>intro k hb;exact .dead h
theorem aao (v:AV) (k:Nat):(AV.n2r P v k).1.isAgg P=v.isAgg P:=by
 cases v with
 |nils T=>simp only[AV.n2r];split<;>rfl
 |agg T vs=>rfl
 |_=>rfl
theorem ai1 {v:AV} {k:Nat} {us:List AV} (h:(AV.n2r P v k).1= .tup us):v= .tup us:=by
 cases v with
 |nils T=>simp only[AV.n2r] at h;split at h<;>cases h
 |agg T vs=>simp[AV.n2r] at h
 |tup vs=>simpa [AV.n2r] using h
 |_=>simp[AV.n2r] at h
theorem RV.n2r {ok:Nat→Prop} {w:World} {β:Nat→Option Value} {v:AV} {z:Value} (h:RV P ok w β v z) (k:Nat) (hb:Gq β k (AV.n2r P v k).2.length):RV P ok w β (AV.n2r P v k).1 z:=by
 by_cases hd:v= .dead
 ·subst hd;trivial
 ·by_cases ht:∃us,v= .tup us
  ·obtain⟨us,rfl⟩:=ht
   exact h
  ·have h1:=RV.to1 hd (fun us e=>ht ⟨us,e⟩) h
   refine RV1.toRV ⟨fun hi=>?_,fun hi=>?_⟩ fun us e=>ht ⟨us,ai1 e⟩
   ·    rw[aao] at hi
        obtain⟨cs,e,q⟩:=h1.1 hi
        exact⟨cs,e,q.n2r k hb⟩
   ·    rw[aao] at hi
        exact(h1.2 hi).n2r k hb
theorem X9 (P:Program) (v:AV) (k:Nat):∀T∈(AV.n2r P v k).2,∃E,P.underlying T=some (.slice E):=by
 refine AV.rec (motive_1:=fun v=>∀k,∀T∈(AV.n2r P v k).2,∃E,P.underlying T=some (.slice E)) (motive_2:=fun vs=>∀k,∀T∈(AV.n2rL P vs k).2,∃E,P.underlying T=some (.slice E)) ?_ ?_ ?_ ?_ ?_ ?_ ?_ ?_ ?_ ?_ ?_ ?_ ?_ ?_ v k
 ·intro T d k T' h;simp[AV.n2r] at h
 ·intro T vs ih k T' h;exact ih k T' h
 ·intro l k T' h;simp[AV.n2r] at h
 ·intro l p o k T' h;simp[AV.n2r] at h
 ·intro l i z p o k T' h;simp[AV.n2r] at h
 ·intro T d k T' h;simp[AV.n2r] at h
 ·intro f c _ k T' h;simp[AV.n2r] at h
 ·intro vs _ k T' h;simp[AV.n2r] at h
 ·intro T k T' h
  simp only[AV.n2r] at h
  split at h
  ·rename_i E hu
   simp only[List.mem_singleton] at h
   subst h
   exact⟨E,hu⟩
  ·simp at h
 ·intro b k T' h;simp[AV.n2r] at h
 ·intro T v _ k T' h;simp[AV.n2r] at h
 ·intro k T' h;simp[AV.n2r] at h
 ·intro k T' h;simp[AV.n2rL] at h
 ·intro v vs h1 h2 k T' h
  simp only[AV.n2rL,List.mem_append] at h
  rcases h with h|h
  ·exact h1 _ T' h
  ·exact h2 _ T' h
theorem RS (hs:List Ob):∀(Ts:List TypeId) (σ:St) (K:OkX) (w0 w:World) (a:Act) (β:Nat→Option Value) (k:Nat),RelB P K w0 n σ a w β→(∀T∈Ts,∃E,P.underlying T=some (.slice E))→(∀i,k≤i→lk σ.hs i= .free)→σ.k0≤k→
  ∃β',RelB P K w0 n ⟨σ.ts,zV σ.hs k Ts,σ.k0⟩ a w β'∧Ext β β'∧Gq β' k Ts.length
 | [],σ,K,w0,w,a,β,k,r,_,_,_=>⟨β,r,Ext.refl _,fun i h1 h2=>by simp at h2;omega⟩
 |T::Ts,σ,K,w0,w,a,β,k,r,hT,hf,hk=>by
  obtain⟨E,hu⟩:=hT T (by simp)
  have hfk:=hf k (Nat.le_refl _)
  have r1:=r.nilrow hu hfk hk
  obtain⟨β',r2,e2,n2⟩:=RS hs Ts (σ.lay k (.row T [])) K w0 w a _ (k+1) r1 (fun T' h=>hT T' (by simp[h])) (fun i hi=>by
   show lk (dX σ.hs k _) i= .free
   rw[bX _ _ _ _ (by omega)];exact hf i (by omega)) (by show σ.k0≤k+1;omega)
  have hb:β k=none:=by have:=r.hs k;rw[hfk] at this;exact this
  have e1:Ext β (upB β k (some (.slice none 0 0))):=fun i z hz=>by
   by_cases hik:i=k
   ·subst hik;rw[hb] at hz;cases hz
   ·rw[iQ _ _ _ _ hik];exact hz
  refine⟨β',r2,e1.trans e2,fun i h1 h2=>?_⟩
  by_cases hik:i=k
  ·subst hik;exact e2 _ _ (dP _ _ _)
  ·exact n2 i (by omega) (by simp at h2 ⊢;omega)
theorem pQ:∀(hs:List Ob) (i:Nat),hs.length≤i→lk hs i= .free
 | [],_,_=>rfl
 |_::r,0,h=>by simp at h
 |_::r,i+1,h=>by simp only[lk];exact pQ r i (by simpa using h)
def nilSlot (P:Program) (σ:St) (s:Nat):St:=
 let r:=AV.n2r P (tk σ.ts s) σ.hs.length
 match r.2 with
 | []=>σ
 |_::_=>bif Nat.ble σ.k0 σ.hs.length then⟨yB σ.ts s r.1,zV σ.hs σ.hs.length r.2,σ.k0⟩ else σ
theorem Imp.nilSlot (s:Nat):Imp P n σ (nilSlot P σ s):=by
 rintro K w0 a w ⟨β,r⟩
 unfold Am.nilSlot
 simp only
 split
 ·exact⟨β,r⟩
 ·rename_i x y hxy
  cases hb:Nat.ble σ.k0 σ.hs.length with
  |false=>exact⟨β,r⟩
  |true=>
   obtain⟨β',r2,e2,n2⟩:=RS σ.hs _ σ K w0 w a β σ.hs.length r (X9 P (tk σ.ts s) σ.hs.length) (fun i hi=>pQ _ _ hi) (Nat.le_of_ble_eq_true hb)
   refine⟨β',r2.size,r2.defers,r2.below,fun k=>?_,r2.hs,r2.sep,r2.own,r2.ext,r2.kk,r2.tab⟩
   show RV P _ w β' (tk (yB σ.ts s _) k) _
   rw[uU]
   by_cases hk:k=s
   ·subst hk;rw[if_pos rfl];exact(r2.ts k).n2r _ n2
   ·rw[if_neg hk];exact r2.ts k
def nilBox (P:Program) (σ:St) (b:Nat):St:=
 match lk σ.hs b with
 |  .box T c=>
    let r:=AV.n2r P c σ.hs.length
    match r.2 with
    | []=>σ
    |_::_=>bif Nat.ble σ.k0 σ.hs.length then⟨σ.ts,dX (zV σ.hs σ.hs.length r.2) b (.box T r.1),σ.k0⟩ else σ
 |_=>σ
theorem aap:∀(Ts:List TypeId) (hs:List Ob) (k i:Nat),i<k→lk (zV hs k Ts) i=lk hs i
 | [],hs,k,i,h=>rfl
 |T::Ts,hs,k,i,h=>by rw[zV,aap Ts _ (k+1) i (by omega),bX _ _ _ _ (by omega)]
theorem Imp.nilBox (b:Nat):Imp P n σ (nilBox P σ b):=by
 rintro K w0 a w ⟨β,r⟩
 unfold Am.nilBox
 split
 ·rename_i T c hl
  simp only
  split
  ·exact⟨β,r⟩
  ·rename_i x y hxy
   cases hb:Nat.ble σ.k0 σ.hs.length with
   |false=>exact⟨β,r⟩
   |    true=>
        obtain⟨β',r2,e2,n2⟩:=RS σ.hs _ σ K w0 w a β σ.hs.length r (X9 P c σ.hs.length) (fun i hi=>pQ _ _ hi) (Nat.le_of_ble_eq_true hb)
        have hlt:b<σ.hs.length:=by
         rcases Nat.lt_or_ge b σ.hs.length with h|h
         ·exact h
         ·rw[pQ _ _ h] at hl;cases hl
        have hl2:lk (zV σ.hs σ.hs.length (AV.n2r P c σ.hs.length).2) b= .box T c:=by rw[aap _ _ _ _ hlt];exact hl
        refine⟨_,r2.upd b (.box T (AV.n2r P c σ.hs.length).1) (β' b) w (.inl rfl) rfl rfl rfl (Nat.le_refl _) (fun _ _ _=>rfl) (fun z b2 _ hz hb2=> .inr ⟨by show (lk (zV _ _ _) b).isOwn=true;rw[hl2];rfl,z,hz,hb2⟩) fun hx hk=>?_⟩
        have hob:=r2.hs b
        have hl3:lk (St.mk σ.ts (zV σ.hs σ.hs.length (AV.n2r P c σ.hs.length).2) σ.k0).hs b= .box T c:=hl2
        rw[hl3] at hob
        obtain⟨g,cs,h1,h3,h4,h5⟩:=hob
        exact⟨g,cs,h1,h3,h4,(h5.n2r _ n2).mono hk hx⟩
 ·exact⟨β,r⟩
end
end Go.Am
namespace Go.Am
open Go.RowKit
inductive RVsX (P:Program) (ok:Nat→Prop) (w:World) (β:Nat→Option Value):List AV→List Value→Prop where
 |nil:RVsX P ok w β [] []
 |cons {v:AV} {x:Value} {vs:List AV} {xs:List Value} (h:RV P ok w β v x) (r:RVsX P ok w β vs xs):RVsX P ok w β (v::vs) (x::xs)
def XO (hs:List Ob) (β:Nat→Option Value) (b:Nat):Prop:=∃l,owns hs β l b
structure FinX (P:Program) (ok:Nat→Prop) (w w':World) (β β':Nat→Option Value) (hs hs':List Ob):Prop where
 below:BelowX (XO hs β) w w'
 obs:∀l,ObOK P (okOf ⟨ok,XO hs β,β,hs.length⟩ w w' hs' β') w' β' (lk hs' l) (β' l)
 sep:∀l l' b,owns hs' β' l b→owns hs' β' l' b→l=l'
 own:∀l b,owns hs' β' l b→w.heap.size≤b∨XO hs β b
 ext:∀l,l<hs.length→β' l=β l
def FX (P:Program) (f:FuncId) (args:List AV) (hs:List Ob) (res:AV) (hs':List Ob):Prop:=
 ∀  (ok:Nat→Prop) (w:World) (β:Nat→Option Value) (vs:List Value),
    (∀b,ok b→b<w.heap.size∧¬XO hs β b)→
    (∀l,ObOK P ok w β (lk hs l) (β l))→
    (∀l l' b,owns hs β l b→owns hs β l' b→l=l')→
    RVsX P ok w β args vs→
    TabOK ok w→
    Calls P f vs.toArray w fun e w'=>∃v β',e= .returned v∧FinX P ok w w' β β' hs hs'∧RV P (okOf ⟨ok,XO hs β,β,hs.length⟩ w w' hs' β') w' β' res v
def Qc (P:Program) (T:TypeId):Bool:=match P.underlying T with
 |some (.interface _)=>false
 |some (.pointer _)=>false
 |some _=>true
 |none=>false
def aaq (P:Program) (T:TypeId) (name:String):Option FuncId:=bif Qc P T then(match P.info? T with
 |  some i=>match i.methods.find? (·.name==name) with
    |some m=>match m.path.toList with
     | []=>match m.func with
       |some (f,false)=>some f
       |_=>none
     |_=>none
    |none=>none
 |none=>none) else none
section
variable {P:Program} {n:Nat} {o:Oper} {σ τ:St} {x y:Operand} {v res:AV} {T:TypeId} {ok:Nat→Prop} {w w0:World} {β β':Nat→Option Value} {K:OkX} {a:Act}
theorem RVsX.len {vs:List AV} {xs:List Value} (h:RVsX P ok w β vs xs):xs.length=vs.length:=by
 induction h with
 |nil=>rfl
 |cons _ _ ih=>simp[ih]
theorem RVsX.get {vs:List AV} {xs:List Value} (h:RVsX P ok w β vs xs):∀(i:Nat) (v:AV),vs[i]? =some v→∃x,xs[i]? =some x∧RV P ok w β v x:=by
 induction h with
 |nil=>intro i v hv;simp at hv
 | @cons v x vs xs h _ ih=>
   intro i v' hv
   cases i with
   |zero=>simp only[List.getElem?_cons_zero,Option.some.injEq] at hv;subst hv;exact⟨x,rfl,h⟩
   |succ i=>simp only[List.getElem?_cons_succ] at hv;obtain⟨x',h1,h2⟩:=ih i v' hv;exact⟨x',by simpa using h1,h2⟩
theorem RVsX.tk {vs:List AV} {xs:List Value} (h:RVsX P ok w β vs xs) (k:Nat):RV P ok w β (tk vs k) (xs.getD k undef):=by
 induction h generalizing k with
 |nil=>exact trivial
 |cons h _ ih=>
  cases k with
  |zero=>exact h
  |succ k=>simpa [Am.tk] using ih k
theorem RVsX.app {vs us:List AV} {xs ys:List Value} (h:RVsX P ok w β vs xs) (h2:RVsX P ok w β us ys):RVsX P ok w β (vs++us) (xs++ys):=by
 induction h with
 |nil=>exact h2
 |cons h _ ih=>exact .cons h ih
theorem RVsX.ren {ρ:Nat→Option Nat} {vs:List AV} {xs:List Value} (hr:KU ρ β β') (h:RVsX P ok w β vs xs):RVsX P ok w β' (AV.renL ρ vs) xs:=by
 induction h with
 |nil=>exact .nil
 |cons h _ ih=>exact .cons (h.ren hr) ih
theorem RVsX.of_get:∀{vs:List AV} {xs:List Value},xs.length=vs.length→(∀(i:Nat) (v:AV),vs[i]? =some v→RV P ok w β v (xs.getD i undef))→RVsX P ok w β vs xs
 | [],[],_,_=> .nil
 |v::vs,x::xs,hl,h=> .cons (by simpa using h 0 v rfl) (RVsX.of_get (by simpa using hl) fun i v' hv=>by simpa using h (i+1) v' (by simpa using hv))
structure HasBody (P:Program) (f:FuncId):Prop where
 ex:∃fn,P.funcs[f]? =some fn∧fn.body.isNone=false∧(fn.name== "runtime.NumGoroutine")=false
theorem EN {f:FuncId} (hb:HasBody P f) (w:World) (args:Array Value):(callFunc f args).run P w= .ok (.enter f args) w:=by
 obtain⟨fn,h1,h2,h3⟩:=hb.ex
 simp only[callFunc,Sem.run_bind,program]
 simp only[Sem.run,Result.andThen_ok,h1,h3,h2,Bool.false_eq_true,if_false,Sem.run_pure]
theorem Qd {xs:List Operand} {ts:Array TypeId} {g:Operand} {f:FuncId} {cv:Array Value} (ho:o.op= .call {callee:= .value g,args:=xs.toArray,argTypes:=ts}) (hb:HasBody P f) (a:Act) (w:World) (hg:a.eval g= .func (.func f) #[] cv):
  (execOp a.eval o).run P w= .ok (.enter f (xs.map a.eval++cv.toList).toArray) w:=by
 simp only[execOp,ho,resolve,Sem.run_bind,Deferred.ofValue,hg,Sem.run_pure,Result.andThen_ok,invoke,Array.empty_append,List.map_toArray,EN hb]
 congr 2
 apply Array.ext'
 simp
theorem UW {f:FuncId} {caps:List AV} {z:Value} (h:RV P ok w β (.fn f caps) z) (hc:∀v∈caps,v.isAgg P=false∧∀us,v≠ .tup us):∃cv:Array Value,z= .func (.func f) #[] cv∧RVsX P ok w β caps cv.toList:=by
 have h':=h.2 rfl
 cases h' with
 | @fn _ _ cv hl hr=>
   refine⟨cv,rfl,RVsX.of_get (by simpa using hl) fun i v hv=>?_⟩
   have hm:=hc v (List.mem_of_getElem? hv)
   have hri:=hr i v hv
   have e:cv.toList.getD i undef=cv.getD i undef:=by simp[List.getD,Array.getD_eq_getD_getElem?]
   rw[e]
   exact RV1.toRV ⟨(fun hi=>by rw[hm.1] at hi;cases hi),fun _=>hri⟩ hm.2
inductive EvXs (P:Program) (σ:St):List Operand→List AV→Prop where
 |nil:EvXs P σ [] []
 |cons {x:Operand} {v:AV} {xs:List Operand} {vs:List AV} (h:Ev P σ x v) (r:EvXs P σ xs vs):EvXs P σ (x::xs) (v::vs)
theorem EvXs.rvs {xs:List Operand} {vs:List AV} (h:EvXs P σ xs vs) (r:RelB P K w0 n σ a w β):RVsX P (okOf K w0 w σ.hs β) w β vs (xs.map a.eval):=by
 induction h with
 |nil=>exact .nil
 |cons h _ ih=>exact .cons (h _ _ _ _ _ _ r) ih
def bkN (src:List Nat) (nm j:Nat):Option Nat:=match src[j]? with
 |some l=>some l
 |none=>some (nm+(j-src.length))
def bkB (src:List Nat) (nm m:Nat) (β β':Nat→Option Value) (c:Nat):Option Value:=if nm≤c∧c<nm+m then β' (src.length+(c-nm)) else β c
structure BackH (src:List Nat) (nm:Nat) (hs objs' hs'':List Ob):Prop where
 old:∀i l,src[i]? =some l→lk hs'' l=(lk objs' i).ren (bkN src nm)
 new:∀j,src.length≤j→j<objs'.length→lk hs'' (nm+(j-src.length))=(lk objs' j).ren (bkN src nm)
 rest:∀c,c∉src→¬(nm≤c∧c<nm+(objs'.length-src.length))→lk hs'' c=lk hs c
theorem acS {src:List Nat} {nm:Nat} {objs objs' hs'':List Ob} (r:RelB P K w0 n σ a w β) (hnd:src.Nodup) (hol:objs.length=src.length) (hobj:∀i l,src[i]? =some l→lk objs i=(lk σ.hs l).ren (ix src))
  (hfree:∀j,j<objs'.length-src.length→lk σ.hs (nm+j)= .free) (hk0:σ.k0≤nm) (hsf:∀l∈src,lk σ.hs l≠ .free) (hback:BackH src nm σ.hs objs' hs'') {w':World} {β':Nat→Option Value}
  (fin:FinX P (okOf K w0 w σ.hs β) w w' (sQ src β) β' objs objs') {z:Value} (hz:RV P (okOf ⟨okOf K w0 w σ.hs β,XO objs (sQ src β),sQ src β,objs.length⟩ w w' objs' β') w' β' res z):
  ∃β'',RelB P K w0 n ⟨σ.ts,hs'',σ.k0⟩ a w' β''∧RV P (okOf K w0 w' hs'' β'') w' β'' (res.ren (bkN src nm)) z:=by
 have hβnew:∀j,j<objs'.length-src.length→β (nm+j)=none:=fun j hj=>by
  have:=r.hs (nm+j)
  rw[hfree j hj] at this
  exact this
 have hsrcnew:∀l∈src,¬(nm≤l∧l<nm+(objs'.length-src.length)):=fun l hl hc=>hsf l hl (by
  have:=hfree (l-nm) (by omega)
  rwa [show nm+(l-nm)=l by omega] at this)
 have hob:∀i l,src[i]? =some l→β' i=β l:=fun i l hi=>by
  have hlt:=(List.getElem?_eq_some_iff.1 hi).1
  rw[fin.ext i (by omega)]
  simp only[sQ,hi]
 have hext:Ext β (bkB src nm (objs'.length-src.length) β β'):=fun l z' hl=>by
  unfold bkB
  split
  ·rename_i hc
   have:=hβnew (l-nm) (by omega)
   rw[show nm+(l-nm)=l by omega,hl] at this
   cases this
  ·exact hl
 have hren:KU (bkN src nm) β' (bkB src nm (objs'.length-src.length) β β'):=fun j c z' hj hz'=>by
  unfold bkN at hj
  split at hj
  ·rename_i l hl
   cases hj
   rw[hob j c hl] at hz'
   exact hext _ _ hz'
  ·rename_i hl
   cases hj
   have hjl:src.length≤j:=List.getElem?_eq_none_iff.1 hl
   have hj2:j<objs'.length:=by
        rcases Nat.lt_or_ge j objs'.length with h|h
        ·exact h
        ·have:=fin.obs j
         rw[pQ _ _ h] at this
         have e:β' j=none:=this
         rw[e] at hz';cases hz'
   unfold bkB
   rw[if_pos (by omega),show src.length+(nm+(j-src.length)-nm)=j by omega]
   exact hz'
 have hXO:∀b,XO objs (sQ src β) b→∃l,l∈src∧owns σ.hs β l b:=by
  rintro b ⟨i,h1,z',h2,h3⟩
  simp only[sQ] at h2
  cases hs:src[i]? with
  |none=>rw[hs] at h2;cases h2
  |some l=>
   rw[hs] at h2
   rw[hobj i l hs,Ob.ren_own] at h1
   exact⟨l,List.mem_of_getElem? hs,h1,z',h2,h3⟩
 have hcls:∀c b,owns hs'' (bkB src nm (objs'.length-src.length) β β') c b→(∃j,bkN src nm j=some c∧owns objs' β' j b)∨(c∉src∧owns σ.hs β c b):=by
  rintro c b ⟨h1,z',h2,h3⟩
  by_cases hc:nm≤c∧c<nm+(objs'.length-src.length)
  ·left
   unfold bkB at h2
   rw[if_pos hc] at h2
   have hnw:=hback.new (src.length+(c-nm)) (by omega) (by omega)
   rw[show nm+(src.length+(c-nm)-src.length)=c by omega] at hnw
   rw[hnw,Ob.ren_own] at h1
   refine⟨src.length+(c-nm),?_,h1,z',h2,h3⟩
   unfold bkN
   rw[List.getElem?_eq_none (by omega)]
   simp only
   congr 1
   omega
  ·unfold bkB at h2
   rw[if_neg hc] at h2
   by_cases hm:c∈src
   ·    left
        obtain⟨i,hi⟩:=List.getElem?_of_mem hm
        rw[hback.old i c hi,Ob.ren_own] at h1
        exact⟨i,by unfold bkN;rw[hi],h1,z',by rw[hob i c hi];exact h2,h3⟩
   ·    right
        rw[hback.rest c hm hc] at h1
        exact⟨hm,h1,z',h2,h3⟩
 have hunch:∀b,b<w.heap.size→¬XO objs (sQ src β) b→w'.heap[b]? =w.heap[b]? :=fun b h1 h2=>fin.below.block b h1 h2
 have hnXO:∀b,okOf K w0 w σ.hs β b→¬XO objs (sQ src β) b:=fun b hb hx=>by
  obtain⟨l,_,hl⟩:=hXO b hx
  exact hb.2.2 l hl
 have hk:∀b,okOf K w0 w σ.hs β b→okOf K w0 w' hs'' (bkB src nm (objs'.length-src.length) β β') b∧w'.heap[b]? =w.heap[b]? :=by
  intro b hb
  refine⟨⟨Nat.lt_of_lt_of_le hb.1 fin.below.size,hb.2.1,fun c hc=>?_⟩,hunch b hb.1 (hnXO b hb)⟩
  rcases hcls c b hc with⟨j,_,hj⟩| ⟨_,hc2⟩
  ·rcases fin.own j b hj with h1|h1
   ·have:=hb.1;omega
   ·exact hnXO b hb h1
  ·exact hb.2.2 c hc2
 have hk2:∀b,okOf ⟨okOf K w0 w σ.hs β,XO objs (sQ src β),sQ src β,objs.length⟩ w w' objs' β' b→okOf K w0 w' hs'' (bkB src nm (objs'.length-src.length) β β') b∧w'.heap[b]? =w'.heap[b]? :=by
  rintro b ⟨h1,h2,h3⟩
  refine⟨⟨h1,fun hlt=>?_,fun c hc=>?_⟩,rfl⟩
  ·rcases h2 (Nat.lt_of_lt_of_le hlt r.below.size) with h4|h4
   ·exact h4.2.1 hlt
   ·    obtain⟨l,_,hl⟩:=hXO b h4
        rcases r.own l b hl with h5|h5
        ·omega
        ·exact .inr h5
  ·rcases hcls c b hc with⟨j,_,hj⟩| ⟨hm,hc2⟩
   ·exact h3 j hj
   ·    rcases h2 (r.blk_lt hc2) with h4|h4
        ·exact h4.2.2 c hc2
        ·obtain⟨l,hl1,hl⟩:=hXO b h4
         have:=r.sep c l b hc2 hl
         subst this
         exact hm hl1
 refine⟨_,⟨r.size,r.defers,?_,fun k=>(r.ts k).mono hk hext,fun c=>?_,fun c c' b h1 h2=>?_,fun c b h1=>?_,fun l hl=>?_,r.kk,r.tab.mono hk⟩,(hz.mono hk2 (Ext.refl _)).ren hren⟩
 ·refine⟨fin.below.os.trans r.below.os,fin.below.tape.trans r.below.tape,fin.below.output.trans r.below.output,Nat.le_trans r.below.size fin.below.size,fun b hb hx=>(hunch b (Nat.lt_of_lt_of_le hb r.below.size) fun h=>?_).trans (r.below.block b hb hx)⟩
  obtain⟨l,_,hl⟩:=hXO b h
  rcases r.own l b hl with h1|h1
  ·omega
  ·exact hx h1
 ·show ObOK P _ w' _ (lk hs'' c) _
  by_cases hc:nm≤c∧c<nm+(objs'.length-src.length)
  ·have hnw:=hback.new (src.length+(c-nm)) (by omega) (by omega)
   rw[show nm+(src.length+(c-nm)-src.length)=c by omega] at hnw
   rw[hnw]
   have e:bkB src nm (objs'.length-src.length) β β' c=β' (src.length+(c-nm)):=by unfold bkB;rw[if_pos hc]
   rw[e]
   exact ObOK.ren hren ((fin.obs _).mono hk2 (fun _ _ _ _ _=>rfl) (Ext.refl _))
  ·have e:bkB src nm (objs'.length-src.length) β β' c=β c:=by unfold bkB;rw[if_neg hc]
   rw[e]
   by_cases hm:c∈src
   ·    obtain⟨i,hi⟩:=List.getElem?_of_mem hm
        rw[hback.old i c hi,←hob i c hi]
        exact ObOK.ren hren ((fin.obs _).mono hk2 (fun _ _ _ _ _=>rfl) (Ext.refl _))
   ·    rw[hback.rest c hm hc]
        refine(r.hs c).mono hk (fun z' b h1 h2 h3=>hunch b (r.blk_lt ⟨h1,z',h2,h3⟩) fun hx=>?_) hext
        obtain⟨l,hl1,hl⟩:=hXO b hx
        have:=r.sep c l b ⟨h1,z',h2,h3⟩ hl
        subst this
        exact hm hl1
 ·have hinj:∀j j' c,bkN src nm j=some c→bkN src nm j'=some c→owns objs' β' j b→owns objs' β' j' b→True:=fun _ _ _ _ _ _ _=>trivial
  rcases hcls c b h1 with⟨j,e1,hj⟩| ⟨hm,hc2⟩
  ·rcases hcls c' b h2 with⟨j',e2,hj'⟩| ⟨hm',hc2'⟩
   ·    have:=fin.sep j j' b hj hj'
        subst this
        rw[e1] at e2;cases e2;rfl
   ·    exfalso
        rcases fin.own j b hj with h3|h3
        ·have:=r.blk_lt hc2';omega
        ·obtain⟨l,hl1,hl⟩:=hXO b h3
         have:=r.sep c' l b hc2' hl
         subst this
         exact hm' hl1
  ·rcases hcls c' b h2 with⟨j',e2,hj'⟩| ⟨hm',hc2'⟩
   ·    exfalso
        rcases fin.own j' b hj' with h3|h3
        ·have:=r.blk_lt hc2;omega
        ·obtain⟨l,hl1,hl⟩:=hXO b h3
         have:=r.sep c l b hc2 hl
         subst this
         exact hm hl1
   ·exact r.sep c c' b hc2 hc2'
 ·rcases hcls c b h1 with⟨j,_,hj⟩| ⟨_,hc2⟩
  ·rcases fin.own j b hj with h3|h3
   ·exact .inl (Nat.le_trans r.below.size h3)
   ·    obtain⟨l,_,hl⟩:=hXO b h3
        exact r.own l b hl
  ·exact r.own c b hc2
 ·have hlt:l<nm:=by have:=r.kk;omega
  unfold bkB
  rw[if_neg (by omega)]
  exact r.ext l hl
theorem KW {T:TypeId} (h:Qc P T=true):∃D,P.underlying T=some D∧(∀ms,D≠ .interface ms)∧∀e,D≠ .pointer e:=by
 unfold Qc at h
 cases hu:P.underlying T with
 |none=>rw[hu] at h;cases h
 |some D=>
  rw[hu] at h
  refine⟨D,rfl,?_,?_⟩<;>(intro q e;subst e;cases h)
theorem Ya {T:TypeId} {name:String} {f:FuncId} (hm:aaq P T name=some f) (k:Nat) (z:Value) (w:World):(method (k+1) T z name).run P w= .ok (f,z) w:=by
 unfold aaq at hm
 cases hc:Qc P T with
 |false=>rw[hc] at hm;cases hm
 |true=>
  rw[hc,cond_true] at hm
  obtain⟨D,hu,h1,h2⟩:=KW hc
  cases hi:P.info? T with
  |none=>rw[hi] at hm;cases hm
  |some i=>
   rw[hi] at hm
   simp only at hm
   cases hf:i.methods.find? (·.name==name) with
   |none=>rw[hf] at hm;cases hm
   |    some m=>
        rw[hf] at hm
        simp only at hm
        cases hp:m.path.toList with
        |cons a r=>rw[hp] at hm;cases hm
        |nil=>
         rw[hp] at hm
         simp only at hm
         cases hg:m.func with
         |none=>rw[hg] at hm;cases hm
         |some q=>
          obtain⟨f',b⟩:=q
          rw[hg] at hm
          cases b with
          |true=>cases hm
          | false=>
            cases hm
            have hti:(typeInfo T).run P w= .ok i w:=by
             unfold typeInfo
             rw[Sem.run_bind,show (program).run P w= .ok P w from rfl,Result.andThen_ok,hi]
             rfl
            unfold method
            rw[Sem.run_bind,hti,Result.andThen_ok,hf]
            simp only
            rw[hp,Sem.run_bind,show (follow [] T (.val z)).run P w= .ok (T,.val z) w from rfl,Result.andThen_ok]
            simp only[hg]
            rw[Sem.run_bind]
            unfold receiverAt
            rw[Sem.run_bind,run_underlying hu,Result.andThen_ok]
            cases D with
            |interface ms=>exact absurd rfl (h1 ms)
            |pointer e=>exact absurd rfl (h2 e)
            |_=>rfl
theorem Yb {xs:List Operand} {ts:Array TypeId} {g:Operand} {name:String} {f:FuncId} {T:TypeId} {z:Value} (ho:o.op= .call {callee:= .invoke g name,args:=xs.toArray,argTypes:=ts}) (hb:HasBody P f) (hm:aaq P T name=some f) (a:Act) (w:World) (hg:a.eval g= .iface T z):(execOp a.eval o).run P w= .ok (.enter f (z::xs.map a.eval).toArray) w:=by
 have e0:(#[Value.iface T z]++Array.map a.eval xs.toArray)[0]? =some (.iface T z):=by simp
 have e1:(#[Value.iface T z]++Array.map a.eval xs.toArray).extract 1 (#[Value.iface T z]++Array.map a.eval xs.toArray).size=(xs.map a.eval).toArray:=by
  apply Array.ext'
  simp
  exact List.take_of_length_le (by simp)
 simp only[execOp,ho,resolve,Sem.run_bind,Sem.run_pure,Result.andThen_ok,invoke,hg,callMethod,e0,e1,program]
 simp only[Sem.run,Result.andThen_ok]
 rw[show P.types.size+Made.depth=(P.types.size+(Made.depth-1))+1 from rfl,Ya hm,Result.andThen_ok,EN hb]
 congr 2
 apply Array.ext'
 simp
theorem ai2 {T:TypeId} {z:Value} (h:RV P ok w β (.ifc T v) z) (ht:∀us,v≠ .tup us):∃z',z= .iface T z'∧RV P ok w β v z':=by
 have h':=h.2 rfl
 cases h' with
 | @ifc1 _ _ z' hi h1=>exact⟨z',rfl,RV1.toRV ⟨fun hi'=>(by rw[hi] at hi';cases hi'),fun _=>h1⟩ ht⟩
 | @ifcA _ _ cs hi h1=>exact⟨_,rfl,RV1.toRV ⟨fun _=>⟨cs,rfl,h1⟩,fun hi'=>by rw[hi] at hi';cases hi'⟩ ht⟩
theorem alo {z:Value} (hn:v≠ .dead) (ht:∀us,v≠ .tup us) (h:RV P ok w β v z):RV P ok w β (.ifc T v) (.iface T z):=by
 have h1:=RV.to1 hn ht h
 refine⟨fun hi=>(by cases hi),fun _=>?_⟩
 cases hv:v.isAgg P with
 |true=>
  obtain⟨cs,rfl,h2⟩:=h1.1 hv
  exact .ifcA hv h2
 |false=>exact .ifc1 hv (h1.2 hv)
theorem aef {d:Nat} (ho:o.op= .makeInterface T x) (hd:o.dst=some d) (hn:d<n) (hc:Qc P T=true) (hx:Ev P σ x v) (h1:v≠ .dead) (h2:∀us,v≠ .tup us):bn P n o σ (σ.put d (.ifc T v)):=
 aG hd hn fun ok0 w0 a w β r=>by
  obtain⟨D,hu,hi,_⟩:=KW hc
  refine⟨.iface T (a.eval x),?_,alo h1 h2 (hx _ _ _ _ _ _ r)⟩
  simp only[execOp,ho,Instr.makeInterface,Sem.run_bind,run_underlying hu,Result.andThen_ok]
  cases D with
  |interface ms=>exact absurd rfl (hi ms)
  |_=>rfl
theorem aeg {f:FuncId} {as:List AV} {zs:List Value} {src:List Nat} {nm:Nat} {objs objs' hs'':List Ob}
  (hrun:(execOp a.eval o).run P w= .ok (.enter f zs.toArray) w)
  (hnd:src.Nodup) (hol:objs.length=src.length) (hobj:∀i l,src[i]? =some l→lk objs i=(lk σ.hs l).ren (ix src)) (hf:FX P f (AV.renL (ix src) as) objs res objs')
  (hfree:∀j,j<objs'.length-src.length→lk σ.hs (nm+j)= .free) (hk0:σ.k0≤nm) (hsf:∀l∈src,lk σ.hs l≠ .free) (hback:BackH src nm σ.hs objs' hs'')
  (r:RelB P K w0 n σ a w β) (ha:RVsX P (okOf K w0 w σ.hs β) w β as zs) (Kt:Act→World→Prop) (Q:Exit→Act→World→Prop)
  (hK:∀z w' β'',RelB P K w0 n ⟨σ.ts,hs'',σ.k0⟩ a w' β''→RV P (okOf K w0 w' hs'' β'') w' β'' (res.ren (bkN src nm)) z→Kt (a.put o.dst z) w'):o.wp P a w Kt Q:=by
 have hargs:=ha.ren (zl src β)
 have hXO:∀b,XO objs (sQ src β) b→∃l,l∈src∧owns σ.hs β l b:=by
  rintro b ⟨i,h1,z',h2,h3⟩
  simp only[sQ] at h2
  cases hs:src[i]? with
  |none=>rw[hs] at h2;cases h2
  |some l=>
   rw[hs] at h2
   rw[hobj i l hs,Ob.ren_own] at h1
   exact⟨l,List.mem_of_getElem? hs,h1,z',h2,h3⟩
 have hcall:=hf (okOf K w0 w σ.hs β) w (sQ src β) _ (fun b hb=>⟨hb.1,fun hx=>by obtain⟨l,_,hl⟩:=hXO b hx;exact hb.2.2 l hl⟩) (fun i=>by
   simp only[sQ]
   cases hs:src[i]? with
   |    none=>
        rw[pQ _ _ (by rw[hol];exact List.getElem?_eq_none_iff.1 hs)]
        rfl
   |    some l=>
        rw[hobj i l hs]
        exact ObOK.ren (zl src β) (r.hs l)) (fun i i' b h1 h2=>by
   have key:∀i,owns objs (sQ src β) i b→∃l,src[i]? =some l∧owns σ.hs β l b:=by
        rintro i ⟨h1,z',h2,h3⟩
        simp only[sQ] at h2
        cases hs:src[i]? with
        |none=>rw[hs] at h2;cases h2
        |some l=>
         rw[hs] at h2
         rw[hobj i l hs,Ob.ren_own] at h1
         exact⟨l,rfl,h1,z',h2,h3⟩
   obtain⟨l,e1,q1⟩:=key i h1
   obtain⟨l',e2,q2⟩:=key i' h2
   have e:=r.sep l l' b q1 q2
   subst e
   have hlt:=(List.getElem?_eq_some_iff.1 e1).1
   exact(List.getElem?_inj hlt hnd).1 (e1.trans e2.symm)) hargs r.tab
 unfold Oper.wp
 rw[hrun,Oper.upon_enter]
 refine hcall.mono ?_
 rintro e w' ⟨z,β',rfl,hfin,hz⟩
 obtain⟨β'',h1,h2⟩:=acS r hnd hol hobj hfree hk0 hsf hback hfin hz
 exact hK z w' β'' h1 h2
end
end Go.Am
